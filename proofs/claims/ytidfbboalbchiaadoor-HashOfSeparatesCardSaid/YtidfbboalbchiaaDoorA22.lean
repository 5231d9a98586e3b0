/- The walk of the law of streams; parts of slices. -/
import Derived.Test.YtidfbboalbchiaaDoorA21
namespace Go.Proofs.YtidfbboalbchiaaDoor
open Go Go.RowKit

theorem sub_to {w : World} {ad : Option Addr} {n c k : Nat} {xs : List Value} (h : Rd w ad n c 1 xs) (hk : k ≤ n) : Rd w (if c = 0 then ad else ad.map (·.add 0)) k c 1 (xs.take k) := by
  have hl := h.1
  refine ⟨by simp; omega, by have := h.2.1; omega, fun i u hu => ?_⟩
  have hi : i < k := by
    have := (List.getElem?_eq_some_iff.1 hu).1
    simp at this; omega
  rw [List.getElem?_take, if_pos hi] at hu
  obtain ⟨b, o, rfl, hc⟩ := h.2.2 i u hu
  refine ⟨b, o, ?_, hc⟩
  split
  · rfl
  · simp [Addr.add_lit]
theorem sub_from {w : World} {ad : Option Addr} {n c k : Nat} {xs : List Value} (h : Rd w ad n c 1 xs) (hk : k ≤ n) : Rd w (if c = k then ad else ad.map (·.add (k * 1))) (n - k) (c - k) 1 (xs.drop k) := by
  have hl := h.1
  have hn := h.2.1
  refine ⟨by simp; omega, by omega, fun i u hu => ?_⟩
  have hi : k + i < n := by
    have := (List.getElem?_eq_some_iff.1 hu).1
    simp at this; omega
  rw [List.getElem?_drop] at hu
  obtain ⟨b, o, rfl, hc⟩ := h.2.2 (k + i) u hu
  rw [if_neg (by omega)]
  exact ⟨b, o + k, by simp [Addr.add_lit], by rw [show o + k + i = o + (k + i) by omega]; exact hc⟩
theorem sub_mid {w : World} {ad : Option Addr} {n c i j : Nat} {xs : List Value} (h : Rd w ad n c 1 xs) (hij : i ≤ j) (hj : j ≤ n) : Rd w (if c = i then ad else ad.map (·.add (i * 1))) (j - i) (c - i) 1 ((xs.take j).drop i) := by
  have hl := h.1
  have hn := h.2.1
  refine ⟨by simp; omega, by omega, fun k u hu => ?_⟩
  have hi : i + k < j := by
    have := (List.getElem?_eq_some_iff.1 hu).1
    simp at this; omega
  rw [List.getElem?_drop, List.getElem?_take, if_pos hi] at hu
  obtain ⟨b, o, rfl, hc⟩ := h.2.2 (i + k) u hu
  rw [if_neg (by omega)]
  exact ⟨b, o + i, by simp [Addr.add_lit], by rw [show o + i + k = o + (i + k) by omega]; exact hc⟩
theorem IsS.arr {m : List UInt8} {v : Value} (h : IsS m v) : ∃ cs : Array Value, v = .agg cs ∧ cs.size = 73 ∧ ∀ u ∈ cs, u.oneCell' = true := by
  obtain ⟨cs, rfl, hl, h1⟩ := h.one
  exact ⟨cs.toArray, rfl, by simp [hl], h1⟩
theorem flat_le (k : Nat) (ps : List (List UInt8)) (h : ∀ x ∈ ps, x.length ≤ k) (j : Nat) : (ps.take j).flatten.length ≤ ps.length * k := by
  have h1 := join_len k (ps.take j) fun y hy => h y (List.mem_of_mem_take hy)
  have h2 : (ps.take j).length * k ≤ ps.length * k := Nat.mul_le_mul_right _ (by simp; omega)
  omega
theorem eg24' : Tryd.prog.eqGuardType Tryd.prog.depth 24 = false := eg24

set_option maxRecDepth 4000 in
set_option maxHeartbeats 1000000 in
theorem c4 (ps : List (List UInt8)) (t : List UInt8) (x₀ : UInt8) (ad : Option Addr) (c : Nat) (w0 : World) (hR : Rs w0 ad ps.length c ps) (hn : ps.length ≤ 9223372036854775807) (hG : GH w0) (hGR : GR w0) : Calls Tryd.prog 4 #[.slice ad ps.length c, Str t, B x₀] w0 fun e w' => e = .returned (.bool true) ∧ Ext w0 w' := by
  rcases (by cases few ps <;> simp <;> omega : few ps = false ∨ (few ps = true ∧ t.length > 400) ∨ (few ps = true ∧ t.length ≤ 400)) with hf | ⟨hf, hc⟩ | ⟨hf, hc⟩
  · refine start 102 Tryd.func4 rfl rfl rfl fun a hk => ?_
    have hB : Ext w0 w0 := Below.refl _ _
    refine wp_seq_k fun K1 hK1 => ?_
    refine wp_region_lit ?_
    refine ls hk rfl rfl rfl (e_assign hk rfl _) fun a hk => ?_
    refine lnil (hK1 _ _ ?_)
    refine wp_seq_k fun K2 hK2 => ?_
    refine wp_region_lit ?_
    refine la hk rfl (a_call hk rfl rfl (c_fn (vs := []) hk rfl ok22) (c22 _ (hG.ext hB)) ?_)
    rintro e w ⟨rfl, hE⟩
    refine ⟨_, rfl, fun a hk => ?_⟩
    have hB := ext_trans hB hE
    clear hE
    refine ls hk rfl rfl rfl (e_assign hk rfl _) fun a hk => ?_
    refine lnil (hK2 _ _ ?_)
    refine wp_seq_k fun K3 hK3 => ?_
    refine wp_seq_k fun K4 hK4 => ?_
    refine wp_region_lit ?_
    refine ls hk rfl rfl rfl (e_move hk rfl _) fun a hk => ?_
    refine la hk rfl (a_call hk rfl rfl (c_fn hk rfl ok25) (c25 ps ad c _ (Rd.ext hR hB) (by omega)) ?_)
    rintro e w ⟨rfl, hE⟩
    refine ⟨_, rfl, fun a hk => ?_⟩
    have hB := ext_trans hB hE
    rw [hf] at hk
    clear hE
    refine ls hk rfl rfl rfl (e_not hk rfl _) fun a hk => ?_
    refine ls hk rfl rfl rfl (e_move hk rfl _) fun a hk => ?_
    refine lno hk rfl rfl rfl fun a hk => ?_
    refine lno hk rfl rfl rfl fun a hk => ?_
    refine lno hk rfl rfl rfl fun a hk => ?_
    refine ls hk rfl rfl rfl (e_pickT hk rfl rfl _) fun a hk => ?_
    refine lnil (hK4 _ _ ?_)
    refine cdT hk rfl ?_
    refine wp_seq_k fun K5 hK5 => ?_
    refine wp_region_lit ?_
    refine ls hk rfl rfl rfl (e_move hk rfl _) fun a hk => ?_
    refine ls hk rfl rfl rfl (e_assign hk rfl _) fun a hk => ?_
    refine lnil (hK5 _ _ ?_)
    refine wp_ret ?_
    simp only [then_ret]
    exact ret1 hk rfl rfl ⟨rfl, hB⟩
  · refine start 102 Tryd.func4 rfl rfl rfl fun a hk => ?_
    have hB : Ext w0 w0 := Below.refl _ _
    refine wp_seq_k fun K1 hK1 => ?_
    refine wp_region_lit ?_
    refine ls hk rfl rfl rfl (e_assign hk rfl _) fun a hk => ?_
    refine lnil (hK1 _ _ ?_)
    refine wp_seq_k fun K2 hK2 => ?_
    refine wp_region_lit ?_
    refine la hk rfl (a_call hk rfl rfl (c_fn (vs := []) hk rfl ok22) (c22 _ (hG.ext hB)) ?_)
    rintro e w ⟨rfl, hE⟩
    refine ⟨_, rfl, fun a hk => ?_⟩
    have hB := ext_trans hB hE
    clear hE
    refine ls hk rfl rfl rfl (e_assign hk rfl _) fun a hk => ?_
    refine lnil (hK2 _ _ ?_)
    refine wp_seq_k fun K3 hK3 => ?_
    refine wp_seq_k fun K4 hK4 => ?_
    refine wp_region_lit ?_
    refine ls hk rfl rfl rfl (e_move hk rfl _) fun a hk => ?_
    refine la hk rfl (a_call hk rfl rfl (c_fn hk rfl ok25) (c25 ps ad c _ (Rd.ext hR hB) (by omega)) ?_)
    rintro e w ⟨rfl, hE⟩
    refine ⟨_, rfl, fun a hk => ?_⟩
    have hB := ext_trans hB hE
    rw [hf] at hk
    clear hE
    refine ls hk rfl rfl rfl (e_not hk rfl _) fun a hk => ?_
    refine ls hk rfl rfl rfl (e_move hk rfl _) fun a hk => ?_
    refine ls hk rfl rfl rfl (e_move hk rfl _) fun a hk => ?_
    refine ls hk rfl rfl rfl (e_lenStr hk rfl Tryd.underlying9 _) fun a hk => ?_
    refine ls hk rfl rfl rfl (e_gtr (b := true) hk rfl rfl (decide_eq_true (by omega)) _) fun a hk => ?_
    refine ls hk rfl rfl rfl (e_pickF hk rfl rfl _) fun a hk => ?_
    refine lnil (hK4 _ _ ?_)
    refine cdT hk rfl ?_
    refine wp_seq_k fun K5 hK5 => ?_
    refine wp_region_lit ?_
    refine ls hk rfl rfl rfl (e_move hk rfl _) fun a hk => ?_
    refine ls hk rfl rfl rfl (e_assign hk rfl _) fun a hk => ?_
    refine lnil (hK5 _ _ ?_)
    refine wp_ret ?_
    simp only [then_ret]
    exact ret1 hk rfl rfl ⟨rfl, hB⟩
  · have ⟨h12, hall⟩ := (few_iff ps).1 hf
    have hx256 := x₀.toNat_lt
    refine start 102 Tryd.func4 rfl rfl rfl fun a hk => ?_
    have hB : Ext w0 w0 := Below.refl _ _
    refine wp_seq_k fun K1 hK1 => ?_
    refine wp_region_lit ?_
    refine ls hk rfl rfl rfl (e_assign hk rfl _) fun a hk => ?_
    refine lnil (hK1 _ _ ?_)
    refine wp_seq_k fun K2 hK2 => ?_
    refine wp_region_lit ?_
    refine la hk rfl (a_call hk rfl rfl (c_fn (vs := []) hk rfl ok22) (c22 _ (hG.ext hB)) ?_)
    rintro e w ⟨rfl, hE⟩
    refine ⟨_, rfl, fun a hk => ?_⟩
    have hB := ext_trans hB hE
    clear hE
    refine ls hk rfl rfl rfl (e_assign hk rfl _) fun a hk => ?_
    refine lnil (hK2 _ _ ?_)
    refine wp_seq_k fun K3 hK3 => ?_
    refine wp_seq_k fun K4 hK4 => ?_
    refine wp_region_lit ?_
    refine ls hk rfl rfl rfl (e_move hk rfl _) fun a hk => ?_
    refine la hk rfl (a_call hk rfl rfl (c_fn hk rfl ok25) (c25 ps ad c _ (Rd.ext hR hB) (by omega)) ?_)
    rintro e w ⟨rfl, hE⟩
    refine ⟨_, rfl, fun a hk => ?_⟩
    have hB := ext_trans hB hE
    rw [hf] at hk
    clear hE
    refine ls hk rfl rfl rfl (e_not hk rfl _) fun a hk => ?_
    refine ls hk rfl rfl rfl (e_move hk rfl _) fun a hk => ?_
    refine ls hk rfl rfl rfl (e_move hk rfl _) fun a hk => ?_
    refine ls hk rfl rfl rfl (e_lenStr hk rfl Tryd.underlying9 _) fun a hk => ?_
    refine ls hk rfl rfl rfl (e_gtr (b := false) hk rfl rfl (decide_eq_false (by omega)) _) fun a hk => ?_
    refine ls hk rfl rfl rfl (e_pickF hk rfl rfl _) fun a hk => ?_
    refine lnil (hK4 _ _ ?_)
    refine cdF hk rfl ?_
    refine wp_skip (hK3 _ _ ?_)
    refine wp_seq_k fun K5 hK5 => ?_
    refine wp_region_lit ?_
    refine ls hk rfl rfl rfl (e_move hk rfl _) fun a hk => ?_
    refine ls hk rfl rfl rfl (e_conv hk rfl Tryd.underlying5 Tryd.underlying3 (i64 (by omega) (by omega)) _) fun a hk => ?_
    refine ls hk rfl rfl rfl (e_move hk rfl _) fun a hk => ?_
    refine ls hk rfl rfl rfl (e_lenS hk rfl Tryd.underlying27 _) fun a hk => ?_
    refine ls hk rfl rfl rfl (e_add hk rfl rfl (i64 (by omega) (by omega)) _) fun a hk => ?_
    refine ls hk rfl rfl rfl (e_rem (q := ((x₀.toNat % (ps.length + 1) : Nat) : Int)) hk rfl rfl (by omega) (by rw [show ((ps.length : Int) + 1) = ((ps.length + 1 : Nat) : Int) by omega]; exact i_rem x₀.toNat (ps.length + 1)) _) fun a hk => ?_
    refine ls hk rfl rfl rfl (e_assign hk rfl _) fun a hk => ?_
    refine lnil (hK5 _ _ ?_)
    refine wp_seq_k fun K6 hK6 => ?_
    have hkl : x₀.toNat % (ps.length + 1) < ps.length + 1 := Nat.mod_lt _ (by omega)
    generalize x₀.toNat % (ps.length + 1) = k at hk hkl
    refine wp_region_lit ?_
    refine la hk rfl (a_call hk rfl rfl (c_fn (vs := []) hk rfl ok26) (c26 _) ?_)
    rintro e w ⟨v, rfl, hIs, hE⟩
    obtain ⟨cs, rfl, hcs, hc1⟩ := hIs.arr
    refine ⟨_, rfl, fun a hk => ?_⟩
    have hB := ext_trans hB hE
    clear hE
    refine la hk rfl (a_alloc hk rfl zr34 fun a w b9 hk G => ?_)
    have hg_b9 : w0.heap.size ≤ b9 := Nat.le_trans hB.size G.ge
    have hB := ext_trans hB G.ext
    have h_b9 := G.at_
    clear G
    refine la hk rfl (a_storeB hk rfl rfl hc1 (by rw [sz34, hcs]) h_b9 (by rw [hcs]; rfl) fun a w hk W => ?_)
    have hB := W.below hB hg_b9
    have h_b9 := W.at_
    clear W
    have hIs : IsS (ps.take 0).flatten (.agg cs) := hIs
    refine lnil (hK6 _ _ ?_)
    refine wp_seq_k fun K7 hK7 => ?_
    refine wp_seq_k fun K8 hK8 => ?_
    refine wp_region_lit ?_
    refine ls hk rfl rfl rfl (e_assign hk rfl _) fun a hk => ?_
    refine lnil (hK8 _ _ ?_)
    refine wp_block ?_
    refine loopN (fun n a w => ∃ i : Nat, ∃ (v9 : Array Value), n = k - i ∧ i ≤ k ∧ Kn a 102 [(0, .slice ad ps.length c), (1, Str t), (7, .bool true), (8, I k), (9, .pointer (some ⟨b9, 0, none⟩)), (10, I i)] ∧ (Ext w0 w) ∧ (w.heap[b9]? = some (.cells v9 34 (0, 0))) ∧ (IsS (ps.take i).flatten (.agg v9)) ∧ (v9.size = 73)) (k - 0) ?_ fun n a w hI => ?_
    · exact ⟨0, _, rfl, by omega, hk.sub _ ⟨rfl, rfl, rfl, rfl, rfl, rfl, trivial⟩, hB, h_b9, hIs, hcs⟩
    clear hk hB h_b9 hIs
    obtain ⟨i, v9, rfl, hi_le, hk, hB, h_b9, hIs, h73⟩ := hI
    refine wp_seq_k fun K9 hK9 => ?_
    refine wp_seq_k fun K10 hK10 => ?_
    refine wp_region_lit ?_
    refine ls hk rfl rfl rfl (e_move hk rfl _) fun a hk => ?_
    refine ls hk rfl rfl rfl (e_move hk rfl _) fun a hk => ?_
    refine ls hk rfl rfl rfl (e_lss hk rfl rfl rfl _) fun a hk => ?_
    refine lnil (hK10 _ _ ?_)
    refine cdB hk rfl (fun hb => ?_) (fun hb => ?_)
    · have hik : i < k := by have := of_decide_eq_true hb; omega
      have hil : i < ps.length := by omega
      obtain ⟨x, hx⟩ : ∃ x, ps[i]? = some x := ⟨_, List.getElem?_eq_getElem hil⟩
      obtain ⟨bp, op, rfl, hcell⟩ := Rs.get (Rd.below hR hB (Nat.le_refl _)) i x hx
      have hxl := hall x (List.mem_of_getElem? hx)
      have hfl := flat_le 400 ps hall i
      refine wp_skip (hK9 _ _ ?_)
      refine wp_seq_k fun K11 hK11 => ?_
      refine wp_block ?_
      refine wp_region_ok (fun _ => True) [1, 0, 0, 0, 1, 2, 2] mixed ?_
      have hB := hB.drew
      have h_b9 := ext_at (ext_drew w) h_b9
      refine d1 0 hk rfl (by kernel_rfl) rfl rfl rfl rfl (r_loadB hk rfl h_b9 Tryd.underlying34 rfl (by rw [sz34]; first | rfl | simp [*])) fun a hk => ?_
      refine d0 1 hk rfl (by kernel_rfl) rfl rfl rfl rfl (fun _ => e_move hk rfl _) fun a hk => ?_
      refine d0 2 hk rfl (by kernel_rfl) rfl rfl rfl rfl (fun _ => e_move hk rfl _) fun a hk => ?_
      refine d0 3 hk rfl (by kernel_rfl) rfl rfl rfl rfl (fun _ => e_idxS1 i hk rfl rfl Tryd.underlying27 sz9 rfl hil _) fun a hk => ?_
      refine d1 4 hk rfl (by kernel_rfl) rfl rfl rfl rfl (r_load1 (v := Str x) hk rfl Tryd.underlying9 rfl (ext_cell (ext_drew _) hcell)) fun a hk => ?_
      refine da 5 hk rfl (by kernel_rfl) rfl rfl (a_call hk rfl rfl (c_fn hk rfl ok27) (c27 (ps.take i).flatten x _ _ hIs (hG.ext hB) (by omega)) ?_)
      rintro e w ⟨v, rfl, hIs2, hE⟩
      obtain ⟨cs, rfl, hcs, hc1⟩ := IsS.arr hIs2
      refine ⟨_, rfl, fun a hk => ?_⟩
      have h_b9 := ext_at hE h_b9
      have hB := ext_trans hB hE
      clear hE
      refine da 6 hk rfl (by kernel_rfl) rfl rfl (a_storeB hk rfl rfl hc1 (by rw [sz34, hcs]) h_b9 (by rw [h73, hcs]) fun a w hk W => ?_)
      have hB := W.below hB hg_b9
      have h_b9 := W.at_
      clear W
      clear hIs
      have hIs : IsS (ps.take (i + 1)).flatten (.agg cs) := by rw [join_take ps i x hx]; exact hIs2
      clear h73
      have h73 := hcs
      refine okFin (by kernel_rfl) (hK11 _ _ ?_)
      refine wp_region_lit ?_
      refine ls hk rfl rfl rfl (e_move hk rfl _) fun a hk => ?_
      refine ls hk rfl rfl rfl (e_add hk rfl rfl (i64 (by omega) (by omega)) _) fun a hk => ?_
      refine ls hk rfl rfl rfl (e_assign hk rfl _) fun a hk => ?_
      refine lnil (show ∃ m : Nat, m < _ ∧ _ from ⟨k - (i + 1), by omega, i + 1, _, rfl, by omega, hk.sub _ ⟨rfl, rfl, rfl, rfl, rfl, rfl, trivial⟩, hB, h_b9, hIs, h73⟩)
    · have hik : i = k := by have := of_decide_eq_false hb; omega
      subst hik
      refine wp_exit (hK7 _ _ ?_)
      refine wp_seq_k fun K12 hK12 => ?_
      refine wp_region_lit ?_
      refine ls hk rfl rfl rfl (r_loadB hk rfl h_b9 Tryd.underlying34 rfl (by rw [sz34]; first | rfl | simp [*])) fun a hk => ?_
      refine la hk rfl (a_alloc hk rfl zr34 fun a w b11 hk G => ?_)
      have n_b9_b11 : b9 ≠ b11 := G.ne h_b9
      have hg_b11 : w0.heap.size ≤ b11 := Nat.le_trans hB.size G.ge
      have h_b9 := ext_at G.ext h_b9
      have hB := ext_trans hB G.ext
      have h_b11 := G.at_
      clear G
      refine la hk rfl (a_storeB hk rfl rfl (hIs.arr.elim fun _ h => by obtain ⟨e, _, h1⟩ := h; cases e; exact h1) (by rw [sz34, h73]) h_b11 (by rw [h73]; rfl) fun a w hk W => ?_)
      have h_b9 := W.keep n_b9_b11 h_b9
      have hB := W.below hB hg_b11
      have h_b11 := W.at_
      clear W
      refine lnil (hK12 _ _ ?_)
      refine wp_seq_k fun K13 hK13 => ?_
      refine wp_seq_k fun K14 hK14 => ?_
      have hIs11 := hIs
      obtain ⟨v11, hv11⟩ : ∃ v, v = v9 := ⟨_, rfl⟩
      rw [← hv11] at h_b11 hIs11
      have h73b : v11.size = 73 := by rw [hv11]; exact h73
      clear hv11
      refine wp_region_lit ?_
      refine ls hk rfl rfl rfl (e_move hk rfl _) fun a hk => ?_
      refine ls hk rfl rfl rfl (e_assign hk rfl _) fun a hk => ?_
      refine lnil (hK14 _ _ ?_)
      refine wp_block ?_
      refine loopN (fun n a w => ∃ j : Nat, ∃ (v9 : Array Value), n = ps.length - j ∧ j ≤ ps.length ∧ Kn a 102 [(0, .slice ad ps.length c), (1, Str t), (7, .bool true), (8, I i), (9, .pointer (some ⟨b9, 0, none⟩)), (11, .pointer (some ⟨b11, 0, none⟩)), (12, I j)] ∧ (Ext w0 w) ∧ (w.heap[b11]? = some (.cells v11 34 (0, 0))) ∧ (w.heap[b9]? = some (.cells v9 34 (0, 0))) ∧ (IsS (ps.take j).flatten (.agg v9)) ∧ (v9.size = 73)) (ps.length - i) ?_ fun n a w hI => ?_
      · skip
        exact ⟨i, _, rfl, by omega, hk.sub _ ⟨rfl, rfl, rfl, rfl, rfl, rfl, rfl, trivial⟩, hB, h_b11, h_b9, hIs, h73⟩
      clear hk hB h_b11 h_b9 hIs h73
      obtain ⟨j, v9, rfl, hi_le, hk, hB, h_b11, h_b9, hIs, h73⟩ := hI
      refine wp_seq_k fun K15 hK15 => ?_
      refine wp_seq_k fun K16 hK16 => ?_
      refine wp_region_lit ?_
      refine ls hk rfl rfl rfl (e_move hk rfl _) fun a hk => ?_
      refine ls hk rfl rfl rfl (e_move hk rfl _) fun a hk => ?_
      refine ls hk rfl rfl rfl (e_lenS hk rfl Tryd.underlying27 _) fun a hk => ?_
      refine ls hk rfl rfl rfl (e_lss hk rfl rfl rfl _) fun a hk => ?_
      refine lnil (hK16 _ _ ?_)
      refine cdB hk rfl (fun hb => ?_) (fun hb => ?_)
      · have hil : j < ps.length := by have := of_decide_eq_true hb; omega
        obtain ⟨x, hx⟩ : ∃ x, ps[j]? = some x := ⟨_, List.getElem?_eq_getElem hil⟩
        obtain ⟨bp, op, rfl, hcell⟩ := Rs.get (Rd.below hR hB (Nat.le_refl _)) j x hx
        have hxl := hall x (List.mem_of_getElem? hx)
        have hfl := flat_le 400 ps hall j
        refine wp_skip (hK15 _ _ ?_)
        refine wp_seq_k fun K17 hK17 => ?_
        refine wp_block ?_
        refine wp_region_ok (fun _ => True) [1, 0, 0, 0, 1, 2, 2] mixed ?_
        have hB := hB.drew
        have h_b11 := ext_at (ext_drew w) h_b11
        have h_b9 := ext_at (ext_drew w) h_b9
        refine d1 0 hk rfl (by kernel_rfl) rfl rfl rfl rfl (r_loadB hk rfl h_b9 Tryd.underlying34 rfl (by rw [sz34]; first | rfl | simp [*])) fun a hk => ?_
        refine d0 1 hk rfl (by kernel_rfl) rfl rfl rfl rfl (fun _ => e_move hk rfl _) fun a hk => ?_
        refine d0 2 hk rfl (by kernel_rfl) rfl rfl rfl rfl (fun _ => e_move hk rfl _) fun a hk => ?_
        refine d0 3 hk rfl (by kernel_rfl) rfl rfl rfl rfl (fun _ => e_idxS1 j hk rfl rfl Tryd.underlying27 sz9 rfl hil _) fun a hk => ?_
        refine d1 4 hk rfl (by kernel_rfl) rfl rfl rfl rfl (r_load1 (v := Str x) hk rfl Tryd.underlying9 rfl (ext_cell (ext_drew _) hcell)) fun a hk => ?_
        refine da 5 hk rfl (by kernel_rfl) rfl rfl (a_call hk rfl rfl (c_fn hk rfl ok27) (c27 (ps.take j).flatten x _ _ hIs (hG.ext hB) (by omega)) ?_)
        rintro e w ⟨v, rfl, hIs2, hE⟩
        obtain ⟨cs, rfl, hcs, hc1⟩ := IsS.arr hIs2
        refine ⟨_, rfl, fun a hk => ?_⟩
        have h_b11 := ext_at hE h_b11
        have h_b9 := ext_at hE h_b9
        have hB := ext_trans hB hE
        clear hE
        refine da 6 hk rfl (by kernel_rfl) rfl rfl (a_storeB hk rfl rfl hc1 (by rw [sz34, hcs]) h_b9 (by rw [h73, hcs]) fun a w hk W => ?_)
        have h_b11 := W.keep (Ne.symm n_b9_b11) h_b11
        have hB := W.below hB hg_b9
        have h_b9 := W.at_
        clear W
        clear hIs
        have hIs : IsS (ps.take (j + 1)).flatten (.agg cs) := by rw [join_take ps j x hx]; exact hIs2
        clear h73
        have h73 := hcs
        refine okFin (by kernel_rfl) (hK17 _ _ ?_)
        refine wp_region_lit ?_
        refine ls hk rfl rfl rfl (e_move hk rfl _) fun a hk => ?_
        refine ls hk rfl rfl rfl (e_add hk rfl rfl (i64 (by omega) (by omega)) _) fun a hk => ?_
        refine ls hk rfl rfl rfl (e_assign hk rfl _) fun a hk => ?_
        refine lnil (show ∃ m : Nat, m < _ ∧ _ from ⟨ps.length - (j + 1), by omega, j + 1, _, rfl, by omega, hk.sub _ ⟨rfl, rfl, rfl, rfl, rfl, rfl, rfl, trivial⟩, hB, h_b11, h_b9, hIs, h73⟩)
      · have hil : j = ps.length := by have := of_decide_eq_false hb; omega
        subst hil
        rw [List.take_length] at hIs
        have hfl := flat_le 400 ps hall ps.length
        rw [List.take_length] at hfl
        have hfk := flat_le 400 ps hall i
        refine wp_exit (hK13 _ _ ?_)
        refine wp_seq_k fun K18 hK18 => ?_
        refine wp_region_lit ?_
        refine ls hk rfl rfl rfl (r_loadB hk rfl h_b11 Tryd.underlying34 rfl (by rw [sz34, h73b])) fun a hk => ?_
        refine ls hk rfl rfl rfl (e_move hk rfl _) fun a hk => ?_
        refine la hk rfl (a_call hk rfl rfl (c_fn hk rfl ok27) (c27 (ps.take i).flatten t _ _ hIs11 (hG.ext hB) (by omega)) ?_)
        rintro e w ⟨v, rfl, hIs13, hE⟩
        obtain ⟨v13, rfl, hcs, hc1⟩ := IsS.arr hIs13
        refine ⟨_, rfl, fun a hk => ?_⟩
        have h_b11 := ext_at hE h_b11
        have h_b9 := ext_at hE h_b9
        have hB := ext_trans hB hE
        clear hE
        refine la hk rfl (a_alloc hk rfl zr34 fun a w b13 hk G => ?_)
        have n_b11_b13 : b11 ≠ b13 := G.ne h_b11
        have n_b9_b13 : b9 ≠ b13 := G.ne h_b9
        have hg_b13 : w0.heap.size ≤ b13 := Nat.le_trans hB.size G.ge
        have h_b11 := ext_at G.ext h_b11
        have h_b9 := ext_at G.ext h_b9
        have hB := ext_trans hB G.ext
        have h_b13 := G.at_
        clear G
        refine la hk rfl (a_storeB hk rfl rfl hc1 (by rw [sz34, hcs]) h_b13 (by rw [hcs]; rfl) fun a w hk W => ?_)
        have h_b11 := W.keep n_b11_b13 h_b11
        have h_b9 := W.keep n_b9_b13 h_b9
        have hB := W.below hB hg_b13
        have h_b13 := W.at_
        clear W
        refine lnil (hK18 _ _ ?_)
        refine wp_seq_k fun K19 hK19 => ?_
        refine wp_region_lit ?_
        refine ls hk rfl rfl rfl (e_move hk rfl _) fun a hk => ?_
        refine la hk rfl (a_call hk rfl rfl (c_fn hk rfl ok28) (c28 ps ad c _ (Rd.ext hR hB) (by omega) (fun x hx => by have := hall x hx; omega)) ?_)
        rintro e w ⟨rfl, hE⟩
        refine ⟨_, rfl, fun a hk => ?_⟩
        have h_b11 := ext_at hE h_b11
        have h_b9 := ext_at hE h_b9
        have h_b13 := ext_at hE h_b13
        have hB := ext_trans hB hE
        clear hE
        refine ls hk rfl rfl rfl (e_assign hk rfl _) fun a hk => ?_
        refine lnil (hK19 _ _ ?_)
        refine wp_seq_k fun K20 hK20 => ?_
        refine wp_region_lit ?_
        refine ls hk rfl rfl rfl (e_move hk rfl _) fun a hk => ?_
        refine ls hk rfl rfl rfl (e_move hk rfl _) fun a hk => ?_
        refine ls hk rfl rfl rfl (e_slSto hk rfl rfl Tryd.underlying27 sz9 (by omega) (by have := hR.2.1; omega) _) fun a hk => ?_
        have hRk := sub_to (Rd.ext hR hB) (k := i) (by omega)
        rw [← List.map_take] at hRk
        generalize (if c = 0 then ad else ad.map (·.add 0)) = adk at hk hRk
        have hRk : Rs w adk i c (ps.take i) := hRk
        have hlk : (ps.take i).length = i := by simp; omega
        rw [Int.toNat_natCast] at hk
        have hk := hk.lift 65 (v := .slice adk (ps.take i).length c) (by rw [hlk]; rfl)
        refine la hk rfl (a_call hk rfl rfl (c_fn hk rfl ok28) (c28 (ps.take i) adk c _ (by rw [hlk]; exact hRk) (by omega) (fun x hx => by have := hall x (List.mem_of_mem_take hx); omega)) ?_)
        rintro e w ⟨rfl, hE⟩
        refine ⟨_, rfl, fun a hk => ?_⟩
        have h_b11 := ext_at hE h_b11
        have h_b9 := ext_at hE h_b9
        have h_b13 := ext_at hE h_b13
        have hB := ext_trans hB hE
        clear hE
        refine ls hk rfl rfl rfl (e_assign hk rfl _) fun a hk => ?_
        refine lnil (hK20 _ _ ?_)
        refine wp_seq_k fun K21 hK21 => ?_
        refine wp_region_lit ?_
        refine ls hk rfl rfl rfl (e_move hk rfl _) fun a hk => ?_
        refine ls hk rfl rfl rfl (e_move hk rfl _) fun a hk => ?_
        refine ls hk rfl rfl rfl (r_loadB hk rfl h_b9 Tryd.underlying34 rfl (by rw [sz34, h73])) fun a hk => ?_
        refine la hk rfl (a_call hk rfl rfl (c_fn hk rfl ok29) (c29 ps.flatten _ _ hIs (hG.ext hB) (by omega)) ?_)
        rintro e w ⟨rfl, hE⟩
        refine ⟨_, rfl, fun a hk => ?_⟩
        have h_b11 := ext_at hE h_b11
        have h_b9 := ext_at hE h_b9
        have h_b13 := ext_at hE h_b13
        have hB := ext_trans hB hE
        clear hE
        refine ls hk rfl rfl rfl (e_move hk rfl _) fun a hk => ?_
        refine la hk rfl (a_bytes hk rfl rfl Tryd.underlying9 Tryd.underlying22 Tryd.underlying5 fun a w bb cc hk hgb hE hRb => ?_)
        have h_b9 := ext_at hE h_b9
        have h_b11 := ext_at hE h_b11
        have h_b13 := ext_at hE h_b13
        have hB := ext_trans hB hE
        refine la hk rfl (a_call hk rfl rfl (c_fn hk rfl ok24) (c24 (ps.flatten) _ _ _ hRb (hGR.ext hB) (by first | omega | (simp only [List.length_append]; omega))) ?_)
        rintro e w ⟨rfl, hE⟩
        refine ⟨_, rfl, fun a hk => ?_⟩
        have h_b11 := ext_at hE h_b11
        have h_b9 := ext_at hE h_b9
        have h_b13 := ext_at hE h_b13
        have hB := ext_trans hB hE
        clear hE
        refine ls hk rfl rfl rfl (e_eqA (l := sha (ps.flatten)) (r := sha (ps.flatten)) (b := true) hk rfl rfl Tryd.underlying24 Tryd.underlying5 sz5 (length_sha _) (length_sha _) eg24 (decide_eq_true rfl) _) fun a hk => ?_
        refine ls hk rfl rfl rfl (e_pickT hk rfl rfl _) fun a hk => ?_
        refine ls hk rfl rfl rfl (e_move hk rfl _) fun a hk => ?_
        refine ls hk rfl rfl rfl (r_loadB hk rfl h_b11 Tryd.underlying34 rfl (by rw [sz34, h73b])) fun a hk => ?_
        refine la hk rfl (a_call hk rfl rfl (c_fn hk rfl ok29) (c29 (ps.take i).flatten _ _ hIs11 (hG.ext hB) (by omega)) ?_)
        rintro e w ⟨rfl, hE⟩
        refine ⟨_, rfl, fun a hk => ?_⟩
        have h_b11 := ext_at hE h_b11
        have h_b9 := ext_at hE h_b9
        have h_b13 := ext_at hE h_b13
        have hB := ext_trans hB hE
        clear hE
        refine ls hk rfl rfl rfl (e_move hk rfl _) fun a hk => ?_
        refine la hk rfl (a_bytes hk rfl rfl Tryd.underlying9 Tryd.underlying22 Tryd.underlying5 fun a w bb cc hk hgb hE hRb => ?_)
        have h_b9 := ext_at hE h_b9
        have h_b11 := ext_at hE h_b11
        have h_b13 := ext_at hE h_b13
        have hB := ext_trans hB hE
        refine la hk rfl (a_call hk rfl rfl (c_fn hk rfl ok24) (c24 ((ps.take i).flatten) _ _ _ hRb (hGR.ext hB) (by first | omega | (simp only [List.length_append]; omega))) ?_)
        rintro e w ⟨rfl, hE⟩
        refine ⟨_, rfl, fun a hk => ?_⟩
        have h_b11 := ext_at hE h_b11
        have h_b9 := ext_at hE h_b9
        have h_b13 := ext_at hE h_b13
        have hB := ext_trans hB hE
        clear hE
        refine ls hk rfl rfl rfl (e_eqA (l := sha ((ps.take i).flatten)) (r := sha ((ps.take i).flatten)) (b := true) hk rfl rfl Tryd.underlying24 Tryd.underlying5 sz5 (length_sha _) (length_sha _) eg24 (decide_eq_true rfl) _) fun a hk => ?_
        refine ls hk rfl rfl rfl (e_pickT hk rfl rfl _) fun a hk => ?_
        refine ls hk rfl rfl rfl (e_move hk rfl _) fun a hk => ?_
        refine ls hk rfl rfl rfl (r_loadB hk rfl h_b13 Tryd.underlying34 rfl (by rw [sz34, hcs])) fun a hk => ?_
        refine la hk rfl (a_call hk rfl rfl (c_fn hk rfl ok29) (c29 ((ps.take i).flatten ++ t) _ _ hIs13 (hG.ext hB) (by simp only [List.length_append]; omega)) ?_)
        rintro e w ⟨rfl, hE⟩
        refine ⟨_, rfl, fun a hk => ?_⟩
        have h_b11 := ext_at hE h_b11
        have h_b9 := ext_at hE h_b9
        have h_b13 := ext_at hE h_b13
        have hB := ext_trans hB hE
        clear hE
        refine ls hk rfl rfl rfl (e_move hk rfl _) fun a hk => ?_
        refine ls hk rfl rfl rfl (e_move hk rfl _) fun a hk => ?_
        refine ls hk rfl rfl rfl (e_sadd (s := (ps.take i).flatten) (u := t) hk rfl rfl (by omega) _) fun a hk => ?_
        refine la hk rfl (a_bytes hk rfl rfl Tryd.underlying9 Tryd.underlying22 Tryd.underlying5 fun a w bb cc hk hgb hE hRb => ?_)
        have h_b9 := ext_at hE h_b9
        have h_b11 := ext_at hE h_b11
        have h_b13 := ext_at hE h_b13
        have hB := ext_trans hB hE
        refine la hk rfl (a_call hk rfl rfl (c_fn hk rfl ok24) (c24 ((ps.take i).flatten ++ t) _ _ _ hRb (hGR.ext hB) (by first | omega | (simp only [List.length_append]; omega))) ?_)
        rintro e w ⟨rfl, hE⟩
        refine ⟨_, rfl, fun a hk => ?_⟩
        have h_b11 := ext_at hE h_b11
        have h_b9 := ext_at hE h_b9
        have h_b13 := ext_at hE h_b13
        have hB := ext_trans hB hE
        clear hE
        refine ls hk rfl rfl rfl (e_eqA (l := sha ((ps.take i).flatten ++ t)) (r := sha ((ps.take i).flatten ++ t)) (b := true) hk rfl rfl Tryd.underlying24 Tryd.underlying5 sz5 (length_sha _) (length_sha _) eg24 (decide_eq_true rfl) _) fun a hk => ?_
        refine ls hk rfl rfl rfl (e_pickT hk rfl rfl _) fun a hk => ?_
        refine ls hk rfl rfl rfl (e_move hk rfl _) fun a hk => ?_
        refine ls hk rfl rfl rfl (r_loadB hk rfl h_b9 Tryd.underlying34 rfl (by rw [sz34, h73])) fun a hk => ?_
        refine la hk rfl (a_call hk rfl rfl (c_fn hk rfl ok29) (c29 ps.flatten _ _ hIs (hG.ext hB) (by omega)) ?_)
        rintro e w ⟨rfl, hE⟩
        refine ⟨_, rfl, fun a hk => ?_⟩
        have h_b11 := ext_at hE h_b11
        have h_b9 := ext_at hE h_b9
        have h_b13 := ext_at hE h_b13
        have hB := ext_trans hB hE
        clear hE
        refine ls hk rfl rfl rfl (e_move hk rfl _) fun a hk => ?_
        refine la hk rfl (a_bytes hk rfl rfl Tryd.underlying9 Tryd.underlying22 Tryd.underlying5 fun a w bb cc hk hgb hE hRb => ?_)
        have h_b9 := ext_at hE h_b9
        have h_b11 := ext_at hE h_b11
        have h_b13 := ext_at hE h_b13
        have hB := ext_trans hB hE
        refine la hk rfl (a_call hk rfl rfl (c_fn hk rfl ok23) (c23 (ps.flatten) _ _ _ _ hRb (hG.ext hB) (by first | omega | (simp only [List.length_append]; omega))) ?_)
        rintro e w ⟨rfl, hE⟩
        refine ⟨_, rfl, fun a hk => ?_⟩
        have h_b11 := ext_at hE h_b11
        have h_b9 := ext_at hE h_b9
        have h_b13 := ext_at hE h_b13
        have hB := ext_trans hB hE
        clear hE
        refine ls hk rfl rfl rfl (e_eqA (l := sha (ps.flatten)) (r := sha (ps.flatten)) (b := true) hk rfl rfl Tryd.underlying24 Tryd.underlying5 sz5 (length_sha _) (length_sha _) eg24 (decide_eq_true rfl) _) fun a hk => ?_
        refine ls hk rfl rfl rfl (e_pickT hk rfl rfl _) fun a hk => ?_
        refine ls hk rfl rfl rfl (e_assign hk rfl _) fun a hk => ?_
        refine lnil (hK21 _ _ ?_)
        refine wp_ret ?_
        exact ret1 hk rfl rfl ⟨rfl, hB⟩

end Go.Proofs.YtidfbboalbchiaaDoor
