/- The walk of the law of roots of trees. -/
import Derived.Test.YtidfbboalbchiaaDoorVA42
namespace Go.Proofs.YtidfbboalbchiaaDoor
open Go Go.RowKit

theorem prov_len {xs : List (List UInt8)} {f t : Int} (h20 : xs.length ≤ 20) : (provR xs f t).nodes.length ≤ 40 := by
  by_cases h : f < 0 ∨ f ≥ t ∨ t > xs.length
  · have e : provR xs f t = ⟨0, 0, [], 1⟩ := by unfold provR; rw [if_pos h]
    rw [e]; simp
  · have hs := (prov_small (xs := xs) (f := f.toNat) (t := t.toNat) h20 (by omega)).2.2
    rwa [show ((f.toNat : Nat) : Int) = f by omega, show ((t.toNat : Nat) : Int) = t by omega] at hs
theorem long_len {xs : List (List UInt8)} {n : Int} (h20 : xs.length ≤ 20) : (longR xs n).1.length ≤ 40 := by
  by_cases h : n < 0 ∨ n > xs.length
  · have e : longR xs n = ([], 1) := by unfold longR; rw [if_pos h]
    rw [e]; simp
  · have hs := long_short (xs := xs) (k := n.toNat) (d := 5) (by omega) (by omega)
    rw [show ((n.toNat : Nat) : Int) = n by omega] at hs
    omega
/-- A store into a fresh proof touches no row of digests. -/
theorem rdg_st {w w' : World} {ad : Option Addr} {n c b : Nat} {t : TypeId} {s : List (List UInt8)} {o : Obj} (h : Rdg w ad n c s) (hb : w.heap[b]? = some (.cells #[I 0, I 0, .slice none 0 0] t (0, 0))) (W : Wrote w w' b o) : Rdg w' ad n c s := by
  refine ⟨⟨h.1.1, h.1.2.1, fun i u hu => ?_⟩, h.2⟩
  obtain ⟨b1, o1, h1, h2⟩ := h.1.2.2 i u hu
  refine ⟨b1, o1, h1, W.cell ?_ h2⟩
  intro e
  simp only at e
  subst e
  rw [cell_of_row w b1 (o1 + i) _ _ _ hb] at h2
  have hB : ∃ x : UInt8, u = B x := allB_digs s u (List.mem_of_getElem? hu)
  obtain ⟨x, rfl⟩ := hB
  have hlt : o1 + i < 3 := by
    have := (Array.getElem?_eq_some_iff.1 h2).1
    simpa using this
  match o1 + i, hlt, h2 with
  | 0, _, h2 => simp at h2
  | 1, _, h2 => simp at h2
  | 2, _, h2 => simp at h2

set_option maxRecDepth 4000 in
set_option maxHeartbeats 4000000 in
theorem c12 (l : List Int) (hl64 : ∀ n ∈ l, is64 n) (n₁ n₂ : Int) (hi1 : is64 n₁) (hi2 : is64 n₂) (raw : List (List UInt8)) (hrl : raw.length ≤ 9223372036854775807) (hraw : ∀ x ∈ raw, x.length ≤ 140737488351232) (ad ad3 : Option Addr) (c c3 : Nat) (w0 : World) (hR : Ri w0 ad l.length c l) (hR3 : Rs w0 ad3 raw.length c3 raw) (hG : GH w0) (hGR : GR w0) :
    Calls Tryd.prog 12 #[.slice ad l.length c, I n₁, I n₂, .slice ad3 raw.length c3] w0 fun e w' => e = .returned (.bool true) ∧ Ext w0 w' := by
  refine start 160 Tryd.func12 rfl rfl rfl fun a hk => ?_
  have hB : Ext w0 w0 := Below.refl _ _
  refine wp_seq_k fun K1 hK1 => ?_
  refine wp_region_lit ?_
  refine ls hk rfl rfl rfl (e_assign hk rfl _) fun a hk => ?_
  refine lnil (hK1 _ _ ?_)
  refine wp_seq_k fun K2 hK2 => ?_
  refine wp_region_ok (fun _ => True) [0, 2, 0, 0, 0, 0, 0, 2, 0] mixed ?_
  have hB := hB.drew
  refine d0 0 hk rfl (chkN_ok (by as_aux_lemma => kernel_rfl)) rfl rfl rfl rfl (fun _ => e_move hk rfl _) fun a hk => ?_
  refine da 1 hk rfl (chkN_ok (by as_aux_lemma => kernel_rfl)) rfl rfl (a_call hk rfl rfl (c_fn hk rfl ok44) (c44 l hl64 ad c _ (Rd.ext hR hB)) ?_)
  rintro e w ⟨⟨ad2, c2, xs, rfl, hRx, h20, hL, hlt⟩, hE⟩
  refine ⟨_, rfl, fun a hk => ?_⟩
  have hB := ext_trans hB hE
  have hL1 := hL.1
  clear hE
  refine d0 2 hk rfl (chkN_ok (by as_aux_lemma => kernel_rfl)) rfl rfl rfl rfl (fun _ => e_move hk rfl _) fun a hk => ?_
  refine d0 3 hk rfl (chkN_ok (by as_aux_lemma => kernel_rfl)) rfl rfl rfl rfl (fun _ => e_move hk rfl _) fun a hk => ?_
  refine d0 4 hk rfl (chkN_ok (by as_aux_lemma => kernel_rfl)) rfl rfl rfl rfl (fun _ => e_lenS hk rfl Tryd.underlying27 _) fun a hk => ?_
  refine d0 5 hk rfl (chkN_ok (by as_aux_lemma => kernel_rfl)) rfl rfl rfl rfl (fun _ => e_min (q := ((min raw.length 9 : Nat) : Int)) hk rfl rfl (by omega) _) fun a hk => ?_
  obtain ⟨mn, hmn⟩ : ∃ mn, mn = min raw.length 9 := ⟨_, rfl⟩
  rw [← hmn] at hk
  refine d0 6 hk rfl (chkN_ok (by as_aux_lemma => kernel_rfl)) rfl rfl rfl rfl (fun _ => e_slSto hk rfl rfl Tryd.underlying27 sz9 (by omega) (by have := hR3.2.1; omega) _) fun a hk => ?_
  have hRr := sub_to (k := mn) (Rd.ext hR3 hB) (by omega)
  rw [← List.map_take] at hRr
  rw [Int.toNat_natCast] at hk
  generalize (if c3 = 0 then ad3 else ad3.map (·.add 0)) = ade at hk hRr
  have hrl9 : (raw.take mn).length = mn := by simp; omega
  have hk := hk.lift 30 (v := .slice ade (raw.take mn).length c3) (by rw [hrl9]; rfl)
  have hRr : Rs w ade (raw.take mn).length c3 (raw.take mn) := by rw [hrl9]; exact hRr
  have hLr : Lv (raw.take mn) := ⟨by omega, fun y hy => hraw y (List.mem_of_mem_take hy)⟩
  generalize raw.take mn = rw₁ at hk hRr hLr hrl9
  refine da 7 hk rfl (chkN_ok (by as_aux_lemma => kernel_rfl)) rfl rfl (a_lit (cells := ([.slice ad2 xs.length c2, .slice ade rw₁.length c3, .slice none 0 0].toArray)) (zv := .slice none 0 0) (sz := 1) (by_ := 24) hk rfl rfl Tryd.underlying64 el27 (by decide) (by decide) (by have h := lit_all 1 [.slice ad2 xs.length c2, .slice ade rw₁.length c3, .slice none 0 0] (by simp [Value.cells]) 3 rfl (.slice none 0 0); exact h.trans (congrArg some (by simp [Value.cells]))) (by simp) fun a w bL hk G => ?_)
  have k_hRx_bL := rd_keep hRx G
  have k_hRr_bL := rd_keep hRr G
  have hg_bL : w0.heap.size ≤ bL := Nat.le_trans hB.size G.ge
  have hRx := hRx.ext G.ext
  have hlt := blk_ext hlt G.ext
  have hRr := hRr.ext G.ext
  have hB := ext_trans hB G.ext
  have h_bL := G.at_
  clear G
  refine d0 8 hk rfl (chkN_ok (by as_aux_lemma => kernel_rfl)) rfl rfl rfl rfl (fun _ => e_assign hk rfl _) fun a hk => ?_
  refine okFin (by as_aux_lemma => kernel_rfl) (hK2 _ _ ?_)
  refine wp_seq_k fun K3 hK3 => ?_
  refine wp_seq_k fun K4 hK4 => ?_
  refine wp_region_lit ?_
  refine ls hk rfl rfl rfl (e_assign hk rfl _) fun a hk => ?_
  refine lnil (hK4 _ _ ?_)
  refine wp_block ?_
  refine loopN (fun n a w => ∃ i : Nat, n = 3 - i ∧ i ≤ 3 ∧ Kn a 160 [(1, I n₁), (2, I n₂), (9, .slice (some ⟨bL, 0, none⟩) 3 3), (10, I i)] ∧ (Ext w0 w) ∧ (Rs w ad2 xs.length c2 xs) ∧ (Rs w ade rw₁.length c3 rw₁) ∧ (w.heap[bL]? = some (.cells [.slice ad2 xs.length c2, .slice ade rw₁.length c3, .slice none 0 0].toArray 27 (0, 0)))) (3 - 0) ?_ fun n a w hI => ?_
  · exact ⟨0, rfl, by omega, hk.sub _ ⟨rfl, rfl, rfl, rfl, trivial⟩, hB, hRx, hRr, h_bL⟩
  clear hk hB hRx hRr h_bL hlt
  obtain ⟨i, rfl, hi_le, hk, hB, hRx, hRr, h_bL⟩ := hI
  refine wp_seq_k fun K5 hK5 => ?_
  refine wp_seq_k fun K6 hK6 => ?_
  refine wp_region_lit ?_
  refine ls hk rfl rfl rfl (e_move hk rfl _) fun a hk => ?_
  refine ls hk rfl rfl rfl (e_lss hk rfl rfl rfl _) fun a hk => ?_
  refine lnil (hK6 _ _ ?_)
  refine cdB hk rfl (fun hb => ?_) (fun hb => ?_)
  · have hi3 : i < 3 := by have := of_decide_eq_true hb; omega
    refine wp_skip (hK5 _ _ ?_)
    refine wp_seq_k fun K7 hK7 => ?_
    refine wp_block ?_
    refine wp_seq_k fun K8 hK8 => ?_
    obtain ⟨x, adx, cx, hck, hRi, hLx, hx20⟩ : ∃ (x : List (List UInt8)) (adx : Option Addr) (cx : Nat), [.slice ad2 xs.length c2, .slice ade rw₁.length c3, .slice none 0 0][i]? = some (Value.slice adx x.length cx) ∧ Rs w adx x.length cx x ∧ Lv x ∧ x.length ≤ 20 := by
      match i, hi3 with
      | 0, _ => exact ⟨xs, ad2, c2, rfl, hRx, hL, h20⟩
      | 1, _ => exact ⟨rw₁, ade, c3, rfl, hRr, hLr, by omega⟩
      | 2, _ => exact ⟨[], none, 0, rfl, rd_none, ⟨by decide, by simp⟩, by decide⟩
    refine wp_region_lit ?_
    refine ls hk rfl rfl rfl (e_move hk rfl _) fun a hk => ?_
    refine ls hk rfl rfl rfl (e_move hk rfl _) fun a hk => ?_
    refine ls hk rfl rfl rfl (e_idxSn i hk rfl rfl Tryd.underlying64 sz27 rfl hi3 _) fun a hk => ?_
    refine ls hk rfl rfl rfl (r_load1 hk rfl Tryd.underlying27 rfl (row_c h_bL i hck)) fun a hk => ?_
    refine ls hk rfl rfl rfl (e_assign hk rfl _) fun a hk => ?_
    refine lnil (hK8 _ _ ?_)
    refine wp_seq_k fun K9 hK9 => ?_
    refine wp_region_lit ?_
    refine ls hk rfl rfl rfl (e_move hk rfl _) fun a hk => ?_
    refine ls hk rfl rfl rfl (e_move hk rfl _) fun a hk => ?_
    refine ls hk rfl rfl rfl (e_lenS hk rfl Tryd.underlying27 _) fun a hk => ?_
    refine ls hk rfl rfl rfl (e_add (q := ((x.length + 2 : Nat) : Int)) hk rfl rfl (by rw [i64 (by omega) (by omega)]; omega) _) fun a hk => ?_
    refine la hk rfl (a_call hk rfl rfl (c_fn hk rfl ok45) (c45 n₁ ((x.length + 2 : Nat) : Int) _ hi1) ?_)
    rintro e w ⟨rfl, hE⟩
    refine ⟨_, rfl, fun a hk => ?_⟩
    have hRx := hRx.ext hE
    have hRr := hRr.ext hE
    have h_bL := ext_at hE h_bL
    have hRi := hRi.ext hE
    have hB := ext_trans hB hE
    obtain ⟨f, hqf, hzf⟩ : ∃ k : Nat, aroundS n₁ ((x.length + 2 : Nat) : Int) = k ∧ (k : Int) < ((x.length + 2 : Nat) : Int) := ⟨(aroundS n₁ ((x.length + 2 : Nat) : Int)).toNat, by rw [Int.toNat_of_nonneg (around_pos _ _)], by have := around_lt (n := n₁) (most := ((x.length + 2 : Nat) : Int)) (by omega); have := around_pos n₁ ((x.length + 2 : Nat) : Int); omega⟩
    rw [hqf] at hk
    clear hE
    refine ls hk rfl rfl rfl (e_sub hk rfl rfl (i64 (by omega) (by omega)) _) fun a hk => ?_
    refine ls hk rfl rfl rfl (e_assign hk rfl _) fun a hk => ?_
    refine lnil (hK9 _ _ ?_)
    refine wp_seq_k fun K10 hK10 => ?_
    refine wp_region_lit ?_
    refine ls hk rfl rfl rfl (e_move hk rfl _) fun a hk => ?_
    refine ls hk rfl rfl rfl (e_move hk rfl _) fun a hk => ?_
    refine ls hk rfl rfl rfl (e_move hk rfl _) fun a hk => ?_
    refine ls hk rfl rfl rfl (e_lenS hk rfl Tryd.underlying27 _) fun a hk => ?_
    refine ls hk rfl rfl rfl (e_add (q := ((x.length + 2 : Nat) : Int)) hk rfl rfl (by rw [i64 (by omega) (by omega)]; omega) _) fun a hk => ?_
    refine la hk rfl (a_call hk rfl rfl (c_fn hk rfl ok45) (c45 n₂ ((x.length + 2 : Nat) : Int) _ hi2) ?_)
    rintro e w ⟨rfl, hE⟩
    refine ⟨_, rfl, fun a hk => ?_⟩
    have hRx := hRx.ext hE
    have hRr := hRr.ext hE
    have h_bL := ext_at hE h_bL
    have hRi := hRi.ext hE
    have hB := ext_trans hB hE
    obtain ⟨g, hqg, hzg⟩ : ∃ k : Nat, aroundS n₂ ((x.length + 2 : Nat) : Int) = k ∧ (k : Int) < ((x.length + 2 : Nat) : Int) := ⟨(aroundS n₂ ((x.length + 2 : Nat) : Int)).toNat, by rw [Int.toNat_of_nonneg (around_pos _ _)], by have := around_lt (n := n₂) (most := ((x.length + 2 : Nat) : Int)) (by omega); have := around_pos n₂ ((x.length + 2 : Nat) : Int); omega⟩
    rw [hqg] at hk
    clear hE
    refine ls hk rfl rfl rfl (e_add hk rfl rfl (i64 (by omega) (by omega)) _) fun a hk => ?_
    refine ls hk rfl rfl rfl (e_assign hk rfl _) fun a hk => ?_
    refine lnil (hK10 _ _ ?_)
    refine wp_seq_k fun K11 hK11 => ?_
    refine wp_region_lit ?_
    refine ls hk rfl rfl rfl (e_move hk rfl _) fun a hk => ?_
    refine ls hk rfl rfl rfl (e_move hk rfl _) fun a hk => ?_
    refine ls hk rfl rfl rfl (e_buildA (cells := #[I ((f : Int) - 1), I ((f : Int) - 1 + g)]) hk rfl zr66 Tryd.underlying66 sz3 rfl _) fun a hk => ?_
    refine ls hk rfl rfl rfl (e_move hk rfl _) fun a hk => ?_
    refine ls hk rfl rfl rfl (e_move hk rfl _) fun a hk => ?_
    refine ls hk rfl rfl rfl (e_buildA (cells := #[I (n₁), I (n₂)]) hk rfl zr66 Tryd.underlying66 sz3 rfl _) fun a hk => ?_
    refine ls hk rfl rfl rfl (e_move hk rfl _) fun a hk => ?_
    refine ls hk rfl rfl rfl (e_lenS hk rfl Tryd.underlying27 _) fun a hk => ?_
    refine ls hk rfl rfl rfl (e_buildA (cells := #[I (0), I ((x.length : Int))]) hk rfl zr66 Tryd.underlying66 sz3 rfl _) fun a hk => ?_
    refine ls hk rfl rfl rfl (e_buildA (cells := #[I (0), I (1)]) hk rfl zr66 Tryd.underlying66 sz3 rfl _) fun a hk => ?_
    refine la hk rfl (a_lit (cells := ((ip [((f : Int) - 1, (f : Int) - 1 + g), (n₁, n₂), (0, (x.length : Int)), (0, 1)]).toArray)) (zv := .agg (List.replicate 2 (Value.int .i64 0)).toArray) (sz := 2) (by_ := 16) hk rfl rfl Tryd.underlying67 el66 (by decide) (by decide) (by have h := lit_all 2 [.agg #[I ((f : Int) - 1), I ((f : Int) - 1 + g)], .agg #[I (n₁), I (n₂)], .agg #[I (0), I ((x.length : Int))], .agg #[I (0), I (1)]] (by simp [Value.cells]) 4 rfl (.agg (List.replicate 2 (Value.int .i64 0)).toArray); exact h.trans (congrArg some (by simp [Value.cells, ip]))) (by simp [ip]) fun a w bs hk G => ?_)
    have k_hRx_bs := rd_keep hRx G
    have k_hRr_bs := rd_keep hRr G
    have n_bL_bs : bL ≠ bs := G.ne h_bL
    have k_hRi_bs := rd_keep hRi G
    have hg_bs : w0.heap.size ≤ bs := Nat.le_trans hB.size G.ge
    have hRx := hRx.ext G.ext
    have hRr := hRr.ext G.ext
    have h_bL := ext_at G.ext h_bL
    have hRi := hRi.ext G.ext
    have hB := ext_trans hB G.ext
    have h_bs := G.at_
    clear G
    refine ls hk rfl rfl rfl (e_assign hk rfl _) fun a hk => ?_
    refine lnil (hK11 _ _ ?_)
    refine wp_seq_k fun K12 hK12 => ?_
    refine wp_seq_k fun K13 hK13 => ?_
    obtain ⟨NS, hNS⟩ : ∃ NS : List (Int × Int), NS = [((f : Int) - 1, (f : Int) - 1 + g), (n₁, n₂), (0, (x.length : Int)), (0, 1)] := ⟨_, rfl⟩
    have hNl : NS.length = 4 := by rw [hNS]; rfl
    rw [← hNS] at h_bs
    clear hNS
    refine wp_region_lit ?_
    refine ls hk rfl rfl rfl (e_move hk rfl _) fun a hk => ?_
    refine la hk rfl (a_call hk rfl rfl (c_fn hk rfl ok46) (c46 x hLx adx cx _ hRi (hG.ext hB)) ?_)
    rintro e w ⟨rfl, hE⟩
    refine ⟨_, rfl, fun a hk => ?_⟩
    have hRx := hRx.ext hE
    have hRr := hRr.ext hE
    have h_bL := ext_at hE h_bL
    have hRi := hRi.ext hE
    have h_bs := ext_at hE h_bs
    have hB := ext_trans hB hE
    clear hE
    refine ls hk rfl rfl rfl (e_move hk rfl _) fun a hk => ?_
    refine la hk rfl (a_call hk rfl rfl (c_fn hk rfl ok47) (c47 _ x adx cx _ rfl hLx hRi (hGR.ext hB)) ?_)
    rintro e w ⟨rfl, hE⟩
    refine ⟨_, rfl, fun a hk => ?_⟩
    have hRx := hRx.ext hE
    have hRr := hRr.ext hE
    have h_bL := ext_at hE h_bL
    have hRi := hRi.ext hE
    have h_bs := ext_at hE h_bs
    have hB := ext_trans hB hE
    clear hE
    refine ls hk rfl rfl rfl (e_neA (l := rootS x) (r := rootS x) (b := false) hk rfl rfl Tryd.underlying44 Tryd.underlying5 sz5 (by simp) (by simp) eg44 (by rw [decide_eq_true (rfl)]; rfl) _) fun a hk => ?_
    refine lnil (hK13 _ _ ?_)
    refine cdF hk rfl ?_
    refine wp_skip (hK12 _ _ ?_)
    refine wp_seq_k fun K14 hK14 => ?_
    refine wp_region_lit ?_
    refine ls hk rfl rfl rfl (e_assign hk rfl _) fun a hk => ?_
    refine lnil (hK14 _ _ ?_)
    refine wp_block ?_
    refine loopN (fun n a w => ∃ k : Nat, n = 4 - k ∧ k ≤ 4 ∧ Kn a 160 [(1, I n₁), (2, I n₂), (9, .slice (some ⟨bL, 0, none⟩) 3 3), (10, I i), (11, .slice adx x.length cx), (14, .slice (some ⟨bs, 0, none⟩) 4 4), (15, I k)] ∧ (Ext w0 w) ∧ (Rs w ad2 xs.length c2 xs) ∧ (Rs w ade rw₁.length c3 rw₁) ∧ (w.heap[bL]? = some (.cells [.slice ad2 xs.length c2, .slice ade rw₁.length c3, .slice none 0 0].toArray 27 (0, 0))) ∧ (Rs w adx x.length cx x) ∧ (w.heap[bs]? = some (.cells (ip NS).toArray 66 (0, 0)))) (4 - 0) ?_ fun n a w hI => ?_
    · exact ⟨0, rfl, by omega, hk.sub _ ⟨rfl, rfl, rfl, rfl, rfl, rfl, rfl, trivial⟩, hB, hRx, hRr, h_bL, hRi, h_bs⟩
    clear hk hB hRx hRr h_bL hRi h_bs
    obtain ⟨k, rfl, hi_le, hk, hB, hRx, hRr, h_bL, hRi, h_bs⟩ := hI
    refine wp_seq_k fun K15 hK15 => ?_
    refine wp_seq_k fun K16 hK16 => ?_
    refine wp_region_lit ?_
    refine ls hk rfl rfl rfl (e_move hk rfl _) fun a hk => ?_
    refine ls hk rfl rfl rfl (e_lss hk rfl rfl rfl _) fun a hk => ?_
    refine lnil (hK16 _ _ ?_)
    refine cdB hk rfl (fun hb => ?_) (fun hb => ?_)
    · have hk4 : k < 4 := by have := of_decide_eq_true hb; omega
      obtain ⟨r, hr⟩ : ∃ r, provR x (NS.getD k (0, 0)).1 (NS.getD k (0, 0)).2 = r := ⟨_, rfl⟩
      have hrn := prov_len (xs := x) (f := (NS.getD k (0, 0)).1) (t := (NS.getD k (0, 0)).2) hx20
      rw [hr] at hrn
      obtain ⟨q, hq⟩ : ∃ q, longR x (NS.getD k (0, 0)).2 = q := ⟨_, rfl⟩
      have hqn := long_len (xs := x) (n := (NS.getD k (0, 0)).2) hx20
      rw [hq] at hqn
      refine wp_skip (hK15 _ _ ?_)
      refine wp_seq_k fun K17 hK17 => ?_
      refine wp_block ?_
      refine wp_seq_k fun K18 hK18 => ?_
      have hJ18 : ∀ (a : Act) (w : World), (∃ (b16 : Nat) (adp : Option Addr) (cp : Nat), Kn a 160 [(1, I n₁), (2, I n₂), (9, .slice (some ⟨bL, 0, none⟩) 3 3), (10, I i), (11, .slice adx x.length cx), (14, .slice (some ⟨bs, 0, none⟩) 4 4), (15, I k), (16, .pointer (some ⟨b16, 0, none⟩)), (17, I r.err)] ∧ (Ext w0 w) ∧ (Rs w ad2 xs.length c2 xs) ∧ (Rs w ade rw₁.length c3 rw₁) ∧ (w.heap[bL]? = some (.cells [.slice ad2 xs.length c2, .slice ade rw₁.length c3, .slice none 0 0].toArray 27 (0, 0))) ∧ (Rs w adx x.length cx x) ∧ (w.heap[bs]? = some (.cells (ip NS).toArray 66 (0, 0))) ∧ (Rdg w adp r.nodes.length cp r.nodes) ∧ (∀ b o, adp = some ⟨b, o, none⟩ → b < w.heap.size) ∧ (w.heap[b16]? = some (.cells #[I r.n, I r.fr, .slice adp r.nodes.length cp] 71 (0, 0)))) → K18 a w := by
        clear hk hB hRx hRr h_bL hRi h_bs
        intro a w ⟨b16, adp, cp, hk, hB, hRx, hRr, h_bL, hRi, h_bs, hRp, hlp, h_b16⟩
        refine hK18 _ _ ?_
        refine wp_seq_k fun K19 hK19 => ?_
        have hJ19 : ∀ (a : Act) (w : World), (∃ (b18 : Nat) (adpq : Option Addr) (cpq : Nat), Kn a 160 [(1, I n₁), (2, I n₂), (9, .slice (some ⟨bL, 0, none⟩) 3 3), (10, I i), (11, .slice adx x.length cx), (14, .slice (some ⟨bs, 0, none⟩) 4 4), (15, I k), (16, .pointer (some ⟨b16, 0, none⟩)), (17, I r.err), (18, .pointer (some ⟨b18, 0, none⟩)), (19, I r.err)] ∧ (Ext w0 w) ∧ (Rs w ad2 xs.length c2 xs) ∧ (Rs w ade rw₁.length c3 rw₁) ∧ (w.heap[bL]? = some (.cells [.slice ad2 xs.length c2, .slice ade rw₁.length c3, .slice none 0 0].toArray 27 (0, 0))) ∧ (Rs w adx x.length cx x) ∧ (w.heap[bs]? = some (.cells (ip NS).toArray 66 (0, 0))) ∧ (Rdg w adp r.nodes.length cp r.nodes) ∧ (∀ b o, adp = some ⟨b, o, none⟩ → b < w.heap.size) ∧ (w.heap[b16]? = some (.cells #[I r.n, I r.fr, .slice adp r.nodes.length cp] 71 (0, 0))) ∧ (Rdg w adpq r.nodes.length cpq r.nodes) ∧ (∀ b o, adpq = some ⟨b, o, none⟩ → b < w.heap.size) ∧ (w.heap[b18]? = some (.cells #[I r.n, I r.fr, .slice adpq r.nodes.length cpq] 74 (0, 0)))) → K19 a w := by
          clear hk hB hRx hRr h_bL hRi h_bs hRp hlp h_b16
          intro a w ⟨b18, adpq, cpq, hk, hB, hRx, hRr, h_bL, hRi, h_bs, hRp, hlp, h_b16, hRpq, hlpq, h_b18⟩
          refine hK19 _ _ ?_
          refine wp_seq_k fun K20 hK20 => ?_
          refine wp_region_lit ?_
          refine ls hk rfl rfl rfl (e_move hk rfl _) fun a hk => ?_
          refine ls hk rfl rfl rfl (e_move hk rfl _) fun a hk => ?_
          refine ls hk rfl rfl rfl (e_move hk rfl _) fun a hk => ?_
          refine ls hk rfl rfl rfl (e_idxSn k hk rfl rfl Tryd.underlying67 sz66 rfl hk4 _) fun a hk => ?_
          refine ls hk rfl rfl rfl (e_idxAn 1 hk rfl rfl Tryd.underlying66 sz3 rfl (by decide) _) fun a hk => ?_
          refine ls hk rfl rfl rfl (r_load1 hk rfl Tryd.underlying3 rfl (ip_c2 h_bs k (by omega))) fun a hk => ?_
          refine la hk rfl (a_call hk rfl rfl (c_fn hk rfl ok50) (c50 x hLx adx cx (NS.getD k (0, 0)).2 _ hRi (hG.ext hB)) ?_)
          rintro e w ⟨⟨adL, cL, he, hRa, hla⟩, hE⟩
          rw [hq] at he hRa
          subst he
          refine ⟨_, rfl, fun a hk => ?_⟩
          have hRx := hRx.ext hE
          have hRr := hRr.ext hE
          have h_bL := ext_at hE h_bL
          have hRi := hRi.ext hE
          have h_bs := ext_at hE h_bs
          have hRp := hRp.ext hE
          have hlp := blk_ext hlp hE
          have h_b16 := ext_at hE h_b16
          have hRpq := hRpq.ext hE
          have hlpq := blk_ext hlpq hE
          have h_b18 := ext_at hE h_b18
          have hB := ext_trans hB hE
          clear hE
          refine ls hk rfl rfl rfl (e_move hk rfl _) fun a hk => ?_
          refine ls hk rfl rfl rfl (e_ext hk rfl rfl _) fun a hk => ?_
          refine ls hk rfl rfl rfl (e_ext hk rfl rfl _) fun a hk => ?_
          refine ls hk rfl rfl rfl (e_assign hk rfl _) fun a hk => ?_
          refine ls hk rfl rfl rfl (e_assign hk rfl _) fun a hk => ?_
          refine lnil (hK20 _ _ ?_)
          refine wp_seq_k fun K21 hK21 => ?_
          refine wp_region_lit ?_
          refine ls hk rfl rfl rfl (e_move hk rfl _) fun a hk => ?_
          refine ls hk rfl rfl rfl (e_move hk rfl _) fun a hk => ?_
          refine ls hk rfl rfl rfl (e_move hk rfl _) fun a hk => ?_
          refine ls hk rfl rfl rfl (e_idxSn k hk rfl rfl Tryd.underlying67 sz66 rfl hk4 _) fun a hk => ?_
          refine ls hk rfl rfl rfl (e_idxAn 1 hk rfl rfl Tryd.underlying66 sz3 rfl (by decide) _) fun a hk => ?_
          refine ls hk rfl rfl rfl (r_load1 hk rfl Tryd.underlying3 rfl (ip_c2 h_bs k (by omega))) fun a hk => ?_
          refine la hk rfl (a_call hk rfl rfl (c_fn hk rfl ok51) (c51 x hLx adx cx (NS.getD k (0, 0)).2 _ hRi (hGR.ext hB)) ?_)
          rintro e w ⟨⟨adM, cM, he, hRb, hlb⟩, hE⟩
          rw [hq] at he hRb
          subst he
          refine ⟨_, rfl, fun a hk => ?_⟩
          have hRx := hRx.ext hE
          have hRr := hRr.ext hE
          have h_bL := ext_at hE h_bL
          have hRi := hRi.ext hE
          have h_bs := ext_at hE h_bs
          have hRp := hRp.ext hE
          have hlp := blk_ext hlp hE
          have h_b16 := ext_at hE h_b16
          have hRpq := hRpq.ext hE
          have hlpq := blk_ext hlpq hE
          have h_b18 := ext_at hE h_b18
          have hRa := hRa.ext hE
          have hB := ext_trans hB hE
          clear hE
          refine ls hk rfl rfl rfl (e_move hk rfl _) fun a hk => ?_
          refine ls hk rfl rfl rfl (e_ext hk rfl rfl _) fun a hk => ?_
          refine ls hk rfl rfl rfl (e_ext hk rfl rfl _) fun a hk => ?_
          refine ls hk rfl rfl rfl (e_assign hk rfl _) fun a hk => ?_
          refine ls hk rfl rfl rfl (e_assign hk rfl _) fun a hk => ?_
          refine lnil (hK21 _ _ ?_)
          refine wp_seq_k fun K22 hK22 => ?_
          refine wp_region_lit ?_
          refine ls hk rfl rfl rfl (e_move hk rfl _) fun a hk => ?_
          refine ls hk rfl rfl rfl (e_move hk rfl _) fun a hk => ?_
          refine ls hk rfl rfl rfl (e_neq (b := false) hk rfl rfl (by simp) _) fun a hk => ?_
          refine ls hk rfl rfl rfl (e_move hk rfl _) fun a hk => ?_
          refine ls hk rfl rfl rfl (e_move hk rfl _) fun a hk => ?_
          refine ls hk rfl rfl rfl (e_move hk rfl _) fun a hk => ?_
          refine ls hk rfl rfl rfl (e_neq (b := false) hk rfl rfl (by simp) _) fun a hk => ?_
          refine ls hk rfl rfl rfl (e_pickF hk rfl rfl _) fun a hk => ?_
          refine ls hk rfl rfl rfl (e_move hk rfl _) fun a hk => ?_
          refine ls hk rfl rfl rfl (e_field (off := 0) hk rfl Tryd.underlying71 rfl rfl nz3 _) fun a hk => ?_
          refine ls hk rfl rfl rfl (r_load hk rfl Tryd.underlying3 rfl h_b16 rfl) fun a hk => ?_
          refine ls hk rfl rfl rfl (e_field (off := 0) hk rfl Tryd.underlying74 rfl rfl nz3 _) fun a hk => ?_
          refine ls hk rfl rfl rfl (r_load hk rfl Tryd.underlying3 rfl h_b18 rfl) fun a hk => ?_
          refine ls hk rfl rfl rfl (e_neq (b := false) hk rfl rfl (by simp) _) fun a hk => ?_
          refine ls hk rfl rfl rfl (e_pickF hk rfl rfl _) fun a hk => ?_
          refine ls hk rfl rfl rfl (e_move hk rfl _) fun a hk => ?_
          refine ls hk rfl rfl rfl (e_field (off := 1) hk rfl Tryd.underlying71 rfl rfl nz3 _) fun a hk => ?_
          refine ls hk rfl rfl rfl (r_load hk rfl Tryd.underlying3 rfl h_b16 rfl) fun a hk => ?_
          refine ls hk rfl rfl rfl (e_field (off := 1) hk rfl Tryd.underlying74 rfl rfl nz3 _) fun a hk => ?_
          refine ls hk rfl rfl rfl (r_load hk rfl Tryd.underlying3 rfl h_b18 rfl) fun a hk => ?_
          refine ls hk rfl rfl rfl (e_neq (b := false) hk rfl rfl (by simp) _) fun a hk => ?_
          refine ls hk rfl rfl rfl (e_pickF hk rfl rfl _) fun a hk => ?_
          refine ls hk rfl rfl rfl (e_move hk rfl _) fun a hk => ?_
          refine ls hk rfl rfl rfl (e_field (off := 2) hk rfl Tryd.underlying71 rfl rfl nz69 _) fun a hk => ?_
          refine ls hk rfl rfl rfl (r_load hk rfl Tryd.underlying69 rfl h_b16 rfl) fun a hk => ?_
          refine ls hk rfl rfl rfl (e_field (off := 2) hk rfl Tryd.underlying74 rfl rfl nz69 _) fun a hk => ?_
          refine ls hk rfl rfl rfl (r_load hk rfl Tryd.underlying69 rfl h_b18 rfl) fun a hk => ?_
          refine la hk rfl (a_call hk rfl rfl (c_fn hk rfl ok52) (c52 r.nodes r.nodes adp adpq cp cpq _ hRp hRpq (by omega)) ?_)
          rintro e w ⟨rfl, hE⟩
          refine ⟨_, rfl, fun a hk => ?_⟩
          have hRx := hRx.ext hE
          have hRr := hRr.ext hE
          have h_bL := ext_at hE h_bL
          have hRi := hRi.ext hE
          have h_bs := ext_at hE h_bs
          have hRp := hRp.ext hE
          have hlp := blk_ext hlp hE
          have h_b16 := ext_at hE h_b16
          have hRpq := hRpq.ext hE
          have hlpq := blk_ext hlpq hE
          have h_b18 := ext_at hE h_b18
          have hRa := hRa.ext hE
          have hRb := hRb.ext hE
          have hB := ext_trans hB hE
          rw [decide_eq_true (rfl : r.nodes = r.nodes)] at hk
          clear hE
          refine ls hk rfl rfl rfl (e_notT hk rfl _) fun a hk => ?_
          refine ls hk rfl rfl rfl (e_pickF hk rfl rfl _) fun a hk => ?_
          refine ls hk rfl rfl rfl (e_move hk rfl _) fun a hk => ?_
          refine ls hk rfl rfl rfl (e_move hk rfl _) fun a hk => ?_
          refine ls hk rfl rfl rfl (e_move hk rfl _) fun a hk => ?_
          refine la hk rfl (a_call hk rfl rfl (c_fn hk rfl ok52) (c52 q.1 q.1 adL adM cL cM _ hRa hRb (by omega)) ?_)
          rintro e w ⟨rfl, hE⟩
          refine ⟨_, rfl, fun a hk => ?_⟩
          have hRx := hRx.ext hE
          have hRr := hRr.ext hE
          have h_bL := ext_at hE h_bL
          have hRi := hRi.ext hE
          have h_bs := ext_at hE h_bs
          have hRp := hRp.ext hE
          have hlp := blk_ext hlp hE
          have h_b16 := ext_at hE h_b16
          have hRpq := hRpq.ext hE
          have hlpq := blk_ext hlpq hE
          have h_b18 := ext_at hE h_b18
          have hRa := hRa.ext hE
          have hRb := hRb.ext hE
          have hB := ext_trans hB hE
          rw [decide_eq_true (rfl : q.1 = q.1)] at hk
          clear hE
          refine ls hk rfl rfl rfl (e_notT hk rfl _) fun a hk => ?_
          refine ls hk rfl rfl rfl (e_pickF hk rfl rfl _) fun a hk => ?_
          refine lnil (hK22 _ _ ?_)
          refine cdF hk rfl ?_
          refine wp_skip (hK17 _ _ ?_)
          refine wp_region_lit ?_
          refine ls hk rfl rfl rfl (e_move hk rfl _) fun a hk => ?_
          refine ls hk rfl rfl rfl (e_add hk rfl rfl (i64 (by omega) (by omega)) _) fun a hk => ?_
          refine ls hk rfl rfl rfl (e_assign hk rfl _) fun a hk => ?_
          refine lnil (show ∃ m : Nat, m < _ ∧ _ from ⟨4 - (k + 1), by omega, k + 1, rfl, by omega, hk.sub _ ⟨rfl, rfl, rfl, rfl, rfl, rfl, rfl, trivial⟩, hB, hRx, hRr, h_bL, hRi, h_bs⟩)
        refine wp_region_ok (fun w => w.heap[bs]? = some (.cells (ip NS).toArray 66 (0, 0))) [0, 0, 0, 0, 0, 3, 0, 0, 0, 0, 3, 4, 0, 0, 0, 4, 2, 0] mixed ?_
        have hB := hB.drew
        have hRx := hRx.ext (ext_drew w)
        have hRr := hRr.ext (ext_drew w)
        have h_bL := ext_at (ext_drew w) h_bL
        have hRi := hRi.ext (ext_drew w)
        have h_bs := ext_at (ext_drew w) h_bs
        have hRp := hRp.ext (ext_drew w)
        have hlp := blk_ext hlp (ext_drew w)
        have h_b16 := ext_at (ext_drew w) h_b16
        have hS : (fun w => w.heap[bs]? = some (.cells (ip NS).toArray 66 (0, 0))) w.drew := h_bs
        refine d0 0 hk rfl (chkN_ok (by as_aux_lemma => kernel_rfl)) rfl rfl rfl rfl (fun _ => e_move hk rfl _) fun a hk => ?_
        refine d0 1 hk rfl (chkN_ok (by as_aux_lemma => kernel_rfl)) rfl rfl rfl rfl (fun _ => e_move hk rfl _) fun a hk => ?_
        refine d0 2 hk rfl (chkN_ok (by as_aux_lemma => kernel_rfl)) rfl rfl rfl rfl (fun _ => e_move hk rfl _) fun a hk => ?_
        refine d0 3 hk rfl (chkN_ok (by as_aux_lemma => kernel_rfl)) rfl rfl rfl rfl (fun _ => e_idxSn k hk rfl rfl Tryd.underlying67 sz66 rfl hk4 _) fun a hk => ?_
        refine d0 4 hk rfl (chkN_ok (by as_aux_lemma => kernel_rfl)) rfl rfl rfl rfl (fun _ => e_idxAn 0 hk rfl rfl Tryd.underlying66 sz3 rfl (by decide) _) fun a hk => ?_
        refine d3 5 hk rfl (chkN_ok (by as_aux_lemma => kernel_rfl)) rfl rfl rfl rfl hS (fun w hS => r_load1 hk rfl Tryd.underlying3 rfl (ip_c1 hS k (by omega))) fun a hk => ?_
        refine d0 6 hk rfl (chkN_ok (by as_aux_lemma => kernel_rfl)) rfl rfl rfl rfl (fun _ => e_move hk rfl _) fun a hk => ?_
        refine d0 7 hk rfl (chkN_ok (by as_aux_lemma => kernel_rfl)) rfl rfl rfl rfl (fun _ => e_move hk rfl _) fun a hk => ?_
        refine d0 8 hk rfl (chkN_ok (by as_aux_lemma => kernel_rfl)) rfl rfl rfl rfl (fun _ => e_idxSn k hk rfl rfl Tryd.underlying67 sz66 rfl hk4 _) fun a hk => ?_
        refine d0 9 hk rfl (chkN_ok (by as_aux_lemma => kernel_rfl)) rfl rfl rfl rfl (fun _ => e_idxAn 1 hk rfl rfl Tryd.underlying66 sz3 rfl (by decide) _) fun a hk => ?_
        refine d3 10 hk rfl (chkN_ok (by as_aux_lemma => kernel_rfl)) rfl rfl rfl rfl hS (fun w hS => r_load1 hk rfl Tryd.underlying3 rfl (ip_c2 hS k (by omega))) fun a hk => ?_
        refine branch2 11 15 rfl rfl (by as_aux_lemma => kernel_rfl) (by as_aux_lemma => kernel_rfl) ?_ ?_
        · refine wa4 (i := 11) hk rfl rfl hS (a_call hk rfl rfl (c_fn hk rfl ok49) (c49 x hLx adx cx (NS.getD k (0, 0)).1 (NS.getD k (0, 0)).2 _ hRi (hGR.ext hB)) ?_)
          rintro e w ⟨⟨adpq, cpq, he, hRpq, hlpq⟩, hE⟩
          rw [hr] at he hRpq
          subst he
          refine ⟨_, rfl, fun a hk => ⟨ext_at hE hS, ?_⟩⟩
          have hS := ext_at hE hS
          have hRx := hRx.ext hE
          have hRr := hRr.ext hE
          have h_bL := ext_at hE h_bL
          have hRi := hRi.ext hE
          have h_bs := ext_at hE h_bs
          have hRp := hRp.ext hE
          have hlp := blk_ext hlp hE
          have h_b16 := ext_at hE h_b16
          have hB := ext_trans hB hE
          clear hE
          refine da4 15 hk rfl (chkN_ok (by as_aux_lemma => kernel_rfl)) rfl rfl hS (a_alloc hk rfl zr74 fun a w b18 hk G => ⟨ext_at G.ext hS, ?_⟩)
          have hS := ext_at G.ext hS
          have k_hRx_b18 := rd_keep hRx G
          have k_hRr_b18 := rd_keep hRr G
          have n_bL_b18 : bL ≠ b18 := G.ne h_bL
          have k_hRi_b18 := rd_keep hRi G
          have n_bs_b18 : bs ≠ b18 := G.ne h_bs
          have k_hRp_b18 := rdg_keep hRp G
          have n_b16_b18 : b16 ≠ b18 := G.ne h_b16
          have k_hRpq_b18 := rdg_keep hRpq G
          have hg_b18 : w0.heap.size ≤ b18 := Nat.le_trans hB.size G.ge
          have hRx := hRx.ext G.ext
          have hRr := hRr.ext G.ext
          have h_bL := ext_at G.ext h_bL
          have hRi := hRi.ext G.ext
          have h_bs := ext_at G.ext h_bs
          have hRp := hRp.ext G.ext
          have hlp := blk_ext hlp G.ext
          have h_b16 := ext_at G.ext h_b16
          have hRpq := hRpq.ext G.ext
          have hlpq := blk_ext hlpq G.ext
          have hB := ext_trans hB G.ext
          have h_b18 := G.at_
          clear G
          refine d0 12 hk rfl (chkN_ok (by as_aux_lemma => kernel_rfl)) rfl rfl rfl rfl (fun _ => e_move hk rfl _) fun a hk => ?_
          refine d0 13 hk rfl (chkN_ok (by as_aux_lemma => kernel_rfl)) rfl rfl rfl rfl (fun _ => e_ext hk rfl rfl _) fun a hk => ?_
          refine d0 14 hk rfl (chkN_ok (by as_aux_lemma => kernel_rfl)) rfl rfl rfl rfl (fun _ => e_ext hk rfl rfl _) fun a hk => ?_
          refine da 16 hk rfl (chkN_ok (by as_aux_lemma => kernel_rfl)) rfl rfl (a_storeB (cs' := #[I r.n, I r.fr, .slice adpq r.nodes.length cpq]) hk rfl rfl (by simp [Value.oneCell']) sz74 h_b18 rfl fun a w hk W => ?_)
          have hRpq := rdg_st hRpq h_b18 W
          have hlpq := blk_wrote hlpq W
          have hRx := k_hRx_b18 _ _ _ hRx W
          have hRr := k_hRr_b18 _ _ _ hRr W
          have h_bL := W.keep n_bL_b18 h_bL
          have hRi := k_hRi_b18 _ _ _ hRi W
          have h_bs := W.keep n_bs_b18 h_bs
          have hRp := k_hRp_b18 _ _ _ hRp W
          have hlp := blk_wrote hlp W
          have h_b16 := W.keep n_b16_b18 h_b16
          have hB := W.below hB hg_b18
          have h_b18 := W.at_
          clear W
          refine d0 17 hk rfl (chkN_ok (by as_aux_lemma => kernel_rfl)) rfl rfl rfl rfl (fun _ => e_assign hk rfl _) fun a hk => ?_
          refine okFin (by as_aux_lemma => kernel_rfl) (hJ19 _ _ ⟨_, _, _, hk.sub _ ⟨rfl, rfl, rfl, rfl, rfl, rfl, rfl, rfl, rfl, rfl, rfl, trivial⟩, hB, hRx, hRr, h_bL, hRi, h_bs, hRp, hlp, h_b16, hRpq, hlpq, h_b18⟩)
        · refine wa4 (i := 15) hk rfl rfl hS (a_alloc hk rfl zr74 fun a w b18 hk G => ⟨ext_at G.ext hS, ?_⟩)
          have hS := ext_at G.ext hS
          have k_hRx_b18 := rd_keep hRx G
          have k_hRr_b18 := rd_keep hRr G
          have n_bL_b18 : bL ≠ b18 := G.ne h_bL
          have k_hRi_b18 := rd_keep hRi G
          have n_bs_b18 : bs ≠ b18 := G.ne h_bs
          have k_hRp_b18 := rdg_keep hRp G
          have n_b16_b18 : b16 ≠ b18 := G.ne h_b16
          have hg_b18 : w0.heap.size ≤ b18 := Nat.le_trans hB.size G.ge
          have hRx := hRx.ext G.ext
          have hRr := hRr.ext G.ext
          have h_bL := ext_at G.ext h_bL
          have hRi := hRi.ext G.ext
          have h_bs := ext_at G.ext h_bs
          have hRp := hRp.ext G.ext
          have hlp := blk_ext hlp G.ext
          have h_b16 := ext_at G.ext h_b16
          have hB := ext_trans hB G.ext
          have h_b18 := G.at_
          clear G
          refine da4 11 hk rfl (chkN_ok (by as_aux_lemma => kernel_rfl)) rfl rfl hS (a_call hk rfl rfl (c_fn hk rfl ok49) (c49 x hLx adx cx (NS.getD k (0, 0)).1 (NS.getD k (0, 0)).2 _ hRi (hGR.ext hB)) ?_)
          rintro e w ⟨⟨adpq, cpq, he, hRpq, hlpq⟩, hE⟩
          rw [hr] at he hRpq
          subst he
          refine ⟨_, rfl, fun a hk => ⟨ext_at hE hS, ?_⟩⟩
          have hS := ext_at hE hS
          have hRx := hRx.ext hE
          have hRr := hRr.ext hE
          have h_bL := ext_at hE h_bL
          have hRi := hRi.ext hE
          have h_bs := ext_at hE h_bs
          have hRp := hRp.ext hE
          have hlp := blk_ext hlp hE
          have h_b16 := ext_at hE h_b16
          have h_b18 := ext_at hE h_b18
          have hB := ext_trans hB hE
          clear hE
          refine d0 12 hk rfl (chkN_ok (by as_aux_lemma => kernel_rfl)) rfl rfl rfl rfl (fun _ => e_move hk rfl _) fun a hk => ?_
          refine d0 13 hk rfl (chkN_ok (by as_aux_lemma => kernel_rfl)) rfl rfl rfl rfl (fun _ => e_ext hk rfl rfl _) fun a hk => ?_
          refine d0 14 hk rfl (chkN_ok (by as_aux_lemma => kernel_rfl)) rfl rfl rfl rfl (fun _ => e_ext hk rfl rfl _) fun a hk => ?_
          refine da 16 hk rfl (chkN_ok (by as_aux_lemma => kernel_rfl)) rfl rfl (a_storeB (cs' := #[I r.n, I r.fr, .slice adpq r.nodes.length cpq]) hk rfl rfl (by simp [Value.oneCell']) sz74 h_b18 rfl fun a w hk W => ?_)
          have hRpq := rdg_st hRpq h_b18 W
          have hlpq := blk_wrote hlpq W
          have hRx := k_hRx_b18 _ _ _ hRx W
          have hRr := k_hRr_b18 _ _ _ hRr W
          have h_bL := W.keep n_bL_b18 h_bL
          have hRi := k_hRi_b18 _ _ _ hRi W
          have h_bs := W.keep n_bs_b18 h_bs
          have hRp := k_hRp_b18 _ _ _ hRp W
          have hlp := blk_wrote hlp W
          have h_b16 := W.keep n_b16_b18 h_b16
          have hB := W.below hB hg_b18
          have h_b18 := W.at_
          clear W
          refine d0 17 hk rfl (chkN_ok (by as_aux_lemma => kernel_rfl)) rfl rfl rfl rfl (fun _ => e_assign hk rfl _) fun a hk => ?_
          refine okFin (by as_aux_lemma => kernel_rfl) (hJ19 _ _ ⟨_, _, _, hk.sub _ ⟨rfl, rfl, rfl, rfl, rfl, rfl, rfl, rfl, rfl, rfl, rfl, trivial⟩, hB, hRx, hRr, h_bL, hRi, h_bs, hRp, hlp, h_b16, hRpq, hlpq, h_b18⟩)
      refine wp_region_ok (fun w => w.heap[bs]? = some (.cells (ip NS).toArray 66 (0, 0))) [0, 0, 0, 0, 0, 3, 0, 0, 0, 0, 3, 4, 0, 0, 0, 4, 2, 0] mixed ?_
      have hB := hB.drew
      have hRx := hRx.ext (ext_drew w)
      have hRr := hRr.ext (ext_drew w)
      have h_bL := ext_at (ext_drew w) h_bL
      have hRi := hRi.ext (ext_drew w)
      have h_bs := ext_at (ext_drew w) h_bs
      have hS : (fun w => w.heap[bs]? = some (.cells (ip NS).toArray 66 (0, 0))) w.drew := h_bs
      refine d0 0 hk rfl (chkN_ok (by as_aux_lemma => kernel_rfl)) rfl rfl rfl rfl (fun _ => e_move hk rfl _) fun a hk => ?_
      refine d0 1 hk rfl (chkN_ok (by as_aux_lemma => kernel_rfl)) rfl rfl rfl rfl (fun _ => e_move hk rfl _) fun a hk => ?_
      refine d0 2 hk rfl (chkN_ok (by as_aux_lemma => kernel_rfl)) rfl rfl rfl rfl (fun _ => e_move hk rfl _) fun a hk => ?_
      refine d0 3 hk rfl (chkN_ok (by as_aux_lemma => kernel_rfl)) rfl rfl rfl rfl (fun _ => e_idxSn k hk rfl rfl Tryd.underlying67 sz66 rfl hk4 _) fun a hk => ?_
      refine d0 4 hk rfl (chkN_ok (by as_aux_lemma => kernel_rfl)) rfl rfl rfl rfl (fun _ => e_idxAn 0 hk rfl rfl Tryd.underlying66 sz3 rfl (by decide) _) fun a hk => ?_
      refine d3 5 hk rfl (chkN_ok (by as_aux_lemma => kernel_rfl)) rfl rfl rfl rfl hS (fun w hS => r_load1 hk rfl Tryd.underlying3 rfl (ip_c1 hS k (by omega))) fun a hk => ?_
      refine d0 6 hk rfl (chkN_ok (by as_aux_lemma => kernel_rfl)) rfl rfl rfl rfl (fun _ => e_move hk rfl _) fun a hk => ?_
      refine d0 7 hk rfl (chkN_ok (by as_aux_lemma => kernel_rfl)) rfl rfl rfl rfl (fun _ => e_move hk rfl _) fun a hk => ?_
      refine d0 8 hk rfl (chkN_ok (by as_aux_lemma => kernel_rfl)) rfl rfl rfl rfl (fun _ => e_idxSn k hk rfl rfl Tryd.underlying67 sz66 rfl hk4 _) fun a hk => ?_
      refine d0 9 hk rfl (chkN_ok (by as_aux_lemma => kernel_rfl)) rfl rfl rfl rfl (fun _ => e_idxAn 1 hk rfl rfl Tryd.underlying66 sz3 rfl (by decide) _) fun a hk => ?_
      refine d3 10 hk rfl (chkN_ok (by as_aux_lemma => kernel_rfl)) rfl rfl rfl rfl hS (fun w hS => r_load1 hk rfl Tryd.underlying3 rfl (ip_c2 hS k (by omega))) fun a hk => ?_
      refine branch2 11 15 rfl rfl (by as_aux_lemma => kernel_rfl) (by as_aux_lemma => kernel_rfl) ?_ ?_
      · refine wa4 (i := 11) hk rfl rfl hS (a_call hk rfl rfl (c_fn hk rfl ok48) (c48 x hLx adx cx (NS.getD k (0, 0)).1 (NS.getD k (0, 0)).2 _ hRi (hG.ext hB)) ?_)
        rintro e w ⟨⟨adp, cp, he, hRp, hlp⟩, hE⟩
        rw [hr] at he hRp
        subst he
        refine ⟨_, rfl, fun a hk => ⟨ext_at hE hS, ?_⟩⟩
        have hS := ext_at hE hS
        have hRx := hRx.ext hE
        have hRr := hRr.ext hE
        have h_bL := ext_at hE h_bL
        have hRi := hRi.ext hE
        have h_bs := ext_at hE h_bs
        have hB := ext_trans hB hE
        clear hE
        refine da4 15 hk rfl (chkN_ok (by as_aux_lemma => kernel_rfl)) rfl rfl hS (a_alloc hk rfl zr71 fun a w b16 hk G => ⟨ext_at G.ext hS, ?_⟩)
        have hS := ext_at G.ext hS
        have k_hRx_b16 := rd_keep hRx G
        have k_hRr_b16 := rd_keep hRr G
        have n_bL_b16 : bL ≠ b16 := G.ne h_bL
        have k_hRi_b16 := rd_keep hRi G
        have n_bs_b16 : bs ≠ b16 := G.ne h_bs
        have k_hRp_b16 := rdg_keep hRp G
        have hg_b16 : w0.heap.size ≤ b16 := Nat.le_trans hB.size G.ge
        have hRx := hRx.ext G.ext
        have hRr := hRr.ext G.ext
        have h_bL := ext_at G.ext h_bL
        have hRi := hRi.ext G.ext
        have h_bs := ext_at G.ext h_bs
        have hRp := hRp.ext G.ext
        have hlp := blk_ext hlp G.ext
        have hB := ext_trans hB G.ext
        have h_b16 := G.at_
        clear G
        refine d0 12 hk rfl (chkN_ok (by as_aux_lemma => kernel_rfl)) rfl rfl rfl rfl (fun _ => e_move hk rfl _) fun a hk => ?_
        refine d0 13 hk rfl (chkN_ok (by as_aux_lemma => kernel_rfl)) rfl rfl rfl rfl (fun _ => e_ext hk rfl rfl _) fun a hk => ?_
        refine d0 14 hk rfl (chkN_ok (by as_aux_lemma => kernel_rfl)) rfl rfl rfl rfl (fun _ => e_ext hk rfl rfl _) fun a hk => ?_
        refine da 16 hk rfl (chkN_ok (by as_aux_lemma => kernel_rfl)) rfl rfl (a_storeB (cs' := #[I r.n, I r.fr, .slice adp r.nodes.length cp]) hk rfl rfl (by simp [Value.oneCell']) sz71 h_b16 rfl fun a w hk W => ?_)
        have hRp := rdg_st hRp h_b16 W
        have hlp := blk_wrote hlp W
        have hRx := k_hRx_b16 _ _ _ hRx W
        have hRr := k_hRr_b16 _ _ _ hRr W
        have h_bL := W.keep n_bL_b16 h_bL
        have hRi := k_hRi_b16 _ _ _ hRi W
        have h_bs := W.keep n_bs_b16 h_bs
        have hB := W.below hB hg_b16
        have h_b16 := W.at_
        clear W
        refine d0 17 hk rfl (chkN_ok (by as_aux_lemma => kernel_rfl)) rfl rfl rfl rfl (fun _ => e_assign hk rfl _) fun a hk => ?_
        refine okFin (by as_aux_lemma => kernel_rfl) (hJ18 _ _ ⟨_, _, _, hk.sub _ ⟨rfl, rfl, rfl, rfl, rfl, rfl, rfl, rfl, rfl, trivial⟩, hB, hRx, hRr, h_bL, hRi, h_bs, hRp, hlp, h_b16⟩)
      · refine wa4 (i := 15) hk rfl rfl hS (a_alloc hk rfl zr71 fun a w b16 hk G => ⟨ext_at G.ext hS, ?_⟩)
        have hS := ext_at G.ext hS
        have k_hRx_b16 := rd_keep hRx G
        have k_hRr_b16 := rd_keep hRr G
        have n_bL_b16 : bL ≠ b16 := G.ne h_bL
        have k_hRi_b16 := rd_keep hRi G
        have n_bs_b16 : bs ≠ b16 := G.ne h_bs
        have hg_b16 : w0.heap.size ≤ b16 := Nat.le_trans hB.size G.ge
        have hRx := hRx.ext G.ext
        have hRr := hRr.ext G.ext
        have h_bL := ext_at G.ext h_bL
        have hRi := hRi.ext G.ext
        have h_bs := ext_at G.ext h_bs
        have hB := ext_trans hB G.ext
        have h_b16 := G.at_
        clear G
        refine da4 11 hk rfl (chkN_ok (by as_aux_lemma => kernel_rfl)) rfl rfl hS (a_call hk rfl rfl (c_fn hk rfl ok48) (c48 x hLx adx cx (NS.getD k (0, 0)).1 (NS.getD k (0, 0)).2 _ hRi (hG.ext hB)) ?_)
        rintro e w ⟨⟨adp, cp, he, hRp, hlp⟩, hE⟩
        rw [hr] at he hRp
        subst he
        refine ⟨_, rfl, fun a hk => ⟨ext_at hE hS, ?_⟩⟩
        have hS := ext_at hE hS
        have hRx := hRx.ext hE
        have hRr := hRr.ext hE
        have h_bL := ext_at hE h_bL
        have hRi := hRi.ext hE
        have h_bs := ext_at hE h_bs
        have h_b16 := ext_at hE h_b16
        have hB := ext_trans hB hE
        clear hE
        refine d0 12 hk rfl (chkN_ok (by as_aux_lemma => kernel_rfl)) rfl rfl rfl rfl (fun _ => e_move hk rfl _) fun a hk => ?_
        refine d0 13 hk rfl (chkN_ok (by as_aux_lemma => kernel_rfl)) rfl rfl rfl rfl (fun _ => e_ext hk rfl rfl _) fun a hk => ?_
        refine d0 14 hk rfl (chkN_ok (by as_aux_lemma => kernel_rfl)) rfl rfl rfl rfl (fun _ => e_ext hk rfl rfl _) fun a hk => ?_
        refine da 16 hk rfl (chkN_ok (by as_aux_lemma => kernel_rfl)) rfl rfl (a_storeB (cs' := #[I r.n, I r.fr, .slice adp r.nodes.length cp]) hk rfl rfl (by simp [Value.oneCell']) sz71 h_b16 rfl fun a w hk W => ?_)
        have hRp := rdg_st hRp h_b16 W
        have hlp := blk_wrote hlp W
        have hRx := k_hRx_b16 _ _ _ hRx W
        have hRr := k_hRr_b16 _ _ _ hRr W
        have h_bL := W.keep n_bL_b16 h_bL
        have hRi := k_hRi_b16 _ _ _ hRi W
        have h_bs := W.keep n_bs_b16 h_bs
        have hB := W.below hB hg_b16
        have h_b16 := W.at_
        clear W
        refine d0 17 hk rfl (chkN_ok (by as_aux_lemma => kernel_rfl)) rfl rfl rfl rfl (fun _ => e_assign hk rfl _) fun a hk => ?_
        refine okFin (by as_aux_lemma => kernel_rfl) (hJ18 _ _ ⟨_, _, _, hk.sub _ ⟨rfl, rfl, rfl, rfl, rfl, rfl, rfl, rfl, rfl, trivial⟩, hB, hRx, hRr, h_bL, hRi, h_bs, hRp, hlp, h_b16⟩)
    · refine wp_exit (hK7 _ _ ?_)
      refine wp_region_lit ?_
      refine ls hk rfl rfl rfl (e_move hk rfl _) fun a hk => ?_
      refine ls hk rfl rfl rfl (e_add hk rfl rfl (i64 (by omega) (by omega)) _) fun a hk => ?_
      refine ls hk rfl rfl rfl (e_assign hk rfl _) fun a hk => ?_
      refine lnil (show ∃ m : Nat, m < _ ∧ _ from ⟨3 - (i + 1), by omega, i + 1, rfl, by omega, hk.sub _ ⟨rfl, rfl, rfl, rfl, trivial⟩, hB, hRx, hRr, h_bL⟩)
  · refine wp_exit (hK3 _ _ ?_)
    refine wp_seq_k fun K23 hK23 => ?_
    refine wp_region_lit ?_
    refine la hk rfl (a_call hk rfl rfl (c_fn (vs := []) hk rfl ok53) (c53 _ (hG.ext hB)) ?_)
    rintro e w ⟨rfl, hE⟩
    refine ⟨_, rfl, fun a hk => ?_⟩
    have hRx := hRx.ext hE
    have hRr := hRr.ext hE
    have h_bL := ext_at hE h_bL
    have hB := ext_trans hB hE
    clear hE
    refine ls hk rfl rfl rfl (e_assign hk rfl _) fun a hk => ?_
    refine lnil (hK23 _ _ ?_)
    refine wp_ret ?_
    first
      | exact ret1 hk rfl rfl ⟨rfl, hB⟩
      | (simp only [then_ret]; exact ret1 hk rfl rfl ⟨rfl, hB⟩)

end Go.Proofs.YtidfbboalbchiaaDoor
