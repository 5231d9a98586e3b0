/- The walk of the law of checked trees. -/
import Derived.Test.YtidfbboalbchiaaDoorVA41
namespace Go.Proofs.YtidfbboalbchiaaDoor
open Go Go.RowKit

/-- Rows of proofs: two numbers and a slice each. -/
def pc (l : List (Int × Int × Value)) : List Value := l.flatMap fun p => [I p.1, I p.2.1, p.2.2]
theorem pc_get : ∀ (l : List (Int × Int × Value)) (j : Nat) (N F : Int) (s : Value), l[j]? = some (N, F, s) → (pc l)[3 * j]? = some (I N) ∧ (pc l)[3 * j + 1]? = some (I F) ∧ (pc l)[3 * j + 2]? = some s := by
  intro l
  induction l with
  | nil => intro j N F s h; simp at h
  | cons p r ih =>
    intro j N F s h
    cases j with
    | zero =>
      obtain rfl : p = (N, F, s) := by simpa using h
      exact ⟨rfl, rfl, rfl⟩
    | succ j => exact ih j N F s (by simpa using h)
section
variable {w : World} {b : Nat} {t : TypeId} {fr : Nat × Nat} {l : List (Int × Int × Value)} {N F : Int} {s : Value}
theorem pc_c0 (h : w.heap[b]? = some (.cells (pc l).toArray t fr)) (j : Nat) (hj : l[j]? = some (N, F, s)) : w.cell? ⟨b, 0 + j * 3 + 0, none⟩ = some (I N) := by
  rw [cell_of_row w b _ _ t fr h, show 0 + j * 3 + 0 = 3 * j by omega, List.getElem?_toArray]; exact (pc_get l j N F s hj).1
theorem pc_c1 (h : w.heap[b]? = some (.cells (pc l).toArray t fr)) (j : Nat) (hj : l[j]? = some (N, F, s)) : w.cell? ⟨b, 0 + j * 3 + 1, none⟩ = some (I F) := by
  rw [cell_of_row w b _ _ t fr h, show 0 + j * 3 + 1 = 3 * j + 1 by omega, List.getElem?_toArray]; exact (pc_get l j N F s hj).2.1
theorem pc_c2 (h : w.heap[b]? = some (.cells (pc l).toArray t fr)) (j : Nat) (hj : l[j]? = some (N, F, s)) : w.cell? ⟨b, 0 + j * 3 + 2, none⟩ = some s := by
  rw [cell_of_row w b _ _ t fr h, show 0 + j * 3 + 2 = 3 * j + 2 by omega, List.getElem?_toArray]; exact (pc_get l j N F s hj).2.2
theorem pc_r (h : w.heap[b]? = some (.cells (pc l).toArray t fr)) (j : Nat) (hj : l[j]? = some (N, F, s)) : w.rangeAt b (0 + j * 3) [I N, I F, s] := fun k u hu => by
  match k, hu with
  | 0, hu => cases hu; exact pc_c0 h j hj
  | 1, hu => cases hu; exact pc_c1 h j hj
  | 2, hu => cases hu; exact pc_c2 h j hj
end
theorem el74 : El Tryd.prog 74 (.agg #[I 0, I 0, .slice none 0 0]) 3 40 := by unfold El; kernel_rfl
theorem prov_small {xs : List (List UInt8)} {f t : Nat} (h20 : xs.length ≤ 20) (hf : f ≤ 20) : (0 ≤ (provR xs f t).n ∧ (provR xs f t).n ≤ 20) ∧ (0 ≤ (provR xs f t).fr ∧ (provR xs f t).fr ≤ 20) ∧ (provR xs f t).nodes.length ≤ 40 := by
  by_cases h : (f : Int) < 0 ∨ (f : Int) ≥ t ∨ (t : Int) > xs.length
  · have e : provR xs f t = ⟨0, 0, [], 1⟩ := by unfold provR; rw [if_pos h]
    rw [e]; simp
  · have hs := prov_short (xs := xs) (f := f) (t := t) (d := 5) (by omega) (by omega) (by omega)
    rw [prov_good (by omega) (by omega)] at hs ⊢
    simp only at hs ⊢
    omega
theorem sub_blk2 {w : World} {ad : Option Addr} {n c k : Nat} {xs : List Value} (hR : Rd w ad n c 1 xs) (hk : k ≤ n) (h : ∀ b o, ad = some ⟨b, o, none⟩ → b < w.heap.size) : ∀ b o, (if c = k then ad else ad.map (·.add (k * 1))) = some ⟨b, o, none⟩ → b < w.heap.size := fun b o e => by
  split at e
  · exact h b o e
  · rcases Nat.eq_zero_or_pos n with h0 | h0
    · obtain rfl : k = 0 := by omega
      cases ad with
      | none => cases e
      | some p => exact h b o (by simpa [Addr.add] using e)
    · obtain ⟨b', o', rfl, _⟩ := hR.2.2 0 (xs[0]'(by have := hR.1; omega)) (by simp)
      have : b = b' := by simp [Addr.add_lit] at e; exact e.1.symm
      rw [this]; exact h b' o' rfl
theorem ones_str (l : List (List UInt8)) : ∀ u ∈ l.map Str, u.oneCell' = true := fun u hu => by
  obtain ⟨x, _, rfl⟩ := List.mem_map.1 hu; rfl

set_option maxRecDepth 4000 in
set_option maxHeartbeats 1000000 in
theorem c13 (l : List Int) (hl64 : ∀ n ∈ l, is64 n) (n₁ n₂ at₀ how₀ by₀ : Int) (hi1 : is64 n₁) (hi2 : is64 n₂) (ha64 : is64 at₀) (hh64 : is64 how₀) (hb64 : is64 by₀) (ad : Option Addr) (c : Nat) (w0 : World) (hR : Ri w0 ad l.length c l) (hG : GH w0) (hGR : GR w0) :
    Calls Tryd.prog 13 #[.slice ad l.length c, I n₁, I n₂, I at₀, I how₀, I by₀] w0 fun e w' => e = .returned (.bool true) ∧ Ext w0 w' := by
  refine start 191 Tryd.func13 rfl rfl rfl fun a hk => ?_
  have hB : Ext w0 w0 := Below.refl _ _
  refine wp_seq_k fun K1 hK1 => ?_
  refine wp_region_lit ?_
  refine ls hk rfl rfl rfl (e_assign hk rfl _) fun a hk => ?_
  refine lnil (hK1 _ _ ?_)
  refine wp_seq_k fun K2 hK2 => ?_
  refine wp_region_lit ?_
  refine ls hk rfl rfl rfl (e_move hk rfl _) fun a hk => ?_
  refine la hk rfl (a_call hk rfl rfl (c_fn hk rfl ok44) (c44 l hl64 ad c _ (Rd.ext hR hB)) ?_)
  rintro e w ⟨⟨ad2, c2, xs, rfl, hRx, h20, hL, hlt⟩, hE⟩
  refine ⟨_, rfl, fun a hk => ?_⟩
  have hB := ext_trans hB hE
  have hL1 := hL.1
  clear hE
  refine ls hk rfl rfl rfl (e_assign hk rfl _) fun a hk => ?_
  refine lnil (hK2 _ _ ?_)
  refine wp_seq_k fun K3 hK3 => ?_
  refine wp_region_lit ?_
  refine ls hk rfl rfl rfl (e_move hk rfl _) fun a hk => ?_
  refine ls hk rfl rfl rfl (e_move hk rfl _) fun a hk => ?_
  refine ls hk rfl rfl rfl (e_lenS hk rfl Tryd.underlying27 _) fun a hk => ?_
  refine ls hk rfl rfl rfl (e_max (q := ((max xs.length 1 : Nat) : Int)) hk rfl rfl (by omega) _) fun a hk => ?_
  refine la hk rfl (a_call hk rfl rfl (c_fn hk rfl ok45) (c45 n₁ ((max xs.length 1 : Nat) : Int) _ hi1) ?_)
  rintro e w ⟨rfl, hE⟩
  refine ⟨_, rfl, fun a hk => ?_⟩
  have hRx := hRx.ext hE
  have hlt := blk_ext hlt hE
  have hB := ext_trans hB hE
  obtain ⟨f, hqf, hzf⟩ : ∃ k : Nat, aroundS n₁ ((max xs.length 1 : Nat) : Int) = k ∧ (k : Int) < ((max xs.length 1 : Nat) : Int) := ⟨(aroundS n₁ ((max xs.length 1 : Nat) : Int)).toNat, by rw [Int.toNat_of_nonneg (around_pos _ _)], by have := around_lt (n := n₁) (most := ((max xs.length 1 : Nat) : Int)) (by omega); have := around_pos n₁ ((max xs.length 1 : Nat) : Int); omega⟩
  rw [hqf] at hk
  clear hE
  refine ls hk rfl rfl rfl (e_assign hk rfl _) fun a hk => ?_
  refine lnil (hK3 _ _ ?_)
  refine wp_seq_k fun K4 hK4 => ?_
  refine wp_region_lit ?_
  refine ls hk rfl rfl rfl (e_move hk rfl _) fun a hk => ?_
  refine ls hk rfl rfl rfl (e_add (q := ((f + 1 : Nat) : Int)) hk rfl rfl (by rw [i64 (by omega) (by omega)]; omega) _) fun a hk => ?_
  refine ls hk rfl rfl rfl (e_move hk rfl _) fun a hk => ?_
  refine la hk rfl (a_call hk rfl rfl (c_fn hk rfl ok45) (c45 n₂ 5 _ hi2) ?_)
  rintro e w ⟨rfl, hE⟩
  refine ⟨_, rfl, fun a hk => ?_⟩
  have hRx := hRx.ext hE
  have hlt := blk_ext hlt hE
  have hB := ext_trans hB hE
  obtain ⟨g, hqg, hzg⟩ : ∃ k : Nat, aroundS n₂ (5 : Int) = k ∧ (k : Int) < (5 : Int) := ⟨(aroundS n₂ (5 : Int)).toNat, by rw [Int.toNat_of_nonneg (around_pos _ _)], by have := around_lt (n := n₂) (most := (5 : Int)) (by omega); have := around_pos n₂ (5 : Int); omega⟩
  rw [hqg] at hk
  clear hE
  refine ls hk rfl rfl rfl (e_add (q := ((f + 1 + g : Nat) : Int)) hk rfl rfl (by rw [i64 (by omega) (by omega)]; omega) _) fun a hk => ?_
  refine ls hk rfl rfl rfl (e_move hk rfl _) fun a hk => ?_
  refine ls hk rfl rfl rfl (e_lenS hk rfl Tryd.underlying27 _) fun a hk => ?_
  refine ls hk rfl rfl rfl (e_min (q := ((min (f + 1 + g) xs.length : Nat) : Int)) hk rfl rfl (by omega) _) fun a hk => ?_
  obtain ⟨bb, hbb⟩ : ∃ m : Nat, m = min (f + 1 + g) xs.length := ⟨_, rfl⟩
  rw [← hbb] at hk
  refine ls hk rfl rfl rfl (e_assign hk rfl _) fun a hk => ?_
  refine lnil (hK4 _ _ ?_)
  refine wp_seq_k fun K5 hK5 => ?_
  refine wp_region_lit ?_
  refine ls hk rfl rfl rfl (e_move hk rfl _) fun a hk => ?_
  refine ls hk rfl rfl rfl (e_move hk rfl _) fun a hk => ?_
  refine ls hk rfl rfl rfl (e_move hk rfl _) fun a hk => ?_
  refine la hk rfl (a_call hk rfl rfl (c_fn hk rfl ok49) (c49 xs hL ad2 c2 f bb _ hRx (hGR.ext hB)) ?_)
  rintro e w ⟨⟨adp, cp, he, hRp, hlp⟩, hE⟩
  have hps := prov_small (xs := xs) (f := f) (t := bb) h20 (by omega)
  generalize provR xs f bb = PP at he hRp hps
  obtain ⟨pn, pf, Pn, pe⟩ := PP
  simp only at he hRp hps
  obtain ⟨hpn, hpf, hpl⟩ := hps
  subst he
  refine ⟨_, rfl, fun a hk => ?_⟩
  have hRx := hRx.ext hE
  have hlt := blk_ext hlt hE
  have hB := ext_trans hB hE
  clear hE
  refine ls hk rfl rfl rfl (e_move hk rfl _) fun a hk => ?_
  refine ls hk rfl rfl rfl (e_ext hk rfl rfl _) fun a hk => ?_
  refine ls hk rfl rfl rfl (e_ext hk rfl rfl _) fun a hk => ?_
  refine la hk rfl (a_alloc hk rfl zr74 fun a w b16 hk G => ?_)
  have k_hRx_b16 := rd_keep hRx G
  have k_hRp_b16 := rdg_keep hRp G
  have hg_b16 : w0.heap.size ≤ b16 := Nat.le_trans hB.size G.ge
  have hRx := hRx.ext G.ext
  have hlt := blk_ext hlt G.ext
  have hRp := hRp.ext G.ext
  have hlp := blk_ext hlp G.ext
  have hB := ext_trans hB G.ext
  have h_b16 := G.at_
  clear G
  refine la hk rfl (a_storeB (cs' := #[I pn, I pf, .slice adp Pn.length cp]) hk rfl rfl (by simp [Value.oneCell']) sz74 h_b16 rfl fun a w hk W => ?_)
  have hRx := k_hRx_b16 _ _ _ hRx W
  have hlt := blk_wrote hlt W
  have hRp := k_hRp_b16 _ _ _ hRp W
  have hlp := blk_wrote hlp W
  have hB := W.below hB hg_b16
  have h_b16 := W.at_
  clear W
  refine ls hk rfl rfl rfl (e_assign hk rfl _) fun a hk => ?_
  refine lnil (hK5 _ _ ?_)
  refine wp_seq_k fun K6 hK6 => ?_
  refine wp_region_lit ?_
  refine ls hk rfl rfl rfl (e_move hk rfl _) fun a hk => ?_
  refine ls hk rfl rfl rfl (e_move hk rfl _) fun a hk => ?_
  refine ls hk rfl rfl rfl (e_move hk rfl _) fun a hk => ?_
  refine ls hk rfl rfl rfl (e_lenS hk rfl Tryd.underlying27 _) fun a hk => ?_
  refine ls hk rfl rfl rfl (e_min (q := ((min f xs.length : Nat) : Int)) hk rfl rfl (by omega) _) fun a hk => ?_
  refine ls hk rfl rfl rfl (e_move hk rfl _) fun a hk => ?_
  refine ls hk rfl rfl rfl (e_move hk rfl _) fun a hk => ?_
  refine ls hk rfl rfl rfl (e_move hk rfl _) fun a hk => ?_
  refine ls hk rfl rfl rfl (e_lenS hk rfl Tryd.underlying27 _) fun a hk => ?_
  refine ls hk rfl rfl rfl (e_min (q := ((min f xs.length : Nat) : Int)) hk rfl rfl (by omega) _) fun a hk => ?_
  obtain ⟨lo, hlo⟩ : ∃ m : Nat, m = min f xs.length := ⟨_, rfl⟩
  rw [← hlo] at hk
  refine ls hk rfl rfl rfl (e_max (q := ((max bb lo : Nat) : Int)) hk rfl rfl (by omega) _) fun a hk => ?_
  obtain ⟨hi, hhi⟩ : ∃ m : Nat, m = max bb lo := ⟨_, rfl⟩
  rw [← hhi] at hk
  refine ls hk rfl rfl rfl (e_slS hk rfl rfl rfl Tryd.underlying27 sz9 (by omega) (by omega) (by have := hRx.2.1; omega) _) fun a hk => ?_
  have hRw := sub_mid hRx (i := lo) (j := hi) (by omega) (by omega)
  rw [← List.map_take, ← List.map_drop, show (xs.take hi).drop lo = cut xs lo hi from rfl] at hRw
  rw [Int.toNat_natCast, Int.toNat_natCast] at hk
  have hcl := length_cut xs lo hi (by omega)
  obtain ⟨adw, hadw, hlw⟩ : ∃ q, (if c2 = lo then ad2 else ad2.map (·.add (lo * 1))) = q ∧ ∀ b o, q = some ⟨b, o, none⟩ → b < w.heap.size := ⟨_, rfl, sub_blk2 hRx (by omega) hlt⟩
  rw [hadw] at hk hRw
  have hk := hk.lift 61 (v := .slice adw (cut xs lo hi).length (c2 - lo)) (by rw [hcl]; rfl)
  have hRw : Rs w adw (cut xs lo hi).length (c2 - lo) (cut xs lo hi) := by rw [hcl]; exact hRw
  have hLw : Lv (cut xs lo hi) := ⟨by omega, fun x hx => hL.2 x (List.mem_of_mem_take (List.mem_of_mem_drop hx))⟩
  have how : (cut xs lo hi).length ≤ 20 := by omega
  generalize cut xs lo hi = ow at hk hRw hLw how
  clear hcl
  refine ls hk rfl rfl rfl (e_assign hk rfl _) fun a hk => ?_
  refine lnil (hK6 _ _ ?_)
  refine wp_seq_k fun K7 hK7 => ?_
  refine wp_region_lit ?_
  refine ls hk rfl rfl rfl (e_move hk rfl _) fun a hk => ?_
  refine la hk rfl (a_call hk rfl rfl (c_fn hk rfl ok47) (c47 _ xs ad2 c2 _ rfl hL hRx (hGR.ext hB)) ?_)
  rintro e w ⟨rfl, hE⟩
  refine ⟨_, rfl, fun a hk => ?_⟩
  have hRx := hRx.ext hE
  have hlt := blk_ext hlt hE
  have hRp := hRp.ext hE
  have hlp := blk_ext hlp hE
  have h_b16 := ext_at hE h_b16
  have hRw := hRw.ext hE
  have hlw := blk_ext hlw hE
  have hB := ext_trans hB hE
  clear hE
  refine la hk rfl (a_alloc hk rfl zr44 fun a w b19 hk G => ?_)
  have k_hRx_b19 := rd_keep hRx G
  have k_hRp_b19 := rdg_keep hRp G
  have n_b16_b19 : b16 ≠ b19 := G.ne h_b16
  have k_hRw_b19 := rd_keep hRw G
  have hg_b19 : w0.heap.size ≤ b19 := Nat.le_trans hB.size G.ge
  have hRx := hRx.ext G.ext
  have hlt := blk_ext hlt G.ext
  have hRp := hRp.ext G.ext
  have hlp := blk_ext hlp G.ext
  have h_b16 := ext_at G.ext h_b16
  have hRw := hRw.ext G.ext
  have hlw := blk_ext hlw G.ext
  have hB := ext_trans hB G.ext
  have h_b19 := G.at_
  clear G
  refine la hk rfl (a_st44 (l := rootS xs) hk rfl rfl (by simp) h_b19 rfl fun a w hk W => ?_)
  have hRx := k_hRx_b19 _ _ _ hRx W
  have hlt := blk_wrote hlt W
  have hRp := k_hRp_b19 _ _ _ hRp W
  have hlp := blk_wrote hlp W
  have h_b16 := W.keep n_b16_b19 h_b16
  have hRw := k_hRw_b19 _ _ _ hRw W
  have hlw := blk_wrote hlw W
  have hB := W.below hB hg_b19
  have h_b19 := W.at_
  clear W
  refine lnil (hK7 _ _ ?_)
  refine wp_seq_k fun K8 hK8 => ?_
  refine wp_region_lit ?_
  refine ls hk rfl rfl rfl (e_field (off := 2) hk rfl Tryd.underlying74 rfl rfl nz69 _) fun a hk => ?_
  refine ls hk rfl rfl rfl (r_load hk rfl Tryd.underlying69 rfl h_b16 rfl) fun a hk => ?_
  refine ls hk rfl rfl rfl (e_move hk rfl _) fun a hk => ?_
  refine ls hk rfl rfl rfl (e_move hk rfl _) fun a hk => ?_
  refine ls hk rfl rfl rfl (e_move hk rfl _) fun a hk => ?_
  refine la hk rfl (a_call hk rfl rfl (c_fn hk rfl ok54) (c54 Pn at₀ how₀ by₀ ha64 hh64 hb64 adp cp _ hRp (by omega)) ?_)
  rintro e w ⟨⟨ad1, c1, s1, he, hRb, hs1, hlb⟩, hE⟩
  subst he
  refine ⟨_, rfl, fun a hk => ?_⟩
  have hRx := hRx.ext hE
  have hlt := blk_ext hlt hE
  have hRp := hRp.ext hE
  have hlp := blk_ext hlp hE
  have h_b16 := ext_at hE h_b16
  have hRw := hRw.ext hE
  have hlw := blk_ext hlw hE
  have h_b19 := ext_at hE h_b19
  have hB := ext_trans hB hE
  clear hE
  refine ls hk rfl rfl rfl (e_assign hk rfl _) fun a hk => ?_
  refine lnil (hK8 _ _ ?_)
  refine wp_seq_k fun K9 hK9 => ?_
  refine wp_region_ok (fun w => w.heap[b16]? = some (.cells #[I pn, I pf, .slice adp Pn.length cp] 74 (0, 0))) [3, 0, 3, 0, 3, 0, 0, 0, 3, 0, 3, 0, 0, 0, 0, 0, 4, 0, 0, 3, 0, 4, 0, 0, 0, 3, 0, 3, 0, 0, 3, 0, 3, 0, 4, 0, 0, 0, 3, 0, 0, 0, 0, 3, 0, 0, 0, 0, 0, 0, 0, 2, 0] mixed ?_
  have hB := hB.drew
  have hRx := hRx.ext (ext_drew w)
  have hlt := blk_ext hlt (ext_drew w)
  have hRp := hRp.ext (ext_drew w)
  have hlp := blk_ext hlp (ext_drew w)
  have h_b16 := ext_at (ext_drew w) h_b16
  have hRw := hRw.ext (ext_drew w)
  have hlw := blk_ext hlw (ext_drew w)
  have h_b19 := ext_at (ext_drew w) h_b19
  have hRb := hRb.ext (ext_drew w)
  have hlb := blk_ext hlb (ext_drew w)
  have hS : (fun w => w.heap[b16]? = some (.cells #[I pn, I pf, .slice adp Pn.length cp] 74 (0, 0))) w.drew := h_b16
  refine d3 0 hk rfl (chkN_ok (by as_aux_lemma => kernel_rfl)) rfl rfl rfl rfl hS (fun w hS => r_loadB hk rfl hS Tryd.underlying74 rfl sz74) fun a hk => ?_
  refine d0 1 hk rfl (chkN_ok (by as_aux_lemma => kernel_rfl)) rfl rfl rfl rfl (fun _ => e_field (off := 0) hk rfl Tryd.underlying74 rfl rfl nz3 _) fun a hk => ?_
  refine d3 2 hk rfl (chkN_ok (by as_aux_lemma => kernel_rfl)) rfl rfl rfl rfl hS (fun w hS => r_load hk rfl Tryd.underlying3 rfl hS rfl) fun a hk => ?_
  refine d0 3 hk rfl (chkN_ok (by as_aux_lemma => kernel_rfl)) rfl rfl rfl rfl (fun _ => e_field (off := 1) hk rfl Tryd.underlying74 rfl rfl nz3 _) fun a hk => ?_
  refine d3 4 hk rfl (chkN_ok (by as_aux_lemma => kernel_rfl)) rfl rfl rfl rfl hS (fun w hS => r_load hk rfl Tryd.underlying3 rfl hS rfl) fun a hk => ?_
  refine d0 5 hk rfl (chkN_ok (by as_aux_lemma => kernel_rfl)) rfl rfl rfl rfl (fun _ => e_move hk rfl _) fun a hk => ?_
  refine d0 6 hk rfl (chkN_ok (by as_aux_lemma => kernel_rfl)) rfl rfl rfl rfl (fun _ => e_buildS (cells := #[I (pn), I (pf), .slice ad1 s1.length c1]) (pl := #[(0, 1), (1, 1), (2, 1)]) hk rfl zr74 Tryd.underlying74 (fun w => by kernel_rfl) rfl _) fun a hk => ?_
  refine d0 7 hk rfl (chkN_ok (by as_aux_lemma => kernel_rfl)) rfl rfl rfl rfl (fun _ => e_field (off := 0) hk rfl Tryd.underlying74 rfl rfl nz3 _) fun a hk => ?_
  refine d3 8 hk rfl (chkN_ok (by as_aux_lemma => kernel_rfl)) rfl rfl rfl rfl hS (fun w hS => r_load hk rfl Tryd.underlying3 rfl hS rfl) fun a hk => ?_
  refine d0 9 hk rfl (chkN_ok (by as_aux_lemma => kernel_rfl)) rfl rfl rfl rfl (fun _ => e_field (off := 1) hk rfl Tryd.underlying74 rfl rfl nz3 _) fun a hk => ?_
  refine d3 10 hk rfl (chkN_ok (by as_aux_lemma => kernel_rfl)) rfl rfl rfl rfl hS (fun w hS => r_load hk rfl Tryd.underlying3 rfl hS rfl) fun a hk => ?_
  refine d0 11 hk rfl (chkN_ok (by as_aux_lemma => kernel_rfl)) rfl rfl rfl rfl (fun _ => e_move hk rfl _) fun a hk => ?_
  refine d0 12 hk rfl (chkN_ok (by as_aux_lemma => kernel_rfl)) rfl rfl rfl rfl (fun _ => e_move hk rfl _) fun a hk => ?_
  refine d0 13 hk rfl (chkN_ok (by as_aux_lemma => kernel_rfl)) rfl rfl rfl rfl (fun _ => e_move hk rfl _) fun a hk => ?_
  refine d0 14 hk rfl (chkN_ok (by as_aux_lemma => kernel_rfl)) rfl rfl rfl rfl (fun _ => e_quo (q := how₀.tdiv 5) hk rfl rfl (by decide) (i64 (tdiv5 hh64).1 (tdiv5 hh64).2) _) fun a hk => ?_
  refine d0 15 hk rfl (chkN_ok (by as_aux_lemma => kernel_rfl)) rfl rfl rfl rfl (fun _ => e_move hk rfl _) fun a hk => ?_
  refine da4 16 hk rfl (chkN_ok (by as_aux_lemma => kernel_rfl)) rfl rfl hS (a_call hk rfl rfl (c_fn hk rfl ok54) (c54 s1 by₀ (how₀.tdiv 5) at₀ hb64 (tdiv5 hh64) ha64 ad1 c1 _ hRb (by omega)) ?_)
  rintro e w ⟨⟨ad3, c3, s3, he, hRc, hs3, hlc⟩, hE⟩
  subst he
  refine ⟨_, rfl, fun a hk => ⟨ext_at hE hS, ?_⟩⟩
  have hS := ext_at hE hS
  have hRx := hRx.ext hE
  have hlt := blk_ext hlt hE
  have hRp := hRp.ext hE
  have hlp := blk_ext hlp hE
  have h_b16 := ext_at hE h_b16
  have hRw := hRw.ext hE
  have hlw := blk_ext hlw hE
  have h_b19 := ext_at hE h_b19
  have hRb := hRb.ext hE
  have hlb := blk_ext hlb hE
  have hB := ext_trans hB hE
  clear hE
  refine d0 17 hk rfl (chkN_ok (by as_aux_lemma => kernel_rfl)) rfl rfl rfl rfl (fun _ => e_buildS (cells := #[I (pn), I (pf), .slice ad3 s3.length c3]) (pl := #[(0, 1), (1, 1), (2, 1)]) hk rfl zr74 Tryd.underlying74 (fun w => by kernel_rfl) rfl _) fun a hk => ?_
  refine d0 18 hk rfl (chkN_ok (by as_aux_lemma => kernel_rfl)) rfl rfl rfl rfl (fun _ => e_field (off := 0) hk rfl Tryd.underlying74 rfl rfl nz3 _) fun a hk => ?_
  refine d3 19 hk rfl (chkN_ok (by as_aux_lemma => kernel_rfl)) rfl rfl rfl rfl hS (fun w hS => r_load hk rfl Tryd.underlying3 rfl hS rfl) fun a hk => ?_
  refine d0 20 hk rfl (chkN_ok (by as_aux_lemma => kernel_rfl)) rfl rfl rfl rfl (fun _ => e_move hk rfl _) fun a hk => ?_
  refine da4 21 hk rfl (chkN_ok (by as_aux_lemma => kernel_rfl)) rfl rfl hS (a_call hk rfl rfl (c_fn hk rfl ok45) (c45 by₀ 5 _ hb64) ?_)
  rintro e w ⟨rfl, hE⟩
  refine ⟨_, rfl, fun a hk => ⟨ext_at hE hS, ?_⟩⟩
  have hS := ext_at hE hS
  have hRx := hRx.ext hE
  have hlt := blk_ext hlt hE
  have hRp := hRp.ext hE
  have hlp := blk_ext hlp hE
  have h_b16 := ext_at hE h_b16
  have hRw := hRw.ext hE
  have hlw := blk_ext hlw hE
  have h_b19 := ext_at hE h_b19
  have hRb := hRb.ext hE
  have hlb := blk_ext hlb hE
  have hRc := hRc.ext hE
  have hlc := blk_ext hlc hE
  have hB := ext_trans hB hE
  obtain ⟨u, hqu, hzu⟩ : ∃ k : Nat, aroundS by₀ (5 : Int) = k ∧ (k : Int) < (5 : Int) := ⟨(aroundS by₀ (5 : Int)).toNat, by rw [Int.toNat_of_nonneg (around_pos _ _)], by have := around_lt (n := by₀) (most := (5 : Int)) (by omega); have := around_pos by₀ (5 : Int); omega⟩
  rw [hqu] at hk
  clear hE
  refine d0 22 hk rfl (chkN_ok (by as_aux_lemma => kernel_rfl)) rfl rfl rfl rfl (fun _ => e_add hk rfl rfl (i64 (by omega) (by omega)) _) fun a hk => ?_
  refine d0 23 hk rfl (chkN_ok (by as_aux_lemma => kernel_rfl)) rfl rfl rfl rfl (fun _ => e_sub hk rfl rfl (i64 (by omega) (by omega)) _) fun a hk => ?_
  refine d0 24 hk rfl (chkN_ok (by as_aux_lemma => kernel_rfl)) rfl rfl rfl rfl (fun _ => e_field (off := 1) hk rfl Tryd.underlying74 rfl rfl nz3 _) fun a hk => ?_
  refine d3 25 hk rfl (chkN_ok (by as_aux_lemma => kernel_rfl)) rfl rfl rfl rfl hS (fun w hS => r_load hk rfl Tryd.underlying3 rfl hS rfl) fun a hk => ?_
  refine d0 26 hk rfl (chkN_ok (by as_aux_lemma => kernel_rfl)) rfl rfl rfl rfl (fun _ => e_field (off := 2) hk rfl Tryd.underlying74 rfl rfl nz69 _) fun a hk => ?_
  refine d3 27 hk rfl (chkN_ok (by as_aux_lemma => kernel_rfl)) rfl rfl rfl rfl hS (fun w hS => r_load hk rfl Tryd.underlying69 rfl hS rfl) fun a hk => ?_
  refine d0 28 hk rfl (chkN_ok (by as_aux_lemma => kernel_rfl)) rfl rfl rfl rfl (fun _ => e_buildS (cells := #[I (pn + u - 2), I (pf), .slice adp Pn.length cp]) (pl := #[(0, 1), (1, 1), (2, 1)]) hk rfl zr74 Tryd.underlying74 (fun w => by kernel_rfl) rfl _) fun a hk => ?_
  refine d0 29 hk rfl (chkN_ok (by as_aux_lemma => kernel_rfl)) rfl rfl rfl rfl (fun _ => e_field (off := 0) hk rfl Tryd.underlying74 rfl rfl nz3 _) fun a hk => ?_
  refine d3 30 hk rfl (chkN_ok (by as_aux_lemma => kernel_rfl)) rfl rfl rfl rfl hS (fun w hS => r_load hk rfl Tryd.underlying3 rfl hS rfl) fun a hk => ?_
  refine d0 31 hk rfl (chkN_ok (by as_aux_lemma => kernel_rfl)) rfl rfl rfl rfl (fun _ => e_field (off := 1) hk rfl Tryd.underlying74 rfl rfl nz3 _) fun a hk => ?_
  refine d3 32 hk rfl (chkN_ok (by as_aux_lemma => kernel_rfl)) rfl rfl rfl rfl hS (fun w hS => r_load hk rfl Tryd.underlying3 rfl hS rfl) fun a hk => ?_
  refine d0 33 hk rfl (chkN_ok (by as_aux_lemma => kernel_rfl)) rfl rfl rfl rfl (fun _ => e_move hk rfl _) fun a hk => ?_
  refine da4 34 hk rfl (chkN_ok (by as_aux_lemma => kernel_rfl)) rfl rfl hS (a_call hk rfl rfl (c_fn hk rfl ok45) (c45 by₀ 5 _ hb64) ?_)
  rintro e w ⟨rfl, hE⟩
  refine ⟨_, rfl, fun a hk => ⟨ext_at hE hS, ?_⟩⟩
  have hS := ext_at hE hS
  have hRx := hRx.ext hE
  have hlt := blk_ext hlt hE
  have hRp := hRp.ext hE
  have hlp := blk_ext hlp hE
  have h_b16 := ext_at hE h_b16
  have hRw := hRw.ext hE
  have hlw := blk_ext hlw hE
  have h_b19 := ext_at hE h_b19
  have hRb := hRb.ext hE
  have hlb := blk_ext hlb hE
  have hRc := hRc.ext hE
  have hlc := blk_ext hlc hE
  have hB := ext_trans hB hE
  obtain ⟨v, hqv, hzv⟩ : ∃ k : Nat, aroundS by₀ (5 : Int) = k ∧ (k : Int) < (5 : Int) := ⟨(aroundS by₀ (5 : Int)).toNat, by rw [Int.toNat_of_nonneg (around_pos _ _)], by have := around_lt (n := by₀) (most := (5 : Int)) (by omega); have := around_pos by₀ (5 : Int); omega⟩
  rw [hqv] at hk
  clear hE
  refine d0 35 hk rfl (chkN_ok (by as_aux_lemma => kernel_rfl)) rfl rfl rfl rfl (fun _ => e_add hk rfl rfl (i64 (by omega) (by omega)) _) fun a hk => ?_
  refine d0 36 hk rfl (chkN_ok (by as_aux_lemma => kernel_rfl)) rfl rfl rfl rfl (fun _ => e_sub hk rfl rfl (i64 (by omega) (by omega)) _) fun a hk => ?_
  refine d0 37 hk rfl (chkN_ok (by as_aux_lemma => kernel_rfl)) rfl rfl rfl rfl (fun _ => e_field (off := 2) hk rfl Tryd.underlying74 rfl rfl nz69 _) fun a hk => ?_
  refine d3 38 hk rfl (chkN_ok (by as_aux_lemma => kernel_rfl)) rfl rfl rfl rfl hS (fun w hS => r_load hk rfl Tryd.underlying69 rfl hS rfl) fun a hk => ?_
  refine d0 39 hk rfl (chkN_ok (by as_aux_lemma => kernel_rfl)) rfl rfl rfl rfl (fun _ => e_buildS (cells := #[I (pn), I (pf + v - 2), .slice adp Pn.length cp]) (pl := #[(0, 1), (1, 1), (2, 1)]) hk rfl zr74 Tryd.underlying74 (fun w => by kernel_rfl) rfl _) fun a hk => ?_
  refine d0 40 hk rfl (chkN_ok (by as_aux_lemma => kernel_rfl)) rfl rfl rfl rfl (fun _ => e_move hk rfl _) fun a hk => ?_
  refine d0 41 hk rfl (chkN_ok (by as_aux_lemma => kernel_rfl)) rfl rfl rfl rfl (fun _ => e_move hk rfl _) fun a hk => ?_
  refine d0 42 hk rfl (chkN_ok (by as_aux_lemma => kernel_rfl)) rfl rfl rfl rfl (fun _ => e_field (off := 2) hk rfl Tryd.underlying74 rfl rfl nz69 _) fun a hk => ?_
  refine d3 43 hk rfl (chkN_ok (by as_aux_lemma => kernel_rfl)) rfl rfl rfl rfl hS (fun w hS => r_load hk rfl Tryd.underlying69 rfl hS rfl) fun a hk => ?_
  refine d0 44 hk rfl (chkN_ok (by as_aux_lemma => kernel_rfl)) rfl rfl rfl rfl (fun _ => e_buildS (cells := #[I (by₀), I (at₀), .slice adp Pn.length cp]) (pl := #[(0, 1), (1, 1), (2, 1)]) hk rfl zr74 Tryd.underlying74 (fun w => by kernel_rfl) rfl _) fun a hk => ?_
  refine d0 45 hk rfl (chkN_ok (by as_aux_lemma => kernel_rfl)) rfl rfl rfl rfl (fun _ => e_move hk rfl _) fun a hk => ?_
  refine d0 46 hk rfl (chkN_ok (by as_aux_lemma => kernel_rfl)) rfl rfl rfl rfl (fun _ => e_move hk rfl _) fun a hk => ?_
  refine d0 47 hk rfl (chkN_ok (by as_aux_lemma => kernel_rfl)) rfl rfl rfl rfl (fun _ => e_buildS (cells := #[I (1073741824), I (at₀), .slice ad1 s1.length c1]) (pl := #[(0, 1), (1, 1), (2, 1)]) hk rfl zr74 Tryd.underlying74 (fun w => by kernel_rfl) rfl _) fun a hk => ?_
  refine d0 48 hk rfl (chkN_ok (by as_aux_lemma => kernel_rfl)) rfl rfl rfl rfl (fun _ => e_move hk rfl _) fun a hk => ?_
  refine d0 49 hk rfl (chkN_ok (by as_aux_lemma => kernel_rfl)) rfl rfl rfl rfl (fun _ => e_buildS (cells := #[I (1073741825), I (0), .slice ad1 s1.length c1]) (pl := #[(0, 1), (1, 1), (2, 1)]) hk rfl zr74 Tryd.underlying74 (fun w => by kernel_rfl) rfl _) fun a hk => ?_
  refine d0 50 hk rfl (chkN_ok (by as_aux_lemma => kernel_rfl)) rfl rfl rfl rfl (fun _ => e_buildS (cells := #[I (0), I (0), .slice none 0 0]) (pl := #[(0, 1), (1, 1), (2, 1)]) hk rfl zr74 Tryd.underlying74 (fun w => by kernel_rfl) rfl _) fun a hk => ?_
  refine da 51 hk rfl (chkN_ok (by as_aux_lemma => kernel_rfl)) rfl rfl (a_lit (cells := ((pc [(pn, pf, .slice adp Pn.length cp), (pn, pf, .slice ad1 s1.length c1), (pn, pf, .slice ad3 s3.length c3), (pn + u - 2, pf, .slice adp Pn.length cp), (pn, pf + v - 2, .slice adp Pn.length cp), (by₀, at₀, .slice adp Pn.length cp), (1073741824, at₀, .slice ad1 s1.length c1), (1073741825, 0, .slice ad1 s1.length c1), (0, 0, .slice none 0 0)]).toArray)) (zv := .agg #[I 0, I 0, .slice none 0 0]) (sz := 3) (by_ := 40) hk rfl rfl Tryd.underlying82 el74 (by decide) (by decide) (by have h := lit_all 3 [.agg #[I (pn), I (pf), .slice adp Pn.length cp], .agg #[I (pn), I (pf), .slice ad1 s1.length c1], .agg #[I (pn), I (pf), .slice ad3 s3.length c3], .agg #[I (pn + u - 2), I (pf), .slice adp Pn.length cp], .agg #[I (pn), I (pf + v - 2), .slice adp Pn.length cp], .agg #[I (by₀), I (at₀), .slice adp Pn.length cp], .agg #[I (1073741824), I (at₀), .slice ad1 s1.length c1], .agg #[I (1073741825), I (0), .slice ad1 s1.length c1], .agg #[I (0), I (0), .slice none 0 0]] (by simp [Value.cells]) 9 rfl (.agg #[I 0, I 0, .slice none 0 0]); exact h.trans (congrArg some (by simp [Value.cells, pc]))) (by simp [pc]) fun a w bp hk G => ?_)
  have hS := ext_at G.ext hS
  have k_hRx_bp := rd_keep hRx G
  have k_hRp_bp := rdg_keep hRp G
  have n_b16_bp : b16 ≠ bp := G.ne h_b16
  have k_hRw_bp := rd_keep hRw G
  have n_b19_bp : b19 ≠ bp := G.ne h_b19
  have k_hRb_bp := rdg_keep hRb G
  have k_hRc_bp := rdg_keep hRc G
  have hg_bp : w0.heap.size ≤ bp := Nat.le_trans hB.size G.ge
  have hRx := hRx.ext G.ext
  have hlt := blk_ext hlt G.ext
  have hRp := hRp.ext G.ext
  have hlp := blk_ext hlp G.ext
  have h_b16 := ext_at G.ext h_b16
  have hRw := hRw.ext G.ext
  have hlw := blk_ext hlw G.ext
  have h_b19 := ext_at G.ext h_b19
  have hRb := hRb.ext G.ext
  have hlb := blk_ext hlb G.ext
  have hRc := hRc.ext G.ext
  have hlc := blk_ext hlc G.ext
  have hB := ext_trans hB G.ext
  have h_bp := G.at_
  clear G
  refine d0 52 hk rfl (chkN_ok (by as_aux_lemma => kernel_rfl)) rfl rfl rfl rfl (fun _ => e_assign hk rfl _) fun a hk => ?_
  refine okFin (by as_aux_lemma => kernel_rfl) (hK9 _ _ ?_)
  refine wp_seq_k fun K10 hK10 => ?_
  obtain ⟨PS, hPS⟩ : ∃ PS : List (Int × Int × Value), PS = [(pn, pf, .slice adp Pn.length cp), (pn, pf, .slice ad1 s1.length c1), (pn, pf, .slice ad3 s3.length c3), (pn + u - 2, pf, .slice adp Pn.length cp), (pn, pf + v - 2, .slice adp Pn.length cp), (by₀, at₀, .slice adp Pn.length cp), (1073741824, at₀, .slice ad1 s1.length c1), (1073741825, 0, .slice ad1 s1.length c1), (0, 0, .slice none 0 0)] := ⟨_, rfl⟩
  rw [← hPS] at h_bp
  have hZ0 := hRx
  refine wp_region_lit ?_
  refine ls hk rfl rfl rfl (e_move hk rfl _) fun a hk => ?_
  refine la hk rfl (a_lit0 (sz := 1) (by_ := 16) hk rfl Tryd.underlying27 el9 fun a w1 bq hk GL => ?_)
  have hown : w1.ownsRow w.heap.size 9 1 (.slice (some ⟨bq, 0, none⟩) 0 0) 0 [] := lit_own (n := 0) (sz := 1) GL rfl (by decide)
  have hEq : Ext w w1 := GL.ext
  clear GL
  refine ls hk rfl rfl rfl (e_move hk rfl _) fun a hk => ?_
  refine la hk rfl (a_app (news := ow.map Str) (by_ := 16) hk rfl rfl hown rfl (Rd.ext hRw hEq) (ones_str ow) Tryd.underlying27 el9 rfl (by decide) (by omega) (by omega) hEq.size fun a w2 v4 hk hown2 hKp => ?_)
  have hEq : Ext w w2 := kept_below hKp hEq hown (Nat.le_refl _) hEq.size
  clear hown hKp
  rw [List.nil_append, Nat.zero_add] at hown2
  refine la hk rfl (a_lit (cells := #[Str [109, 111, 114, 101]]) (zv := .string ByteArray.empty) (sz := 1) (by_ := 16) hk rfl rfl Tryd.underlying27 el9 (by decide) (by decide) (lit1s _ rfl _) rfl fun a w3 bm hk GL => ?_)
  have hown := own_ext hown2 GL.ext
  have hEq := ext_trans hEq GL.ext
  have hRm1 := rs_lit1 GL.at_
  clear GL hown2
  refine la hk rfl (a_app (news := [([109, 111, 114, 101] : List UInt8)].map Str) (by_ := 16) hk rfl rfl hown rfl hRm1 (ones_str _) Tryd.underlying27 el9 rfl (by decide) (by omega) (by omega) hEq.size fun a w v5 hk hown2 hKp => ?_)
  have hE := kept_below hKp hEq hown (Nat.le_refl _) hEq.size
  clear hown hKp hEq hRm1
  have hRx := Rd.ext hRx hE
  have hlt := blk_ext hlt hE
  have hRp := hRp.ext hE
  have hlp := blk_ext hlp hE
  have h_b16 := ext_at hE h_b16
  have hRw := Rd.ext hRw hE
  have hlw := blk_ext hlw hE
  have h_b19 := ext_at hE h_b19
  have hRb := hRb.ext hE
  have hlb := blk_ext hlb hE
  have hRc := hRc.ext hE
  have hlc := blk_ext hlc hE
  have h_bp := ext_at hE h_bp
  have hB := ext_trans hB hE
  obtain ⟨adm, cm, rfl, hcm, hRm⟩ := Rd.of_own hown2
  have hlm : ∀ b o, adm = some ⟨b, o, none⟩ → b < w.heap.size := fun b o e => by subst e; exact (hown2.lt b rfl).2
  obtain ⟨ox, hox, hoxl⟩ : ∃ ox : List (List UInt8), ox = ow ++ [[109, 111, 114, 101]] ∧ ox.length = ow.length + 1 := ⟨_, rfl, by simp⟩
  have hRm : Rs w adm ox.length cm ox := by rw [hoxl, hox]; unfold Rs; rw [List.map_append]; exact hRm
  have hk := hk.lift 127 (v := .slice adm ox.length cm) (by rw [hoxl]; rfl)
  have hLm : Lv ox := ⟨by omega, fun x hx => by
    rw [hox] at hx
    rcases List.mem_append.1 hx with hx | hx
    · exact hLw.2 x hx
    · rw [List.mem_singleton] at hx; subst hx; simp⟩
  clear hown2 hox hE
  refine la hk rfl (a_lit (cells := #[Str ([111, 110, 101])]) (zv := .string ByteArray.empty) (sz := 1) (by_ := 16) hk rfl rfl Tryd.underlying27 el9 (by decide) (by decide) (lit1s _ rfl _) rfl fun a w b1 hk G => ?_)
  have k_hRx_b1 := rd_keep hRx G
  have k_hRp_b1 := rdg_keep hRp G
  have n_b16_b1 : b16 ≠ b1 := G.ne h_b16
  have k_hRw_b1 := rd_keep hRw G
  have n_b19_b1 : b19 ≠ b1 := G.ne h_b19
  have k_hRb_b1 := rdg_keep hRb G
  have k_hRc_b1 := rdg_keep hRc G
  have n_bp_b1 : bp ≠ b1 := G.ne h_bp
  have k_hRm_b1 := rd_keep hRm G
  have hg_b1 : w0.heap.size ≤ b1 := Nat.le_trans hB.size G.ge
  have hRx := hRx.ext G.ext
  have hlt := blk_ext hlt G.ext
  have hRp := hRp.ext G.ext
  have hlp := blk_ext hlp G.ext
  have h_b16 := ext_at G.ext h_b16
  have hRw := hRw.ext G.ext
  have hlw := blk_ext hlw G.ext
  have h_b19 := ext_at G.ext h_b19
  have hRb := hRb.ext G.ext
  have hlb := blk_ext hlb G.ext
  have hRc := hRc.ext G.ext
  have hlc := blk_ext hlc G.ext
  have h_bp := ext_at G.ext h_bp
  have hRm := hRm.ext G.ext
  have hlm := blk_ext hlm G.ext
  have hB := ext_trans hB G.ext
  have h_b1 := G.at_
  clear G
  refine la hk rfl (a_lit (cells := ([.slice adw ow.length (c2 - lo), .slice adm ox.length cm, .slice none 0 0, .slice (some ⟨b1, 0, none⟩) 1 1].toArray)) (zv := .slice none 0 0) (sz := 1) (by_ := 24) hk rfl rfl Tryd.underlying64 el27 (by decide) (by decide) (by have h := lit_all 1 [.slice adw ow.length (c2 - lo), .slice adm ox.length cm, .slice none 0 0, .slice (some ⟨b1, 0, none⟩) 1 1] (by simp [Value.cells]) 4 rfl (.slice none 0 0); exact h.trans (congrArg some (by simp [Value.cells]))) (by simp) fun a w bL hk G => ?_)
  have k_hRx_bL := rd_keep hRx G
  have k_hRp_bL := rdg_keep hRp G
  have n_b16_bL : b16 ≠ bL := G.ne h_b16
  have k_hRw_bL := rd_keep hRw G
  have n_b19_bL : b19 ≠ bL := G.ne h_b19
  have k_hRb_bL := rdg_keep hRb G
  have k_hRc_bL := rdg_keep hRc G
  have n_bp_bL : bp ≠ bL := G.ne h_bp
  have k_hRm_bL := rd_keep hRm G
  have n_b1_bL : b1 ≠ bL := G.ne h_b1
  have hg_bL : w0.heap.size ≤ bL := Nat.le_trans hB.size G.ge
  have hRx := hRx.ext G.ext
  have hlt := blk_ext hlt G.ext
  have hRp := hRp.ext G.ext
  have hlp := blk_ext hlp G.ext
  have h_b16 := ext_at G.ext h_b16
  have hRw := hRw.ext G.ext
  have hlw := blk_ext hlw G.ext
  have h_b19 := ext_at G.ext h_b19
  have hRb := hRb.ext G.ext
  have hlb := blk_ext hlb G.ext
  have hRc := hRc.ext G.ext
  have hlc := blk_ext hlc G.ext
  have h_bp := ext_at G.ext h_bp
  have hRm := hRm.ext G.ext
  have hlm := blk_ext hlm G.ext
  have h_b1 := ext_at G.ext h_b1
  have hB := ext_trans hB G.ext
  have h_bL := G.at_
  clear G
  refine ls hk rfl rfl rfl (e_assign hk rfl _) fun a hk => ?_
  refine lnil (hK10 _ _ ?_)
  refine wp_seq_k fun K11 hK11 => ?_
  refine wp_region_ok (fun w => w.heap[b19]? = some (.cells ((rootS xs).map B).toArray 44 (0, 0))) [3, 0, 4, 2, 0] mixed ?_
  have hB := hB.drew
  have hRx := hRx.ext (ext_drew w)
  have hlt := blk_ext hlt (ext_drew w)
  have hRp := hRp.ext (ext_drew w)
  have hlp := blk_ext hlp (ext_drew w)
  have h_b16 := ext_at (ext_drew w) h_b16
  have hRw := hRw.ext (ext_drew w)
  have hlw := blk_ext hlw (ext_drew w)
  have h_b19 := ext_at (ext_drew w) h_b19
  have hRb := hRb.ext (ext_drew w)
  have hlb := blk_ext hlb (ext_drew w)
  have hRc := hRc.ext (ext_drew w)
  have hlc := blk_ext hlc (ext_drew w)
  have h_bp := ext_at (ext_drew w) h_bp
  have hRm := hRm.ext (ext_drew w)
  have hlm := blk_ext hlm (ext_drew w)
  have h_b1 := ext_at (ext_drew w) h_b1
  have h_bL := ext_at (ext_drew w) h_bL
  have hS : (fun w => w.heap[b19]? = some (.cells ((rootS xs).map B).toArray 44 (0, 0))) w.drew := h_b19
  refine d3 0 hk rfl (chkN_ok (by as_aux_lemma => kernel_rfl)) rfl rfl rfl rfl hS (fun w hS => r_ld44 hk rfl hS (by simp)) fun a hk => ?_
  refine d0 1 hk rfl (chkN_ok (by as_aux_lemma => kernel_rfl)) rfl rfl rfl rfl (fun _ => e_move hk rfl _) fun a hk => ?_
  refine da4 2 hk rfl (chkN_ok (by as_aux_lemma => kernel_rfl)) rfl rfl hS (a_call hk rfl rfl (c_fn hk rfl ok47) (c47 _ ow adw (c2 - lo) _ rfl hLw hRw (hGR.ext hB)) ?_)
  rintro e w ⟨rfl, hE⟩
  refine ⟨_, rfl, fun a hk => ⟨ext_at hE hS, ?_⟩⟩
  have hS := ext_at hE hS
  have hRx := hRx.ext hE
  have hlt := blk_ext hlt hE
  have hRp := hRp.ext hE
  have hlp := blk_ext hlp hE
  have h_b16 := ext_at hE h_b16
  have hRw := hRw.ext hE
  have hlw := blk_ext hlw hE
  have h_b19 := ext_at hE h_b19
  have hRb := hRb.ext hE
  have hlb := blk_ext hlb hE
  have hRc := hRc.ext hE
  have hlc := blk_ext hlc hE
  have h_bp := ext_at hE h_bp
  have hRm := hRm.ext hE
  have hlm := blk_ext hlm hE
  have h_b1 := ext_at hE h_b1
  have h_bL := ext_at hE h_bL
  have hB := ext_trans hB hE
  clear hE
  refine da 3 hk rfl (chkN_ok (by as_aux_lemma => kernel_rfl)) rfl rfl (a_lit (cells := ((digs16 [rootS xs, rootS ow]).toArray)) (zv := .agg (List.replicate 16 (Value.int .u8 0)).toArray) (sz := 16) (by_ := 16) hk rfl rfl Tryd.underlying69 el44 (by decide) (by decide) (by have h := lit_all 16 [D (rootS xs), D (rootS ow)] (by simp [Value.cells]) 2 rfl (.agg (List.replicate 16 (Value.int .u8 0)).toArray); exact h.trans (congrArg some (by simp [Value.cells, digs16]))) (by simp [digs16]) fun a w bo hk G => ?_)
  have hS := ext_at G.ext hS
  have k_hRx_bo := rd_keep hRx G
  have k_hRp_bo := rdg_keep hRp G
  have n_b16_bo : b16 ≠ bo := G.ne h_b16
  have k_hRw_bo := rd_keep hRw G
  have n_b19_bo : b19 ≠ bo := G.ne h_b19
  have k_hRb_bo := rdg_keep hRb G
  have k_hRc_bo := rdg_keep hRc G
  have n_bp_bo : bp ≠ bo := G.ne h_bp
  have k_hRm_bo := rd_keep hRm G
  have n_b1_bo : b1 ≠ bo := G.ne h_b1
  have n_bL_bo : bL ≠ bo := G.ne h_bL
  have hg_bo : w0.heap.size ≤ bo := Nat.le_trans hB.size G.ge
  have hRx := hRx.ext G.ext
  have hlt := blk_ext hlt G.ext
  have hRp := hRp.ext G.ext
  have hlp := blk_ext hlp G.ext
  have h_b16 := ext_at G.ext h_b16
  have hRw := hRw.ext G.ext
  have hlw := blk_ext hlw G.ext
  have h_b19 := ext_at G.ext h_b19
  have hRb := hRb.ext G.ext
  have hlb := blk_ext hlb G.ext
  have hRc := hRc.ext G.ext
  have hlc := blk_ext hlc G.ext
  have h_bp := ext_at G.ext h_bp
  have hRm := hRm.ext G.ext
  have hlm := blk_ext hlm G.ext
  have h_b1 := ext_at G.ext h_b1
  have h_bL := ext_at G.ext h_bL
  have hB := ext_trans hB G.ext
  have h_bo := G.at_
  clear G
  refine d0 4 hk rfl (chkN_ok (by as_aux_lemma => kernel_rfl)) rfl rfl rfl rfl (fun _ => e_assign hk rfl _) fun a hk => ?_
  refine okFin (by as_aux_lemma => kernel_rfl) (hK11 _ _ ?_)
  refine wp_seq_k fun K12 hK12 => ?_
  refine wp_seq_k fun K13 hK13 => ?_
  have hRo : Rdg w (some ⟨bo, 0, none⟩) 2 2 [rootS xs, rootS ow] := rdg_lits h_bo (by simp) (by simp [digs16])
  obtain ⟨DS, hDS⟩ : ∃ DS, DS = [rootS xs, rootS ow] := ⟨_, rfl⟩
  have hD16 : ∀ q, q < 2 → (DS.getD q []).length = 16 := by
    intro q hq
    subst hDS
    match q, hq with
    | 0, _ => exact (show (rootS _).length = 16 by simp)
    | 1, _ => exact (show (rootS _).length = 16 by simp)
  rw [← hDS] at hRo
  clear hDS
  refine wp_region_lit ?_
  refine ls hk rfl rfl rfl (e_assign hk rfl _) fun a hk => ?_
  refine lnil (hK13 _ _ ?_)
  refine wp_block ?_
  refine loopN (fun n a w => ∃ i : Nat, n = 9 - i ∧ i ≤ 9 ∧ Kn a 191 [(21, .slice (some ⟨bp, 0, none⟩) 9 9), (22, .slice (some ⟨bL, 0, none⟩) 4 4), (23, .slice (some ⟨bo, 0, none⟩) 2 2), (24, I i)] ∧ (Ext w0 w) ∧ (Rdg w adp Pn.length cp Pn) ∧ (∀ b o, adp = some ⟨b, o, none⟩ → b < w.heap.size) ∧ (Rdg w ad1 s1.length c1 s1) ∧ (∀ b o, ad1 = some ⟨b, o, none⟩ → b < w.heap.size) ∧ (Rdg w ad3 s3.length c3 s3) ∧ (∀ b o, ad3 = some ⟨b, o, none⟩ → b < w.heap.size) ∧ (Rs w adw ow.length (c2 - lo) ow) ∧ (∀ b o, adw = some ⟨b, o, none⟩ → b < w.heap.size) ∧ (Rs w adm ox.length cm ox) ∧ (∀ b o, adm = some ⟨b, o, none⟩ → b < w.heap.size) ∧ (w.heap[b1]? = some (.cells #[Str [111, 110, 101]] 9 (0, 0))) ∧ (Rdg w (some ⟨bo, 0, none⟩) 2 2 DS) ∧ (w.heap[bp]? = some (.cells (pc PS).toArray 74 (0, 0))) ∧ (w.heap[bL]? = some (.cells [.slice adw ow.length (c2 - lo), .slice adm ox.length cm, .slice none 0 0, .slice (some ⟨b1, 0, none⟩) 1 1].toArray 27 (0, 0)))) (9 - 0) ?_ fun n a w hI => ?_
  · exact ⟨0, rfl, by omega, hk.sub _ ⟨rfl, rfl, rfl, rfl, trivial⟩, hB, hRp, hlp, hRb, hlb, hRc, hlc, hRw, hlw, hRm, hlm, h_b1, hRo, h_bp, h_bL⟩
  clear hk hB hRp hlp hRb hlb hRc hlc hRw hlw hRm hlm h_b1 h_bp h_bL hRx hlt h_bo h_b16 h_b19 hZ0
  obtain ⟨i, rfl, hi_le, hk, hB, hRp, hlp, hRb, hlb, hRc, hlc, hRw, hlw, hRm, hlm, h_b1, hRo, h_bp, h_bL⟩ := hI
  refine wp_seq_k fun K14 hK14 => ?_
  refine wp_seq_k fun K15 hK15 => ?_
  refine wp_region_lit ?_
  refine ls hk rfl rfl rfl (e_move hk rfl _) fun a hk => ?_
  refine ls hk rfl rfl rfl (e_move hk rfl _) fun a hk => ?_
  refine ls hk rfl rfl rfl (e_lenS hk rfl Tryd.underlying82 _) fun a hk => ?_
  refine ls hk rfl rfl rfl (e_lss hk rfl rfl rfl _) fun a hk => ?_
  refine lnil (hK15 _ _ ?_)
  refine cdB hk rfl (fun hb => ?_) (fun hb => ?_)
  · have hi9 : i < 9 := by have := of_decide_eq_true hb; omega
    refine wp_skip (hK14 _ _ ?_)
    refine wp_seq_k fun K16 hK16 => ?_
    refine wp_block ?_
    refine wp_seq_k fun K17 hK17 => ?_
    obtain ⟨N, F, li, adi, ci, hci, hN, hF, hRi, hli, hln⟩ : ∃ (N F : Int) (li : List (List UInt8)) (adi : Option Addr) (ci : Nat), PS[i]? = some (N, F, Value.slice adi li.length ci) ∧ is64 N ∧ is64 F ∧ Rdg w adi li.length ci li ∧ (∀ b o, adi = some ⟨b, o, none⟩ → b < w.heap.size) ∧ li.length ≤ 100 := by
      obtain ⟨ha1, ha2⟩ := ha64
      obtain ⟨hb1, hb2⟩ := hb64
      match i, hi9 with
      | 0, _ => exact ⟨_, _, Pn, adp, cp, by rw [hPS]; rfl, ⟨by omega, by omega⟩, ⟨by omega, by omega⟩, hRp, hlp, by omega⟩
      | 1, _ => exact ⟨_, _, s1, ad1, c1, by rw [hPS]; rfl, ⟨by omega, by omega⟩, ⟨by omega, by omega⟩, hRb, hlb, by omega⟩
      | 2, _ => exact ⟨_, _, s3, ad3, c3, by rw [hPS]; rfl, ⟨by omega, by omega⟩, ⟨by omega, by omega⟩, hRc, hlc, by omega⟩
      | 3, _ => exact ⟨_, _, Pn, adp, cp, by rw [hPS]; rfl, ⟨by omega, by omega⟩, ⟨by omega, by omega⟩, hRp, hlp, by omega⟩
      | 4, _ => exact ⟨_, _, Pn, adp, cp, by rw [hPS]; rfl, ⟨by omega, by omega⟩, ⟨by omega, by omega⟩, hRp, hlp, by omega⟩
      | 5, _ => exact ⟨_, _, Pn, adp, cp, by rw [hPS]; rfl, ⟨by omega, by omega⟩, ⟨by omega, by omega⟩, hRp, hlp, by omega⟩
      | 6, _ => exact ⟨_, _, s1, ad1, c1, by rw [hPS]; rfl, ⟨by omega, by omega⟩, ⟨by omega, by omega⟩, hRb, hlb, by omega⟩
      | 7, _ => exact ⟨_, _, s1, ad1, c1, by rw [hPS]; rfl, ⟨by omega, by omega⟩, ⟨by omega, by omega⟩, hRb, hlb, by omega⟩
      | 8, _ => exact ⟨_, _, [], none, 0, by rw [hPS]; rfl, ⟨by omega, by omega⟩, ⟨by omega, by omega⟩, rdg_nil, by simp, by simp⟩
    refine wp_region_ok (fun w => w.heap[bp]? = some (.cells (pc PS).toArray 74 (0, 0))) [0, 0, 0, 0, 3, 0, 0, 0, 0, 3, 0, 0, 0, 0, 3, 0, 4, 2] mixed ?_
    have hB := hB.drew
    have hRp := hRp.ext (ext_drew w)
    have hlp := blk_ext hlp (ext_drew w)
    have hRb := hRb.ext (ext_drew w)
    have hlb := blk_ext hlb (ext_drew w)
    have hRc := hRc.ext (ext_drew w)
    have hlc := blk_ext hlc (ext_drew w)
    have hRw := hRw.ext (ext_drew w)
    have hlw := blk_ext hlw (ext_drew w)
    have hRm := hRm.ext (ext_drew w)
    have hlm := blk_ext hlm (ext_drew w)
    have h_b1 := ext_at (ext_drew w) h_b1
    have hRo := hRo.ext (ext_drew w)
    have h_bp := ext_at (ext_drew w) h_bp
    have h_bL := ext_at (ext_drew w) h_bL
    have hRi := hRi.ext (ext_drew w)
    have hli := blk_ext hli (ext_drew w)
    have hS : (fun w => w.heap[bp]? = some (.cells (pc PS).toArray 74 (0, 0))) w.drew := h_bp
    refine d0 0 hk rfl (chkN_ok (by as_aux_lemma => kernel_rfl)) rfl rfl rfl rfl (fun _ => e_move hk rfl _) fun a hk => ?_
    refine d0 1 hk rfl (chkN_ok (by as_aux_lemma => kernel_rfl)) rfl rfl rfl rfl (fun _ => e_move hk rfl _) fun a hk => ?_
    refine d0 2 hk rfl (chkN_ok (by as_aux_lemma => kernel_rfl)) rfl rfl rfl rfl (fun _ => e_idxSn i hk rfl rfl Tryd.underlying82 sz74 rfl hi9 _) fun a hk => ?_
    refine d0 3 hk rfl (chkN_ok (by as_aux_lemma => kernel_rfl)) rfl rfl rfl rfl (fun _ => e_field (off := 0) hk rfl Tryd.underlying74 rfl rfl nz3 _) fun a hk => ?_
    refine d3 4 hk rfl (chkN_ok (by as_aux_lemma => kernel_rfl)) rfl rfl rfl rfl hS (fun w hS => r_load1 hk rfl Tryd.underlying3 rfl (pc_c0 hS i hci)) fun a hk => ?_
    refine d0 5 hk rfl (chkN_ok (by as_aux_lemma => kernel_rfl)) rfl rfl rfl rfl (fun _ => e_move hk rfl _) fun a hk => ?_
    refine d0 6 hk rfl (chkN_ok (by as_aux_lemma => kernel_rfl)) rfl rfl rfl rfl (fun _ => e_move hk rfl _) fun a hk => ?_
    refine d0 7 hk rfl (chkN_ok (by as_aux_lemma => kernel_rfl)) rfl rfl rfl rfl (fun _ => e_idxSn i hk rfl rfl Tryd.underlying82 sz74 rfl hi9 _) fun a hk => ?_
    refine d0 8 hk rfl (chkN_ok (by as_aux_lemma => kernel_rfl)) rfl rfl rfl rfl (fun _ => e_field (off := 1) hk rfl Tryd.underlying74 rfl rfl nz3 _) fun a hk => ?_
    refine d3 9 hk rfl (chkN_ok (by as_aux_lemma => kernel_rfl)) rfl rfl rfl rfl hS (fun w hS => r_load1 hk rfl Tryd.underlying3 rfl (pc_c1 hS i hci)) fun a hk => ?_
    refine d0 10 hk rfl (chkN_ok (by as_aux_lemma => kernel_rfl)) rfl rfl rfl rfl (fun _ => e_move hk rfl _) fun a hk => ?_
    refine d0 11 hk rfl (chkN_ok (by as_aux_lemma => kernel_rfl)) rfl rfl rfl rfl (fun _ => e_move hk rfl _) fun a hk => ?_
    refine d0 12 hk rfl (chkN_ok (by as_aux_lemma => kernel_rfl)) rfl rfl rfl rfl (fun _ => e_idxSn i hk rfl rfl Tryd.underlying82 sz74 rfl hi9 _) fun a hk => ?_
    refine d0 13 hk rfl (chkN_ok (by as_aux_lemma => kernel_rfl)) rfl rfl rfl rfl (fun _ => e_field (off := 2) hk rfl Tryd.underlying74 rfl rfl nz69 _) fun a hk => ?_
    refine d3 14 hk rfl (chkN_ok (by as_aux_lemma => kernel_rfl)) rfl rfl rfl rfl hS (fun w hS => r_load1 hk rfl Tryd.underlying69 rfl (pc_c2 hS i hci)) fun a hk => ?_
    refine d0 15 hk rfl (chkN_ok (by as_aux_lemma => kernel_rfl)) rfl rfl rfl rfl (fun _ => e_buildS (cells := #[I (N), I (F), .slice adi li.length ci]) (pl := #[(0, 1), (1, 1), (2, 1)]) hk rfl zr71 Tryd.underlying71 (fun w => by kernel_rfl) rfl _) fun a hk => ?_
    refine da4 16 hk rfl (chkN_ok (by as_aux_lemma => kernel_rfl)) rfl rfl hS (a_alloc hk rfl zr71 fun a w b25 hk G => ⟨ext_at G.ext hS, ?_⟩)
    have hS := ext_at G.ext hS
    have k_hRp_b25 := rdg_keep hRp G
    have k_hRb_b25 := rdg_keep hRb G
    have k_hRc_b25 := rdg_keep hRc G
    have k_hRw_b25 := rd_keep hRw G
    have k_hRm_b25 := rd_keep hRm G
    have n_b1_b25 : b1 ≠ b25 := G.ne h_b1
    have k_hRo_b25 := rdg_keep hRo G
    have n_bp_b25 : bp ≠ b25 := G.ne h_bp
    have n_bL_b25 : bL ≠ b25 := G.ne h_bL
    have k_hRi_b25 := rdg_keep hRi G
    have hg_b25 : w0.heap.size ≤ b25 := Nat.le_trans hB.size G.ge
    have hRp := hRp.ext G.ext
    have hlp := blk_ext hlp G.ext
    have hRb := hRb.ext G.ext
    have hlb := blk_ext hlb G.ext
    have hRc := hRc.ext G.ext
    have hlc := blk_ext hlc G.ext
    have hRw := hRw.ext G.ext
    have hlw := blk_ext hlw G.ext
    have hRm := hRm.ext G.ext
    have hlm := blk_ext hlm G.ext
    have h_b1 := ext_at G.ext h_b1
    have hRo := hRo.ext G.ext
    have h_bp := ext_at G.ext h_bp
    have h_bL := ext_at G.ext h_bL
    have hRi := hRi.ext G.ext
    have hli := blk_ext hli G.ext
    have hB := ext_trans hB G.ext
    have h_b25 := G.at_
    clear G
    refine da 17 hk rfl (chkN_ok (by as_aux_lemma => kernel_rfl)) rfl rfl (a_storeB (cs' := #[I N, I F, .slice adi li.length ci]) hk rfl rfl (by simp [Value.oneCell']) sz71 h_b25 rfl fun a w hk W => ?_)
    have hRp := k_hRp_b25 _ _ _ hRp W
    have hlp := blk_wrote hlp W
    have hRb := k_hRb_b25 _ _ _ hRb W
    have hlb := blk_wrote hlb W
    have hRc := k_hRc_b25 _ _ _ hRc W
    have hlc := blk_wrote hlc W
    have hRw := k_hRw_b25 _ _ _ hRw W
    have hlw := blk_wrote hlw W
    have hRm := k_hRm_b25 _ _ _ hRm W
    have hlm := blk_wrote hlm W
    have h_b1 := W.keep n_b1_b25 h_b1
    have hRo := k_hRo_b25 _ _ _ hRo W
    have h_bp := W.keep n_bp_b25 h_bp
    have h_bL := W.keep n_bL_b25 h_bL
    have hRi := k_hRi_b25 _ _ _ hRi W
    have hli := blk_wrote hli W
    have hB := W.below hB hg_b25
    have h_b25 := W.at_
    clear W
    refine okFin (by as_aux_lemma => kernel_rfl) (hK17 _ _ ?_)
    refine wp_seq_k fun K18 hK18 => ?_
    refine wp_region_lit ?_
    refine ls hk rfl rfl rfl (e_assign hk rfl _) fun a hk => ?_
    refine lnil (hK18 _ _ ?_)
    refine wp_block ?_
    refine loopN (fun n a w => ∃ k : Nat, n = 4 - k ∧ k ≤ 4 ∧ Kn a 191 [(21, .slice (some ⟨bp, 0, none⟩) 9 9), (22, .slice (some ⟨bL, 0, none⟩) 4 4), (23, .slice (some ⟨bo, 0, none⟩) 2 2), (24, I i), (25, .pointer (some ⟨b25, 0, none⟩)), (26, I k)] ∧ (Ext w0 w) ∧ (Rdg w adp Pn.length cp Pn) ∧ (∀ b o, adp = some ⟨b, o, none⟩ → b < w.heap.size) ∧ (Rdg w ad1 s1.length c1 s1) ∧ (∀ b o, ad1 = some ⟨b, o, none⟩ → b < w.heap.size) ∧ (Rdg w ad3 s3.length c3 s3) ∧ (∀ b o, ad3 = some ⟨b, o, none⟩ → b < w.heap.size) ∧ (Rs w adw ow.length (c2 - lo) ow) ∧ (∀ b o, adw = some ⟨b, o, none⟩ → b < w.heap.size) ∧ (Rs w adm ox.length cm ox) ∧ (∀ b o, adm = some ⟨b, o, none⟩ → b < w.heap.size) ∧ (w.heap[b1]? = some (.cells #[Str [111, 110, 101]] 9 (0, 0))) ∧ (Rdg w (some ⟨bo, 0, none⟩) 2 2 DS) ∧ (w.heap[bp]? = some (.cells (pc PS).toArray 74 (0, 0))) ∧ (w.heap[bL]? = some (.cells [.slice adw ow.length (c2 - lo), .slice adm ox.length cm, .slice none 0 0, .slice (some ⟨b1, 0, none⟩) 1 1].toArray 27 (0, 0))) ∧ (Rdg w adi li.length ci li) ∧ (∀ b o, adi = some ⟨b, o, none⟩ → b < w.heap.size) ∧ (w.heap[b25]? = some (.cells #[I N, I F, .slice adi li.length ci] 71 (0, 0)))) (4 - 0) ?_ fun n a w hI => ?_
    · exact ⟨0, rfl, by omega, hk.sub _ ⟨rfl, rfl, rfl, rfl, rfl, rfl, trivial⟩, hB, hRp, hlp, hRb, hlb, hRc, hlc, hRw, hlw, hRm, hlm, h_b1, hRo, h_bp, h_bL, hRi, hli, h_b25⟩
    clear hk hB hRp hlp hRb hlb hRc hlc hRw hlw hRm hlm h_b1 hRo h_bp h_bL hRi hli h_b25
    obtain ⟨k, rfl, hi_le, hk, hB, hRp, hlp, hRb, hlb, hRc, hlc, hRw, hlw, hRm, hlm, h_b1, hRo, h_bp, h_bL, hRi, hli, h_b25⟩ := hI
    refine wp_seq_k fun K19 hK19 => ?_
    refine wp_seq_k fun K20 hK20 => ?_
    refine wp_region_lit ?_
    refine ls hk rfl rfl rfl (e_move hk rfl _) fun a hk => ?_
    refine ls hk rfl rfl rfl (e_move hk rfl _) fun a hk => ?_
    refine ls hk rfl rfl rfl (e_lenS hk rfl Tryd.underlying64 _) fun a hk => ?_
    refine ls hk rfl rfl rfl (e_lss hk rfl rfl rfl _) fun a hk => ?_
    refine lnil (hK20 _ _ ?_)
    refine cdB hk rfl (fun hb => ?_) (fun hb => ?_)
    · have hk4 : k < 4 := by have := of_decide_eq_true hb; omega
      refine wp_skip (hK19 _ _ ?_)
      refine wp_seq_k fun K21 hK21 => ?_
      refine wp_block ?_
      refine wp_seq_k fun K22 hK22 => ?_
      obtain ⟨xk, adk, ck, hck, hRk, hlk, hLk⟩ : ∃ (xk : List (List UInt8)) (adk : Option Addr) (ck : Nat), [.slice adw ow.length (c2 - lo), .slice adm ox.length cm, .slice none 0 0, .slice (some ⟨b1, 0, none⟩) 1 1][k]? = some (Value.slice adk xk.length ck) ∧ Rs w adk xk.length ck xk ∧ (∀ b o, adk = some ⟨b, o, none⟩ → b < w.heap.size) ∧ Lv xk := by
        match k, hk4 with
        | 0, _ => exact ⟨ow, adw, c2 - lo, rfl, hRw, hlw, hLw⟩
        | 1, _ => exact ⟨ox, adm, cm, rfl, hRm, hlm, hLm⟩
        | 2, _ => exact ⟨[], none, 0, rfl, rd_none, by simp, by decide, by simp⟩
        | 3, _ => exact ⟨[[111, 110, 101]], some ⟨b1, 0, none⟩, 1, rfl, rs_lit1 h_b1, fun b o e => by cases e; exact heap_lt h_b1, by decide, by simp⟩
      refine wp_region_lit ?_
      refine ls hk rfl rfl rfl (e_assign hk rfl _) fun a hk => ?_
      refine lnil (hK22 _ _ ?_)
      refine wp_block ?_
      refine loopN (fun n a w => ∃ q : Nat, n = 2 - q ∧ q ≤ 2 ∧ Kn a 191 [(21, .slice (some ⟨bp, 0, none⟩) 9 9), (22, .slice (some ⟨bL, 0, none⟩) 4 4), (23, .slice (some ⟨bo, 0, none⟩) 2 2), (24, I i), (25, .pointer (some ⟨b25, 0, none⟩)), (26, I k), (27, I q)] ∧ (Ext w0 w) ∧ (Rdg w adp Pn.length cp Pn) ∧ (∀ b o, adp = some ⟨b, o, none⟩ → b < w.heap.size) ∧ (Rdg w ad1 s1.length c1 s1) ∧ (∀ b o, ad1 = some ⟨b, o, none⟩ → b < w.heap.size) ∧ (Rdg w ad3 s3.length c3 s3) ∧ (∀ b o, ad3 = some ⟨b, o, none⟩ → b < w.heap.size) ∧ (Rs w adw ow.length (c2 - lo) ow) ∧ (∀ b o, adw = some ⟨b, o, none⟩ → b < w.heap.size) ∧ (Rs w adm ox.length cm ox) ∧ (∀ b o, adm = some ⟨b, o, none⟩ → b < w.heap.size) ∧ (w.heap[b1]? = some (.cells #[Str [111, 110, 101]] 9 (0, 0))) ∧ (Rdg w (some ⟨bo, 0, none⟩) 2 2 DS) ∧ (w.heap[bp]? = some (.cells (pc PS).toArray 74 (0, 0))) ∧ (w.heap[bL]? = some (.cells [.slice adw ow.length (c2 - lo), .slice adm ox.length cm, .slice none 0 0, .slice (some ⟨b1, 0, none⟩) 1 1].toArray 27 (0, 0))) ∧ (Rdg w adi li.length ci li) ∧ (∀ b o, adi = some ⟨b, o, none⟩ → b < w.heap.size) ∧ (w.heap[b25]? = some (.cells #[I N, I F, .slice adi li.length ci] 71 (0, 0))) ∧ (Rs w adk xk.length ck xk) ∧ (∀ b o, adk = some ⟨b, o, none⟩ → b < w.heap.size)) (2 - 0) ?_ fun n a w hI => ?_
      · exact ⟨0, rfl, by omega, hk.sub _ ⟨rfl, rfl, rfl, rfl, rfl, rfl, rfl, trivial⟩, hB, hRp, hlp, hRb, hlb, hRc, hlc, hRw, hlw, hRm, hlm, h_b1, hRo, h_bp, h_bL, hRi, hli, h_b25, hRk, hlk⟩
      clear hk hB hRp hlp hRb hlb hRc hlc hRw hlw hRm hlm h_b1 hRo h_bp h_bL hRi hli h_b25 hRk hlk
      obtain ⟨q, rfl, hi_le, hk, hB, hRp, hlp, hRb, hlb, hRc, hlc, hRw, hlw, hRm, hlm, h_b1, hRo, h_bp, h_bL, hRi, hli, h_b25, hRk, hlk⟩ := hI
      refine wp_seq_k fun K23 hK23 => ?_
      refine wp_seq_k fun K24 hK24 => ?_
      refine wp_region_lit ?_
      refine ls hk rfl rfl rfl (e_move hk rfl _) fun a hk => ?_
      refine ls hk rfl rfl rfl (e_lss hk rfl rfl rfl _) fun a hk => ?_
      refine lnil (hK24 _ _ ?_)
      refine cdB hk rfl (fun hb => ?_) (fun hb => ?_)
      · have hq2 : q < 2 := by have := of_decide_eq_true hb; omega
        refine wp_skip (hK23 _ _ ?_)
        refine wp_seq_k fun K25 hK25 => ?_
        refine wp_block ?_
        refine wp_seq_k fun K26 hK26 => ?_
        refine wp_region_ok (fun w => Rdg w (some ⟨bo, 0, none⟩) 2 2 DS ∧ w.heap[bp]? = some (.cells (pc PS).toArray 74 (0, 0)) ∧ w.heap[bL]? = some (.cells [.slice adw ow.length (c2 - lo), .slice adm ox.length cm, .slice none 0 0, .slice (some ⟨b1, 0, none⟩) 1 1].toArray 27 (0, 0))) [0, 0, 0, 1, 1, 0, 0, 0, 1, 4, 0, 0, 0, 3, 0, 0, 0, 3, 0, 0, 0, 3, 2, 0] mixed ?_
        have hB := hB.drew
        have hRp := hRp.ext (ext_drew w)
        have hlp := blk_ext hlp (ext_drew w)
        have hRb := hRb.ext (ext_drew w)
        have hlb := blk_ext hlb (ext_drew w)
        have hRc := hRc.ext (ext_drew w)
        have hlc := blk_ext hlc (ext_drew w)
        have hRw := hRw.ext (ext_drew w)
        have hlw := blk_ext hlw (ext_drew w)
        have hRm := hRm.ext (ext_drew w)
        have hlm := blk_ext hlm (ext_drew w)
        have h_b1 := ext_at (ext_drew w) h_b1
        have hRo := hRo.ext (ext_drew w)
        have h_bp := ext_at (ext_drew w) h_bp
        have h_bL := ext_at (ext_drew w) h_bL
        have hRi := hRi.ext (ext_drew w)
        have hli := blk_ext hli (ext_drew w)
        have h_b25 := ext_at (ext_drew w) h_b25
        have hRk := hRk.ext (ext_drew w)
        have hlk := blk_ext hlk (ext_drew w)
        have hS : (fun w => Rdg w (some ⟨bo, 0, none⟩) 2 2 DS ∧ w.heap[bp]? = some (.cells (pc PS).toArray 74 (0, 0)) ∧ w.heap[bL]? = some (.cells [.slice adw ow.length (c2 - lo), .slice adm ox.length cm, .slice none 0 0, .slice (some ⟨b1, 0, none⟩) 1 1].toArray 27 (0, 0))) w.drew := ⟨hRo, h_bp, h_bL⟩
        refine d0 0 hk rfl (chkN_ok (by as_aux_lemma => kernel_rfl)) rfl rfl rfl rfl (fun _ => e_move hk rfl _) fun a hk => ?_
        refine d0 1 hk rfl (chkN_ok (by as_aux_lemma => kernel_rfl)) rfl rfl rfl rfl (fun _ => e_move hk rfl _) fun a hk => ?_
        refine d0 2 hk rfl (chkN_ok (by as_aux_lemma => kernel_rfl)) rfl rfl rfl rfl (fun _ => e_idxSn q hk rfl rfl Tryd.underlying69 sz44 rfl hq2 _) fun a hk => ?_
        refine d1 3 hk rfl (chkN_ok (by as_aux_lemma => kernel_rfl)) rfl rfl rfl rfl (r_ldR44 (l := (DS.getD q [])) hk rfl (rdg_at hRo q hq2) (hD16 q hq2)) fun a hk => ?_
        refine d1 4 hk rfl (chkN_ok (by as_aux_lemma => kernel_rfl)) rfl rfl rfl rfl (r_loadB hk rfl h_b25 Tryd.underlying71 rfl sz71) fun a hk => ?_
        refine d0 5 hk rfl (chkN_ok (by as_aux_lemma => kernel_rfl)) rfl rfl rfl rfl (fun _ => e_move hk rfl _) fun a hk => ?_
        refine d0 6 hk rfl (chkN_ok (by as_aux_lemma => kernel_rfl)) rfl rfl rfl rfl (fun _ => e_move hk rfl _) fun a hk => ?_
        refine d0 7 hk rfl (chkN_ok (by as_aux_lemma => kernel_rfl)) rfl rfl rfl rfl (fun _ => e_idxSn k hk rfl rfl Tryd.underlying64 sz27 rfl hk4 _) fun a hk => ?_
        refine d1 8 hk rfl (chkN_ok (by as_aux_lemma => kernel_rfl)) rfl rfl rfl rfl (r_load1 hk rfl Tryd.underlying27 rfl (row_c h_bL k hck)) fun a hk => ?_
        refine da4 9 hk rfl (chkN_ok (by as_aux_lemma => kernel_rfl)) rfl rfl hS (a_call hk rfl rfl (c_fn hk rfl ok55) (c55 (DS.getD q []) (hD16 q hq2) N F li xk hLk adi adk ci ck _ hRi hli (by omega) hRk hlk (hG.ext hB) hN hF) ?_)
        rintro e w ⟨rfl, hE⟩
        refine ⟨_, rfl, fun a hk => ⟨⟨Rdg.ext hS.1 hE, ext_at hE hS.2.1, ext_at hE hS.2.2⟩, ?_⟩⟩
        have hS : (fun w => Rdg w (some ⟨bo, 0, none⟩) 2 2 DS ∧ w.heap[bp]? = some (.cells (pc PS).toArray 74 (0, 0)) ∧ w.heap[bL]? = some (.cells [.slice adw ow.length (c2 - lo), .slice adm ox.length cm, .slice none 0 0, .slice (some ⟨b1, 0, none⟩) 1 1].toArray 27 (0, 0))) w := ⟨Rdg.ext hS.1 hE, ext_at hE hS.2.1, ext_at hE hS.2.2⟩
        have hRp := hRp.ext hE
        have hlp := blk_ext hlp hE
        have hRb := hRb.ext hE
        have hlb := blk_ext hlb hE
        have hRc := hRc.ext hE
        have hlc := blk_ext hlc hE
        have hRw := hRw.ext hE
        have hlw := blk_ext hlw hE
        have hRm := hRm.ext hE
        have hlm := blk_ext hlm hE
        have h_b1 := ext_at hE h_b1
        have hRo := hRo.ext hE
        have h_bp := ext_at hE h_bp
        have h_bL := ext_at hE h_bL
        have hRi := hRi.ext hE
        have hli := blk_ext hli hE
        have h_b25 := ext_at hE h_b25
        have hRk := hRk.ext hE
        have hlk := blk_ext hlk hE
        have hB := ext_trans hB hE
        clear hE
        refine d0 10 hk rfl (chkN_ok (by as_aux_lemma => kernel_rfl)) rfl rfl rfl rfl (fun _ => e_move hk rfl _) fun a hk => ?_
        refine d0 11 hk rfl (chkN_ok (by as_aux_lemma => kernel_rfl)) rfl rfl rfl rfl (fun _ => e_move hk rfl _) fun a hk => ?_
        refine d0 12 hk rfl (chkN_ok (by as_aux_lemma => kernel_rfl)) rfl rfl rfl rfl (fun _ => e_idxSn q hk rfl rfl Tryd.underlying69 sz44 rfl hq2 _) fun a hk => ?_
        refine d3 13 hk rfl (chkN_ok (by as_aux_lemma => kernel_rfl)) rfl rfl rfl rfl hS (fun w hS => r_ldR44 (l := (DS.getD q [])) hk rfl (rdg_at hS.1 q hq2) (hD16 q hq2)) fun a hk => ?_
        refine d0 14 hk rfl (chkN_ok (by as_aux_lemma => kernel_rfl)) rfl rfl rfl rfl (fun _ => e_move hk rfl _) fun a hk => ?_
        refine d0 15 hk rfl (chkN_ok (by as_aux_lemma => kernel_rfl)) rfl rfl rfl rfl (fun _ => e_move hk rfl _) fun a hk => ?_
        refine d0 16 hk rfl (chkN_ok (by as_aux_lemma => kernel_rfl)) rfl rfl rfl rfl (fun _ => e_idxSn i hk rfl rfl Tryd.underlying82 sz74 rfl hi9 _) fun a hk => ?_
        refine d3 17 hk rfl (chkN_ok (by as_aux_lemma => kernel_rfl)) rfl rfl rfl rfl hS (fun w hS => r_loadR hk rfl (pc_r hS.2.1 i hci) Tryd.underlying74 rfl sz74) fun a hk => ?_
        refine d0 18 hk rfl (chkN_ok (by as_aux_lemma => kernel_rfl)) rfl rfl rfl rfl (fun _ => e_move hk rfl _) fun a hk => ?_
        refine d0 19 hk rfl (chkN_ok (by as_aux_lemma => kernel_rfl)) rfl rfl rfl rfl (fun _ => e_move hk rfl _) fun a hk => ?_
        refine d0 20 hk rfl (chkN_ok (by as_aux_lemma => kernel_rfl)) rfl rfl rfl rfl (fun _ => e_idxSn k hk rfl rfl Tryd.underlying64 sz27 rfl hk4 _) fun a hk => ?_
        refine d3 21 hk rfl (chkN_ok (by as_aux_lemma => kernel_rfl)) rfl rfl rfl rfl hS (fun w hS => r_load1 hk rfl Tryd.underlying27 rfl (row_c hS.2.2 k hck)) fun a hk => ?_
        refine da 22 hk rfl (chkN_ok (by as_aux_lemma => kernel_rfl)) rfl rfl (a_call hk rfl rfl (c_fn hk rfl ok56) (c56 (DS.getD q []) (hD16 q hq2) N F li xk hLk adi adk ci ck _ hRi hRk (hGR.ext hB) hN hF) ?_)
        rintro e w ⟨rfl, hE⟩
        refine ⟨_, rfl, fun a hk => ?_⟩
        have hS : (fun w => Rdg w (some ⟨bo, 0, none⟩) 2 2 DS ∧ w.heap[bp]? = some (.cells (pc PS).toArray 74 (0, 0)) ∧ w.heap[bL]? = some (.cells [.slice adw ow.length (c2 - lo), .slice adm ox.length cm, .slice none 0 0, .slice (some ⟨b1, 0, none⟩) 1 1].toArray 27 (0, 0))) w := ⟨Rdg.ext hS.1 hE, ext_at hE hS.2.1, ext_at hE hS.2.2⟩
        have hRp := hRp.ext hE
        have hlp := blk_ext hlp hE
        have hRb := hRb.ext hE
        have hlb := blk_ext hlb hE
        have hRc := hRc.ext hE
        have hlc := blk_ext hlc hE
        have hRw := hRw.ext hE
        have hlw := blk_ext hlw hE
        have hRm := hRm.ext hE
        have hlm := blk_ext hlm hE
        have h_b1 := ext_at hE h_b1
        have hRo := hRo.ext hE
        have h_bp := ext_at hE h_bp
        have h_bL := ext_at hE h_bL
        have hRi := hRi.ext hE
        have hli := blk_ext hli hE
        have h_b25 := ext_at hE h_b25
        have hRk := hRk.ext hE
        have hlk := blk_ext hlk hE
        have hB := ext_trans hB hE
        clear hE
        refine d0 23 hk rfl (chkN_ok (by as_aux_lemma => kernel_rfl)) rfl rfl rfl rfl (fun _ => e_neq (b := false) hk rfl rfl (by simp) _) fun a hk => ?_
        refine okFin (by as_aux_lemma => kernel_rfl) (hK26 _ _ ?_)
        refine cdF hk rfl ?_
        refine wp_skip (hK25 _ _ ?_)
        refine wp_region_lit ?_
        refine ls hk rfl rfl rfl (e_move hk rfl _) fun a hk => ?_
        refine ls hk rfl rfl rfl (e_add hk rfl rfl (i64 (by omega) (by omega)) _) fun a hk => ?_
        refine ls hk rfl rfl rfl (e_assign hk rfl _) fun a hk => ?_
        refine lnil (show ∃ m : Nat, m < _ ∧ _ from ⟨2 - (q + 1), by omega, q + 1, rfl, by omega, hk.sub _ ⟨rfl, rfl, rfl, rfl, rfl, rfl, rfl, trivial⟩, hB, hRp, hlp, hRb, hlb, hRc, hlc, hRw, hlw, hRm, hlm, h_b1, hRo, h_bp, h_bL, hRi, hli, h_b25, hRk, hlk⟩)
      · refine wp_exit (hK21 _ _ ?_)
        refine wp_region_lit ?_
        refine ls hk rfl rfl rfl (e_move hk rfl _) fun a hk => ?_
        refine ls hk rfl rfl rfl (e_add hk rfl rfl (i64 (by omega) (by omega)) _) fun a hk => ?_
        refine ls hk rfl rfl rfl (e_assign hk rfl _) fun a hk => ?_
        refine lnil (show ∃ m : Nat, m < _ ∧ _ from ⟨4 - (k + 1), by omega, k + 1, rfl, by omega, hk.sub _ ⟨rfl, rfl, rfl, rfl, rfl, rfl, trivial⟩, hB, hRp, hlp, hRb, hlb, hRc, hlc, hRw, hlw, hRm, hlm, h_b1, hRo, h_bp, h_bL, hRi, hli, h_b25⟩)
    · refine wp_exit (hK16 _ _ ?_)
      refine wp_region_lit ?_
      refine ls hk rfl rfl rfl (e_move hk rfl _) fun a hk => ?_
      refine ls hk rfl rfl rfl (e_add hk rfl rfl (i64 (by omega) (by omega)) _) fun a hk => ?_
      refine ls hk rfl rfl rfl (e_assign hk rfl _) fun a hk => ?_
      refine lnil (show ∃ m : Nat, m < _ ∧ _ from ⟨9 - (i + 1), by omega, i + 1, rfl, by omega, hk.sub _ ⟨rfl, rfl, rfl, rfl, trivial⟩, hB, hRp, hlp, hRb, hlb, hRc, hlc, hRw, hlw, hRm, hlm, h_b1, hRo, h_bp, h_bL⟩)
  · refine wp_exit (hK12 _ _ ?_)
    refine wp_seq_k fun K27 hK27 => ?_
    refine wp_region_lit ?_
    refine la hk rfl (a_call hk rfl rfl (c_fn (vs := []) hk rfl ok53) (c53 _ (hG.ext hB)) ?_)
    rintro e w ⟨rfl, hE⟩
    refine ⟨_, rfl, fun a hk => ?_⟩
    have hRp := hRp.ext hE
    have hlp := blk_ext hlp hE
    have hRb := hRb.ext hE
    have hlb := blk_ext hlb hE
    have hRc := hRc.ext hE
    have hlc := blk_ext hlc hE
    have hRw := hRw.ext hE
    have hlw := blk_ext hlw hE
    have hRm := hRm.ext hE
    have hlm := blk_ext hlm hE
    have h_b1 := ext_at hE h_b1
    have hRo := hRo.ext hE
    have h_bp := ext_at hE h_bp
    have h_bL := ext_at hE h_bL
    have hB := ext_trans hB hE
    clear hE
    refine ls hk rfl rfl rfl (e_assign hk rfl _) fun a hk => ?_
    refine lnil (hK27 _ _ ?_)
    refine wp_ret ?_
    first
      | exact ret1 hk rfl rfl ⟨rfl, hB⟩
      | (simp only [then_ret]; exact ret1 hk rfl rfl ⟨rfl, hB⟩)

end Go.Proofs.YtidfbboalbchiaaDoor
