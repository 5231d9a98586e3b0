/- The walk of the law of whole trees. -/
import Derived.Test.YtidfbboalbchiaaDoorVA38
namespace Go.Proofs.YtidfbboalbchiaaDoor
open Go Go.RowKit

theorem long_zero (xs : List (List UInt8)) : longR xs 0 = ([rootS xs], 0) := by
  by_cases h0 : xs.length = 0
  · obtain rfl := List.length_eq_zero_iff.1 h0
    unfold longR; rw [if_neg (by simp), if_pos h0, rootS_nil]
  · have h : longR xs 0 = (rootsOf xs (stepsS 0 0 xs.length), 0) := by unfold longR; rw [if_neg (by omega), if_neg h0]; rfl
    rw [h, show stepsS 0 0 xs.length = [(0, xs.length)] from stops_stop (by simp [farB])]
    simp [rootsOf, rootI_all]
theorem long_all (xs : List (List UInt8)) : longR xs xs.length = ([rootS xs], 0) := by
  by_cases h0 : xs.length = 0
  · obtain rfl := List.length_eq_zero_iff.1 h0
    exact long_zero []
  · have h : longR xs xs.length = (rootsOf xs (stepsS xs.length 0 xs.length), 0) := by unfold longR; rw [if_neg (by omega), if_neg h0]; rfl
    rw [h, show stepsS xs.length 0 xs.length = [(0, xs.length)] from stops_stop (by simp [farB])]
    simp [rootsOf, rootI_all]
theorem ext_all (xs : List (List UInt8)) (hL : xs.length ≤ 1073741824) : extR (rootS xs) (rootS xs) xs.length xs.length [rootS xs] = 0 := by
  have h := long_ok xs hL xs.length (Nat.le_refl _)
  rw [long_all, List.take_length] at h
  exact h
theorem ext_zero (xs : List (List UInt8)) (hL : xs.length ≤ 1073741824) : extR (rootS []) (rootS xs) 0 xs.length [rootS xs] = 0 := by
  have h := long_ok xs hL 0 (Nat.zero_le _)
  rw [show ((0 : Nat) : Int) = 0 from rfl, long_zero, List.take_zero] at h
  exact h
theorem prov_none {xs : List (List UInt8)} (h0 : xs.length = 0) : provR xs 0 xs.length = ⟨0, 0, [], 1⟩ := by unfold provR; rw [if_pos (by omega)]
theorem prov_all {xs : List (List UInt8)} (h0 : ¬ xs.length = 0) : provR xs 0 xs.length = ⟨xs.length, 0, [], 0⟩ := by
  have h : provR xs 0 xs.length = ⟨xs.length, 0, rootsOf xs (restS 0 xs.length 0 xs.length), 0⟩ := by unfold provR; rw [if_neg (by omega)]; rfl
  rw [h, rest_in 0 xs.length 0 xs.length (by omega) (Nat.le_refl _) (Nat.le_refl _)]; rfl
theorem check_all {xs : List (List UInt8)} (h0 : ¬ xs.length = 0) (hL : xs.length ≤ 1073741824) : chkR (rootS xs) xs.length 0 [] xs = 0 := by
  have h := prove_ok xs hL 0 xs.length (by omega) (Nat.le_refl _)
  rw [show ((0 : Nat) : Int) = 0 from rfl, prov_all h0, cut_all] at h
  exact h

set_option maxRecDepth 4000 in
set_option maxHeartbeats 1000000 in
theorem c17 (l : List Int) (hl64 : ∀ n ∈ l, is64 n) (ad : Option Addr) (c : Nat) (w0 : World) (hR : Ri w0 ad l.length c l) (hG : GH w0) :
    Calls Tryd.prog 17 #[.slice ad l.length c] w0 fun e w' => e = .returned (.bool true) ∧ Ext w0 w' := by
  refine start 110 Tryd.func17 rfl rfl rfl fun a hk => ?_
  have hB : Ext w0 w0 := Below.refl _ _
  refine wp_seq_k fun K1 hK1 => ?_
  refine wp_region_lit ?_
  refine ls hk rfl rfl rfl (e_assign hk rfl _) fun a hk => ?_
  refine lnil (hK1 _ _ ?_)
  refine wp_seq_k fun K2 hK2 => ?_
  refine wp_region_lit ?_
  refine ls hk rfl rfl rfl (e_move hk rfl _) fun a hk => ?_
  refine la hk rfl (a_call hk rfl rfl (c_fn hk rfl ok44) (c44 l hl64 ad c _ (Rd.ext hR hB)) ?_)
  rintro e w ⟨⟨ad2, c2, xs, rfl, hRx, h20, hL, hlt⟩, hE⟩
  refine ⟨_, rfl, fun a hk => ?_⟩
  have hB := ext_trans hB hE
  have hL1 := hL.1
  clear hE
  refine ls hk rfl rfl rfl (e_assign hk rfl _) fun a hk => ?_
  refine lnil (hK2 _ _ ?_)
  refine wp_seq_k fun K3 hK3 => ?_
  refine wp_region_lit ?_
  refine ls hk rfl rfl rfl (e_move hk rfl _) fun a hk => ?_
  refine la hk rfl (a_call hk rfl rfl (c_fn hk rfl ok46) (c46 xs hL ad2 c2 _ hRx (hG.ext hB)) ?_)
  rintro e w ⟨rfl, hE⟩
  refine ⟨_, rfl, fun a hk => ?_⟩
  have hRx := hRx.ext hE
  have hlt := blk_ext hlt hE
  have hB := ext_trans hB hE
  clear hE
  refine la hk rfl (a_alloc hk rfl zr44 fun a w b4 hk G => ?_)
  have k_hRx_b4 := rd_keep hRx G
  have hg_b4 : w0.heap.size ≤ b4 := Nat.le_trans hB.size G.ge
  have hRx := hRx.ext G.ext
  have hlt := blk_ext hlt G.ext
  have hB := ext_trans hB G.ext
  have h_b4 := G.at_
  clear G
  refine la hk rfl (a_st44 (l := rootS xs) hk rfl rfl (by simp) h_b4 rfl fun a w hk W => ?_)
  have hRx := k_hRx_b4 _ _ _ hRx W
  have hlt := blk_wrote hlt W
  have hB := W.below hB hg_b4
  have h_b4 := W.at_
  clear W
  refine lnil (hK3 _ _ ?_)
  refine wp_seq_k fun K4 hK4 => ?_
  refine wp_region_lit ?_
  refine ls hk rfl rfl rfl (e_move hk rfl _) fun a hk => ?_
  refine la hk rfl (a_call hk rfl rfl (c_fn hk rfl ok50) (c50 xs hL ad2 c2 0 _ hRx (hG.ext hB)) ?_)
  rintro e w ⟨⟨ad5, c5, he, hRa, _⟩, hE⟩
  rw [long_zero] at he hRa
  have he : e = .returned (.tuple #[.slice ad5 1 c5, I 0]) := he
  have hRa : Rdg w ad5 1 c5 [rootS xs] := hRa
  subst he
  refine ⟨_, rfl, fun a hk => ?_⟩
  have hRx := hRx.ext hE
  have hlt := blk_ext hlt hE
  have h_b4 := ext_at hE h_b4
  have hB := ext_trans hB hE
  clear hE
  refine ls hk rfl rfl rfl (e_move hk rfl _) fun a hk => ?_
  refine ls hk rfl rfl rfl (e_ext hk rfl rfl _) fun a hk => ?_
  refine ls hk rfl rfl rfl (e_ext hk rfl rfl _) fun a hk => ?_
  refine ls hk rfl rfl rfl (e_assign hk rfl _) fun a hk => ?_
  refine ls hk rfl rfl rfl (e_assign hk rfl _) fun a hk => ?_
  refine lnil (hK4 _ _ ?_)
  refine wp_seq_k fun K5 hK5 => ?_
  refine wp_region_lit ?_
  refine ls hk rfl rfl rfl (e_move hk rfl _) fun a hk => ?_
  refine ls hk rfl rfl rfl (e_move hk rfl _) fun a hk => ?_
  refine ls hk rfl rfl rfl (e_lenS hk rfl Tryd.underlying27 _) fun a hk => ?_
  refine la hk rfl (a_call hk rfl rfl (c_fn hk rfl ok50) (c50 xs hL ad2 c2 xs.length _ hRx (hG.ext hB)) ?_)
  rintro e w ⟨⟨ad7, c7, he, hRb, _⟩, hE⟩
  rw [long_all] at he hRb
  have he : e = .returned (.tuple #[.slice ad7 1 c7, I 0]) := he
  have hRb : Rdg w ad7 1 c7 [rootS xs] := hRb
  subst he
  refine ⟨_, rfl, fun a hk => ?_⟩
  have hRx := hRx.ext hE
  have hlt := blk_ext hlt hE
  have h_b4 := ext_at hE h_b4
  have hRa := hRa.ext hE
  have hB := ext_trans hB hE
  clear hE
  refine ls hk rfl rfl rfl (e_move hk rfl _) fun a hk => ?_
  refine ls hk rfl rfl rfl (e_ext hk rfl rfl _) fun a hk => ?_
  refine ls hk rfl rfl rfl (e_ext hk rfl rfl _) fun a hk => ?_
  refine ls hk rfl rfl rfl (e_assign hk rfl _) fun a hk => ?_
  refine ls hk rfl rfl rfl (e_assign hk rfl _) fun a hk => ?_
  refine lnil (hK5 _ _ ?_)
  refine wp_seq_k fun K6 hK6 => ?_
  refine wp_seq_k fun K7 hK7 => ?_
  obtain ⟨b5r, o5r, rfl, _, _⟩ := hRa.get 0 (by decide)
  obtain ⟨b7r, o7r, rfl, _, _⟩ := hRb.get 0 (by decide)
  refine wp_region_ok (fun w => w.heap[b4]? = some (.cells ((rootS xs).map B).toArray 44 (0, 0))) [0, 0, 0, 0, 0, 0, 0, 0, 0, 0, 0, 0, 0, 0, 0, 0, 0, 0, 0, 1, 1, 0, 0, 0, 0, 0, 1, 1, 0, 0, 0, 1, 1, 0, 0, 0, 0, 0, 2, 0, 0, 0, 4, 3, 0, 0, 0, 2, 0, 0] mixed ?_
  have hB := hB.drew
  have hRx := hRx.ext (ext_drew w)
  have hlt := blk_ext hlt (ext_drew w)
  have h_b4 := ext_at (ext_drew w) h_b4
  have hRa := hRa.ext (ext_drew w)
  have hRb := hRb.ext (ext_drew w)
  have hS : (fun w => w.heap[b4]? = some (.cells ((rootS xs).map B).toArray 44 (0, 0))) w.drew := h_b4
  refine d0 0 hk rfl (chkN_ok (by as_aux_lemma => kernel_rfl)) rfl rfl rfl rfl (fun _ => e_move hk rfl _) fun a hk => ?_
  refine d0 1 hk rfl (chkN_ok (by as_aux_lemma => kernel_rfl)) rfl rfl rfl rfl (fun _ => e_neq (b := false) hk rfl rfl (by simp) _) fun a hk => ?_
  refine d0 2 hk rfl (chkN_ok (by as_aux_lemma => kernel_rfl)) rfl rfl rfl rfl (fun _ => e_move hk rfl _) fun a hk => ?_
  refine d0 3 hk rfl (chkN_ok (by as_aux_lemma => kernel_rfl)) rfl rfl rfl rfl (fun _ => e_move hk rfl _) fun a hk => ?_
  refine d0 4 hk rfl (chkN_ok (by as_aux_lemma => kernel_rfl)) rfl rfl rfl rfl (fun _ => e_neq (b := false) hk rfl rfl (by simp) _) fun a hk => ?_
  refine d0 5 hk rfl (chkN_ok (by as_aux_lemma => kernel_rfl)) rfl rfl rfl rfl (fun _ => e_pickF hk rfl rfl _) fun a hk => ?_
  refine d0 6 hk rfl (chkN_ok (by as_aux_lemma => kernel_rfl)) rfl rfl rfl rfl (fun _ => e_move hk rfl _) fun a hk => ?_
  refine d0 7 hk rfl (chkN_ok (by as_aux_lemma => kernel_rfl)) rfl rfl rfl rfl (fun _ => e_move hk rfl _) fun a hk => ?_
  refine d0 8 hk rfl (chkN_ok (by as_aux_lemma => kernel_rfl)) rfl rfl rfl rfl (fun _ => e_lenS hk rfl Tryd.underlying69 _) fun a hk => ?_
  refine d0 9 hk rfl (chkN_ok (by as_aux_lemma => kernel_rfl)) rfl rfl rfl rfl (fun _ => e_neq (b := false) hk rfl rfl (by simp) _) fun a hk => ?_
  refine d0 10 hk rfl (chkN_ok (by as_aux_lemma => kernel_rfl)) rfl rfl rfl rfl (fun _ => e_pickF hk rfl rfl _) fun a hk => ?_
  refine d0 11 hk rfl (chkN_ok (by as_aux_lemma => kernel_rfl)) rfl rfl rfl rfl (fun _ => e_move hk rfl _) fun a hk => ?_
  refine d0 12 hk rfl (chkN_ok (by as_aux_lemma => kernel_rfl)) rfl rfl rfl rfl (fun _ => e_move hk rfl _) fun a hk => ?_
  refine d0 13 hk rfl (chkN_ok (by as_aux_lemma => kernel_rfl)) rfl rfl rfl rfl (fun _ => e_lenS hk rfl Tryd.underlying69 _) fun a hk => ?_
  refine d0 14 hk rfl (chkN_ok (by as_aux_lemma => kernel_rfl)) rfl rfl rfl rfl (fun _ => e_neq (b := false) hk rfl rfl (by simp) _) fun a hk => ?_
  refine d0 15 hk rfl (chkN_ok (by as_aux_lemma => kernel_rfl)) rfl rfl rfl rfl (fun _ => e_pickF hk rfl rfl _) fun a hk => ?_
  refine d0 16 hk rfl (chkN_ok (by as_aux_lemma => kernel_rfl)) rfl rfl rfl rfl (fun _ => e_move hk rfl _) fun a hk => ?_
  refine d0 17 hk rfl (chkN_ok (by as_aux_lemma => kernel_rfl)) rfl rfl rfl rfl (fun _ => e_move hk rfl _) fun a hk => ?_
  refine d0 18 hk rfl (chkN_ok (by as_aux_lemma => kernel_rfl)) rfl rfl rfl rfl (fun _ => e_idxSn 0 hk rfl rfl Tryd.underlying69 sz44 rfl (by decide) _) fun a hk => ?_
  refine d1 19 hk rfl (chkN_ok (by as_aux_lemma => kernel_rfl)) rfl rfl rfl rfl (r_ldR44 (l := rootS xs) hk rfl (rdg_at hRa 0 (by decide)) (by simp)) fun a hk => ?_
  refine d1 20 hk rfl (chkN_ok (by as_aux_lemma => kernel_rfl)) rfl rfl rfl rfl (r_ld44 hk rfl h_b4 (by simp)) fun a hk => ?_
  refine d0 21 hk rfl (chkN_ok (by as_aux_lemma => kernel_rfl)) rfl rfl rfl rfl (fun _ => e_neA (l := (rootS xs)) (r := (rootS xs)) (b := false) hk rfl rfl Tryd.underlying44 Tryd.underlying5 sz5 (by simp) (by simp) eg44 (by rw [decide_eq_true (rfl)]; rfl) _) fun a hk => ?_
  refine d0 22 hk rfl (chkN_ok (by as_aux_lemma => kernel_rfl)) rfl rfl rfl rfl (fun _ => e_pickF hk rfl rfl _) fun a hk => ?_
  refine d0 23 hk rfl (chkN_ok (by as_aux_lemma => kernel_rfl)) rfl rfl rfl rfl (fun _ => e_move hk rfl _) fun a hk => ?_
  refine d0 24 hk rfl (chkN_ok (by as_aux_lemma => kernel_rfl)) rfl rfl rfl rfl (fun _ => e_move hk rfl _) fun a hk => ?_
  refine d0 25 hk rfl (chkN_ok (by as_aux_lemma => kernel_rfl)) rfl rfl rfl rfl (fun _ => e_idxSn 0 hk rfl rfl Tryd.underlying69 sz44 rfl (by decide) _) fun a hk => ?_
  refine d1 26 hk rfl (chkN_ok (by as_aux_lemma => kernel_rfl)) rfl rfl rfl rfl (r_ldR44 (l := rootS xs) hk rfl (rdg_at hRb 0 (by decide)) (by simp)) fun a hk => ?_
  refine d1 27 hk rfl (chkN_ok (by as_aux_lemma => kernel_rfl)) rfl rfl rfl rfl (r_ld44 hk rfl h_b4 (by simp)) fun a hk => ?_
  refine d0 28 hk rfl (chkN_ok (by as_aux_lemma => kernel_rfl)) rfl rfl rfl rfl (fun _ => e_neA (l := (rootS xs)) (r := (rootS xs)) (b := false) hk rfl rfl Tryd.underlying44 Tryd.underlying5 sz5 (by simp) (by simp) eg44 (by rw [decide_eq_true (rfl)]; rfl) _) fun a hk => ?_
  refine d0 29 hk rfl (chkN_ok (by as_aux_lemma => kernel_rfl)) rfl rfl rfl rfl (fun _ => e_pickF hk rfl rfl _) fun a hk => ?_
  refine d0 30 hk rfl (chkN_ok (by as_aux_lemma => kernel_rfl)) rfl rfl rfl rfl (fun _ => e_move hk rfl _) fun a hk => ?_
  refine d1 31 hk rfl (chkN_ok (by as_aux_lemma => kernel_rfl)) rfl rfl rfl rfl (r_ld44 hk rfl h_b4 (by simp)) fun a hk => ?_
  refine d1 32 hk rfl (chkN_ok (by as_aux_lemma => kernel_rfl)) rfl rfl rfl rfl (r_ld44 hk rfl h_b4 (by simp)) fun a hk => ?_
  refine d0 33 hk rfl (chkN_ok (by as_aux_lemma => kernel_rfl)) rfl rfl rfl rfl (fun _ => e_move hk rfl _) fun a hk => ?_
  refine d0 34 hk rfl (chkN_ok (by as_aux_lemma => kernel_rfl)) rfl rfl rfl rfl (fun _ => e_lenS hk rfl Tryd.underlying27 _) fun a hk => ?_
  refine d0 35 hk rfl (chkN_ok (by as_aux_lemma => kernel_rfl)) rfl rfl rfl rfl (fun _ => e_move hk rfl _) fun a hk => ?_
  refine d0 36 hk rfl (chkN_ok (by as_aux_lemma => kernel_rfl)) rfl rfl rfl rfl (fun _ => e_lenS hk rfl Tryd.underlying27 _) fun a hk => ?_
  refine d0 37 hk rfl (chkN_ok (by as_aux_lemma => kernel_rfl)) rfl rfl rfl rfl (fun _ => e_move hk rfl _) fun a hk => ?_
  refine da 38 hk rfl (chkN_ok (by as_aux_lemma => kernel_rfl)) rfl rfl (a_call hk rfl rfl (c_fn hk rfl ok57) (c57 (rootS xs) (rootS xs) (by simp) (by simp) xs.length xs.length [rootS xs] _ c7 _ hRb (fun b o e => by cases e; exact rdg_lt hRb (by decide)) (by simp) (hG.ext hB) ⟨by omega, by omega⟩ ⟨by omega, by omega⟩) ?_)
  rintro e w ⟨rfl, hE⟩
  refine ⟨_, rfl, fun a hk => ?_⟩
  have hS := ext_at hE hS
  have hRx := hRx.ext hE
  have hlt := blk_ext hlt hE
  have h_b4 := ext_at hE h_b4
  have hRa := hRa.ext hE
  have hRb := hRb.ext hE
  have hB := ext_trans hB hE
  rw [ext_all xs hL1] at hk
  clear hE
  refine d0 39 hk rfl (chkN_ok (by as_aux_lemma => kernel_rfl)) rfl rfl rfl rfl (fun _ => e_neq (b := false) hk rfl rfl (by simp) _) fun a hk => ?_
  refine d0 40 hk rfl (chkN_ok (by as_aux_lemma => kernel_rfl)) rfl rfl rfl rfl (fun _ => e_pickF hk rfl rfl _) fun a hk => ?_
  refine d0 41 hk rfl (chkN_ok (by as_aux_lemma => kernel_rfl)) rfl rfl rfl rfl (fun _ => e_move hk rfl _) fun a hk => ?_
  refine da4 42 hk rfl (chkN_ok (by as_aux_lemma => kernel_rfl)) rfl rfl hS (a_call hk rfl rfl (c_fn hk rfl ok46) (c46 [] ⟨by decide, by simp⟩ none 0 _ rd_none (hG.ext hB)) ?_)
  rintro e w ⟨rfl, hE⟩
  refine ⟨_, rfl, fun a hk => ⟨ext_at hE hS, ?_⟩⟩
  have hS := ext_at hE hS
  have hRx := hRx.ext hE
  have hlt := blk_ext hlt hE
  have h_b4 := ext_at hE h_b4
  have hRa := hRa.ext hE
  have hRb := hRb.ext hE
  have hB := ext_trans hB hE
  clear hE
  refine d3 43 hk rfl (chkN_ok (by as_aux_lemma => kernel_rfl)) rfl rfl rfl rfl hS (fun w hS => r_ld44 hk rfl hS (by simp)) fun a hk => ?_
  refine d0 44 hk rfl (chkN_ok (by as_aux_lemma => kernel_rfl)) rfl rfl rfl rfl (fun _ => e_move hk rfl _) fun a hk => ?_
  refine d0 45 hk rfl (chkN_ok (by as_aux_lemma => kernel_rfl)) rfl rfl rfl rfl (fun _ => e_lenS hk rfl Tryd.underlying27 _) fun a hk => ?_
  refine d0 46 hk rfl (chkN_ok (by as_aux_lemma => kernel_rfl)) rfl rfl rfl rfl (fun _ => e_move hk rfl _) fun a hk => ?_
  refine da 47 hk rfl (chkN_ok (by as_aux_lemma => kernel_rfl)) rfl rfl (a_call hk rfl rfl (c_fn hk rfl ok57) (c57 (rootS []) (rootS xs) (by simp) (by simp) 0 xs.length [rootS xs] _ c5 _ hRa (fun b o e => by cases e; exact rdg_lt hRa (by decide)) (by simp) (hG.ext hB) ⟨by decide, by decide⟩ ⟨by omega, by omega⟩) ?_)
  rintro e w ⟨rfl, hE⟩
  refine ⟨_, rfl, fun a hk => ?_⟩
  have hS := ext_at hE hS
  have hRx := hRx.ext hE
  have hlt := blk_ext hlt hE
  have h_b4 := ext_at hE h_b4
  have hRa := hRa.ext hE
  have hRb := hRb.ext hE
  have hB := ext_trans hB hE
  rw [ext_zero xs hL1] at hk
  clear hE
  refine d0 48 hk rfl (chkN_ok (by as_aux_lemma => kernel_rfl)) rfl rfl rfl rfl (fun _ => e_neq (b := false) hk rfl rfl (by simp) _) fun a hk => ?_
  refine d0 49 hk rfl (chkN_ok (by as_aux_lemma => kernel_rfl)) rfl rfl rfl rfl (fun _ => e_pickF hk rfl rfl _) fun a hk => ?_
  refine okFin (by as_aux_lemma => kernel_rfl) (hK7 _ _ ?_)
  refine cdF hk rfl ?_
  refine wp_skip (hK6 _ _ ?_)
  refine wp_seq_k fun K8 hK8 => ?_
  by_cases h0 : xs.length = 0
  · skip
    refine wp_region_lit ?_
    refine ls hk rfl rfl rfl (e_move hk rfl _) fun a hk => ?_
    refine ls hk rfl rfl rfl (e_move hk rfl _) fun a hk => ?_
    refine ls hk rfl rfl rfl (e_lenS hk rfl Tryd.underlying27 _) fun a hk => ?_
    refine la hk rfl (a_call hk rfl rfl (c_fn hk rfl ok48) (c48 xs hL ad2 c2 0 xs.length _ hRx (hG.ext hB)) ?_)
    rintro e w ⟨⟨adp, cp, he, hRp, hlp⟩, hE⟩
    rw [prov_none h0] at he hRp
    have he : e = .returned (.tuple #[.agg #[I 0, I 0, .slice adp 0 cp], I 1]) := he
    have hRp : Rdg w adp 0 cp [] := hRp
    subst he
    refine ⟨_, rfl, fun a hk => ?_⟩
    have hRx := hRx.ext hE
    have hlt := blk_ext hlt hE
    have h_b4 := ext_at hE h_b4
    have hRa := hRa.ext hE
    have hRb := hRb.ext hE
    have hB := ext_trans hB hE
    clear hE
    refine ls hk rfl rfl rfl (e_move hk rfl _) fun a hk => ?_
    refine ls hk rfl rfl rfl (e_ext hk rfl rfl _) fun a hk => ?_
    refine ls hk rfl rfl rfl (e_ext hk rfl rfl _) fun a hk => ?_
    refine la hk rfl (a_alloc hk rfl zr71 fun a w b9 hk G => ?_)
    have k_hRx_b9 := rd_keep hRx G
    have n_b4_b9 : b4 ≠ b9 := G.ne h_b4
    have k_hRa_b9 := rdg_keep hRa G
    have k_hRb_b9 := rdg_keep hRb G
    have k_hRp_b9 := rdg_keep hRp G
    have hg_b9 : w0.heap.size ≤ b9 := Nat.le_trans hB.size G.ge
    have hRx := hRx.ext G.ext
    have hlt := blk_ext hlt G.ext
    have h_b4 := ext_at G.ext h_b4
    have hRa := hRa.ext G.ext
    have hRb := hRb.ext G.ext
    have hRp := hRp.ext G.ext
    have hlp := blk_ext hlp G.ext
    have hB := ext_trans hB G.ext
    have h_b9 := G.at_
    clear G
    refine la hk rfl (a_storeB (cs' := #[I 0, I 0, .slice adp 0 cp]) hk rfl rfl (by simp [Value.oneCell']) sz71 h_b9 rfl fun a w hk W => ?_)
    have hRx := k_hRx_b9 _ _ _ hRx W
    have hlt := blk_wrote hlt W
    have h_b4 := W.keep n_b4_b9 h_b4
    have hRa := k_hRa_b9 _ _ _ hRa W
    have hRb := k_hRb_b9 _ _ _ hRb W
    have hRp := k_hRp_b9 _ _ _ hRp W
    have hlp := blk_wrote hlp W
    have hB := W.below hB hg_b9
    have h_b9 := W.at_
    clear W
    refine ls hk rfl rfl rfl (e_assign hk rfl _) fun a hk => ?_
    refine lnil (hK8 _ _ ?_)
    refine wp_seq_k fun K9 hK9 => ?_
    refine wp_seq_k fun K10 hK10 => ?_
    refine wp_region_lit ?_
    refine ls hk rfl rfl rfl (e_move hk rfl _) fun a hk => ?_
    refine ls hk rfl rfl rfl (e_lenS hk rfl Tryd.underlying27 _) fun a hk => ?_
    refine ls hk rfl rfl rfl (e_eql (b := true) hk rfl rfl (decide_eq_true (by omega)) _) fun a hk => ?_
    refine lnil (hK10 _ _ ?_)
    refine cdT hk rfl ?_
    refine wp_seq_k fun K11 hK11 => ?_
    refine wp_region_lit ?_
    refine ls hk rfl rfl rfl (e_move hk rfl _) fun a hk => ?_
    refine ls hk rfl rfl rfl (e_eql (b := true) hk rfl rfl (by decide) _) fun a hk => ?_
    refine ls hk rfl rfl rfl (e_move hk rfl _) fun a hk => ?_
    refine la hk rfl (a_call hk rfl rfl (c_fn (vs := []) hk rfl ok53) (c53 _ (hG.ext hB)) ?_)
    rintro e w ⟨rfl, hE⟩
    refine ⟨_, rfl, fun a hk => ?_⟩
    have hRx := hRx.ext hE
    have hlt := blk_ext hlt hE
    have h_b4 := ext_at hE h_b4
    have hRa := hRa.ext hE
    have hRb := hRb.ext hE
    have hRp := hRp.ext hE
    have hlp := blk_ext hlp hE
    have h_b9 := ext_at hE h_b9
    have hB := ext_trans hB hE
    clear hE
    refine ls hk rfl rfl rfl (e_pickT hk rfl rfl _) fun a hk => ?_
    refine ls hk rfl rfl rfl (e_assign hk rfl _) fun a hk => ?_
    refine lnil (hK11 _ _ ?_)
    refine wp_ret ?_
    first
      | exact ret1 hk rfl rfl ⟨rfl, hB⟩
      | (simp only [then_ret]; exact ret1 hk rfl rfl ⟨rfl, hB⟩)
  · skip
    refine wp_region_lit ?_
    refine ls hk rfl rfl rfl (e_move hk rfl _) fun a hk => ?_
    refine ls hk rfl rfl rfl (e_move hk rfl _) fun a hk => ?_
    refine ls hk rfl rfl rfl (e_lenS hk rfl Tryd.underlying27 _) fun a hk => ?_
    refine la hk rfl (a_call hk rfl rfl (c_fn hk rfl ok48) (c48 xs hL ad2 c2 0 xs.length _ hRx (hG.ext hB)) ?_)
    rintro e w ⟨⟨adp, cp, he, hRp, hlp⟩, hE⟩
    rw [prov_all h0] at he hRp
    have he : e = .returned (.tuple #[.agg #[I xs.length, I 0, .slice adp 0 cp], I 0]) := he
    have hRp : Rdg w adp 0 cp [] := hRp
    subst he
    refine ⟨_, rfl, fun a hk => ?_⟩
    have hRx := hRx.ext hE
    have hlt := blk_ext hlt hE
    have h_b4 := ext_at hE h_b4
    have hRa := hRa.ext hE
    have hRb := hRb.ext hE
    have hB := ext_trans hB hE
    clear hE
    refine ls hk rfl rfl rfl (e_move hk rfl _) fun a hk => ?_
    refine ls hk rfl rfl rfl (e_ext hk rfl rfl _) fun a hk => ?_
    refine ls hk rfl rfl rfl (e_ext hk rfl rfl _) fun a hk => ?_
    refine la hk rfl (a_alloc hk rfl zr71 fun a w b9 hk G => ?_)
    have k_hRx_b9 := rd_keep hRx G
    have n_b4_b9 : b4 ≠ b9 := G.ne h_b4
    have k_hRa_b9 := rdg_keep hRa G
    have k_hRb_b9 := rdg_keep hRb G
    have k_hRp_b9 := rdg_keep hRp G
    have hg_b9 : w0.heap.size ≤ b9 := Nat.le_trans hB.size G.ge
    have hRx := hRx.ext G.ext
    have hlt := blk_ext hlt G.ext
    have h_b4 := ext_at G.ext h_b4
    have hRa := hRa.ext G.ext
    have hRb := hRb.ext G.ext
    have hRp := hRp.ext G.ext
    have hlp := blk_ext hlp G.ext
    have hB := ext_trans hB G.ext
    have h_b9 := G.at_
    clear G
    refine la hk rfl (a_storeB (cs' := #[I xs.length, I 0, .slice adp 0 cp]) hk rfl rfl (by simp [Value.oneCell']) sz71 h_b9 rfl fun a w hk W => ?_)
    have hRx := k_hRx_b9 _ _ _ hRx W
    have hlt := blk_wrote hlt W
    have h_b4 := W.keep n_b4_b9 h_b4
    have hRa := k_hRa_b9 _ _ _ hRa W
    have hRb := k_hRb_b9 _ _ _ hRb W
    have hRp := k_hRp_b9 _ _ _ hRp W
    have hlp := blk_wrote hlp W
    have hB := W.below hB hg_b9
    have h_b9 := W.at_
    clear W
    refine ls hk rfl rfl rfl (e_assign hk rfl _) fun a hk => ?_
    refine lnil (hK8 _ _ ?_)
    refine wp_seq_k fun K12 hK12 => ?_
    refine wp_seq_k fun K13 hK13 => ?_
    refine wp_region_lit ?_
    refine ls hk rfl rfl rfl (e_move hk rfl _) fun a hk => ?_
    refine ls hk rfl rfl rfl (e_lenS hk rfl Tryd.underlying27 _) fun a hk => ?_
    refine ls hk rfl rfl rfl (e_eql (b := false) hk rfl rfl (decide_eq_false (by omega)) _) fun a hk => ?_
    refine lnil (hK13 _ _ ?_)
    refine cdF hk rfl ?_
    refine wp_skip (hK12 _ _ ?_)
    refine wp_seq_k fun K14 hK14 => ?_
    refine wp_region_lit ?_
    refine ls hk rfl rfl rfl (e_move hk rfl _) fun a hk => ?_
    refine ls hk rfl rfl rfl (e_eql (b := true) hk rfl rfl (by decide) _) fun a hk => ?_
    refine ls hk rfl rfl rfl (e_move hk rfl _) fun a hk => ?_
    refine ls hk rfl rfl rfl (e_field (off := 2) hk rfl Tryd.underlying71 rfl rfl nz69 _) fun a hk => ?_
    refine ls hk rfl rfl rfl (r_load hk rfl Tryd.underlying69 rfl h_b9 rfl) fun a hk => ?_
    refine ls hk rfl rfl rfl (e_lenS hk rfl Tryd.underlying69 _) fun a hk => ?_
    refine ls hk rfl rfl rfl (e_eql (b := true) hk rfl rfl (by decide) _) fun a hk => ?_
    refine ls hk rfl rfl rfl (e_pickT hk rfl rfl _) fun a hk => ?_
    refine ls hk rfl rfl rfl (e_move hk rfl _) fun a hk => ?_
    refine ls hk rfl rfl rfl (r_ld44 hk rfl h_b4 (by simp)) fun a hk => ?_
    refine ls hk rfl rfl rfl (r_loadB hk rfl h_b9 Tryd.underlying71 rfl sz71) fun a hk => ?_
    refine ls hk rfl rfl rfl (e_move hk rfl _) fun a hk => ?_
    refine la hk rfl (a_call hk rfl rfl (c_fn hk rfl ok55) (c55 (rootS xs) (by simp) xs.length 0 [] xs hL adp ad2 cp c2 _ hRp hlp (by simp) hRx hlt (hG.ext hB) ⟨by omega, by omega⟩ ⟨by decide, by decide⟩) ?_)
    rintro e w ⟨rfl, hE⟩
    refine ⟨_, rfl, fun a hk => ?_⟩
    have hRx := hRx.ext hE
    have hlt := blk_ext hlt hE
    have h_b4 := ext_at hE h_b4
    have hRa := hRa.ext hE
    have hRb := hRb.ext hE
    have hRp := hRp.ext hE
    have hlp := blk_ext hlp hE
    have h_b9 := ext_at hE h_b9
    have hB := ext_trans hB hE
    rw [check_all h0 hL1] at hk
    clear hE
    refine ls hk rfl rfl rfl (e_eql (b := true) hk rfl rfl (by decide) _) fun a hk => ?_
    refine ls hk rfl rfl rfl (e_pickT hk rfl rfl _) fun a hk => ?_
    refine ls hk rfl rfl rfl (e_move hk rfl _) fun a hk => ?_
    refine la hk rfl (a_call hk rfl rfl (c_fn (vs := []) hk rfl ok53) (c53 _ (hG.ext hB)) ?_)
    rintro e w ⟨rfl, hE⟩
    refine ⟨_, rfl, fun a hk => ?_⟩
    have hRx := hRx.ext hE
    have hlt := blk_ext hlt hE
    have h_b4 := ext_at hE h_b4
    have hRa := hRa.ext hE
    have hRb := hRb.ext hE
    have hRp := hRp.ext hE
    have hlp := blk_ext hlp hE
    have h_b9 := ext_at hE h_b9
    have hB := ext_trans hB hE
    clear hE
    refine ls hk rfl rfl rfl (e_pickT hk rfl rfl _) fun a hk => ?_
    refine ls hk rfl rfl rfl (e_assign hk rfl _) fun a hk => ?_
    refine lnil (hK14 _ _ ?_)
    refine wp_ret ?_
    first
      | exact ret1 hk rfl rfl ⟨rfl, hB⟩
      | (simp only [then_ret]; exact ret1 hk rfl rfl ⟨rfl, hB⟩)

end Go.Proofs.YtidfbboalbchiaaDoor
