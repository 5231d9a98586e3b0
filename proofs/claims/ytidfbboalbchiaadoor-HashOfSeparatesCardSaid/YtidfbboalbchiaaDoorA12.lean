/- The walk of the law of the codes' keys. -/
import Derived.Test.YtidfbboalbchiaaDoorA11
namespace Go.Proofs.YtidfbboalbchiaaDoor
open Go Go.RowKit

theorem length_mac (k t : List UInt8) : (mac k t).length = 32 := length_sha _
theorem mac_long (k t : List UInt8) (h : k.length > 64) : mac (sha k) t = mac k t := by
  have e : ∀ x, key64 (sha k) x = key64 k x := fun x => by
    unfold key64
    rw [if_pos h, if_neg (by rw [length_sha]; decide)]
  unfold mac
  rw [e, e]
theorem mac_pad (k t : List UInt8) (h : k.length < 64) : mac (k ++ [0]) t = mac k t := by
  have e : ∀ x, key64 (k ++ [0]) x = key64 k x := fun x => by
    unfold key64
    rw [if_neg (by simp; omega), if_neg (by omega), List.length_append, List.append_assoc]
    congr 2
    rw [show 64 - k.length = (64 - (k.length + [(0 : UInt8)].length)) + 1 by simp; omega, List.replicate_succ]
    rfl
  unfold mac
  rw [e, e]

set_option maxRecDepth 4000 in
set_option maxHeartbeats 1000000 in
theorem c6 (s t : List UInt8) (w0 : World) (hG : GH w0) : Calls Tryd.prog 6 #[Str s, Str t] w0 fun e w' => e = .returned (.bool true) ∧ Ext w0 w' := by
  rcases (by omega : s.length > 400 ∨ (s.length ≤ 400 ∧ t.length > 400) ∨ (s.length ≤ 400 ∧ s.length > 64 ∧ t.length ≤ 400) ∨ (s.length < 64 ∧ t.length ≤ 400) ∨ (s.length = 64 ∧ t.length ≤ 400)) with hc | hc | hc | hc | hc
  · refine start 54 Tryd.func6 rfl rfl rfl fun a hk => ?_
    refine wp_seq_k fun K1 hK1 => ?_
    refine wp_region_lit ?_
    refine ls hk rfl rfl rfl (e_assign hk rfl _) fun a hk => ?_
    refine lnil (hK1 _ _ ?_)
    refine wp_seq_k fun K2 hK2 => ?_
    have hB : Ext w0 w0 := Below.refl _ _
    refine wp_region_lit ?_
    refine la hk rfl (a_call hk rfl rfl (c_fn (vs := []) hk rfl ok22) (c22 _ (hG.ext hB)) ?_)
    rintro e w ⟨rfl, hE⟩
    refine ⟨_, rfl, fun a hk => ?_⟩
    have hB := ext_trans hB hE
    refine ls hk rfl rfl rfl (e_assign hk rfl _) fun a hk => ?_
    refine lnil (hK2 _ _ ?_)
    refine wp_seq_k fun K3 hK3 => ?_
    refine wp_seq_k fun K4 hK4 => ?_
    refine wp_region_lit ?_
    refine ls hk rfl rfl rfl (e_move hk rfl _) fun a hk => ?_
    refine ls hk rfl rfl rfl (e_lenStr hk rfl Tryd.underlying9 _) fun a hk => ?_
    refine ls hk rfl rfl rfl (e_gtr (b := true) hk rfl rfl (decide_eq_true (by omega)) _) fun a hk => ?_
    refine ls hk rfl rfl rfl (e_move hk rfl _) fun a hk => ?_
    refine lno hk rfl rfl rfl fun a hk => ?_
    refine lno hk rfl rfl rfl fun a hk => ?_
    refine lno hk rfl rfl rfl fun a hk => ?_
    refine ls hk rfl rfl rfl (e_pickT hk rfl rfl _) fun a hk => ?_
    refine lnil (hK4 _ _ ?_)
    refine cdT hk rfl ?_
    refine wp_seq_k fun K5 hK5 => ?_
    refine wp_region_lit ?_
    refine ls hk rfl rfl rfl (e_move hk rfl _) fun a hk => ?_
    refine ls hk rfl rfl rfl (e_assign hk rfl _) fun a hk => ?_
    refine lnil (hK5 _ _ ?_)
    refine wp_ret ?_
    simp only [then_ret]
    exact ret1 hk rfl rfl ⟨rfl, hB⟩
  · refine start 54 Tryd.func6 rfl rfl rfl fun a hk => ?_
    refine wp_seq_k fun K1 hK1 => ?_
    refine wp_region_lit ?_
    refine ls hk rfl rfl rfl (e_assign hk rfl _) fun a hk => ?_
    refine lnil (hK1 _ _ ?_)
    refine wp_seq_k fun K2 hK2 => ?_
    have hB : Ext w0 w0 := Below.refl _ _
    refine wp_region_lit ?_
    refine la hk rfl (a_call hk rfl rfl (c_fn (vs := []) hk rfl ok22) (c22 _ (hG.ext hB)) ?_)
    rintro e w ⟨rfl, hE⟩
    refine ⟨_, rfl, fun a hk => ?_⟩
    have hB := ext_trans hB hE
    refine ls hk rfl rfl rfl (e_assign hk rfl _) fun a hk => ?_
    refine lnil (hK2 _ _ ?_)
    refine wp_seq_k fun K3 hK3 => ?_
    refine wp_seq_k fun K4 hK4 => ?_
    refine wp_region_lit ?_
    refine ls hk rfl rfl rfl (e_move hk rfl _) fun a hk => ?_
    refine ls hk rfl rfl rfl (e_lenStr hk rfl Tryd.underlying9 _) fun a hk => ?_
    refine ls hk rfl rfl rfl (e_gtr (b := false) hk rfl rfl (decide_eq_false (by omega)) _) fun a hk => ?_
    refine ls hk rfl rfl rfl (e_move hk rfl _) fun a hk => ?_
    refine ls hk rfl rfl rfl (e_move hk rfl _) fun a hk => ?_
    refine ls hk rfl rfl rfl (e_lenStr hk rfl Tryd.underlying9 _) fun a hk => ?_
    refine ls hk rfl rfl rfl (e_gtr (b := true) hk rfl rfl (decide_eq_true (by omega)) _) fun a hk => ?_
    refine ls hk rfl rfl rfl (e_pickF hk rfl rfl _) fun a hk => ?_
    refine lnil (hK4 _ _ ?_)
    refine cdT hk rfl ?_
    refine wp_seq_k fun K5 hK5 => ?_
    refine wp_region_lit ?_
    refine ls hk rfl rfl rfl (e_move hk rfl _) fun a hk => ?_
    refine ls hk rfl rfl rfl (e_assign hk rfl _) fun a hk => ?_
    refine lnil (hK5 _ _ ?_)
    refine wp_ret ?_
    simp only [then_ret]
    exact ret1 hk rfl rfl ⟨rfl, hB⟩
  · refine start 54 Tryd.func6 rfl rfl rfl fun a hk => ?_
    refine wp_seq_k fun K1 hK1 => ?_
    refine wp_region_lit ?_
    refine ls hk rfl rfl rfl (e_assign hk rfl _) fun a hk => ?_
    refine lnil (hK1 _ _ ?_)
    refine wp_seq_k fun K2 hK2 => ?_
    have hB : Ext w0 w0 := Below.refl _ _
    refine wp_region_lit ?_
    refine la hk rfl (a_call hk rfl rfl (c_fn (vs := []) hk rfl ok22) (c22 _ (hG.ext hB)) ?_)
    rintro e w ⟨rfl, hE⟩
    refine ⟨_, rfl, fun a hk => ?_⟩
    have hB := ext_trans hB hE
    refine ls hk rfl rfl rfl (e_assign hk rfl _) fun a hk => ?_
    refine lnil (hK2 _ _ ?_)
    refine wp_seq_k fun K3 hK3 => ?_
    refine wp_seq_k fun K4 hK4 => ?_
    refine wp_region_lit ?_
    refine ls hk rfl rfl rfl (e_move hk rfl _) fun a hk => ?_
    refine ls hk rfl rfl rfl (e_lenStr hk rfl Tryd.underlying9 _) fun a hk => ?_
    refine ls hk rfl rfl rfl (e_gtr (b := false) hk rfl rfl (decide_eq_false (by omega)) _) fun a hk => ?_
    refine ls hk rfl rfl rfl (e_move hk rfl _) fun a hk => ?_
    refine ls hk rfl rfl rfl (e_move hk rfl _) fun a hk => ?_
    refine ls hk rfl rfl rfl (e_lenStr hk rfl Tryd.underlying9 _) fun a hk => ?_
    refine ls hk rfl rfl rfl (e_gtr (b := false) hk rfl rfl (decide_eq_false (by omega)) _) fun a hk => ?_
    refine ls hk rfl rfl rfl (e_pickF hk rfl rfl _) fun a hk => ?_
    refine lnil (hK4 _ _ ?_)
    refine cdF hk rfl ?_
    refine wp_skip (hK3 _ _ ?_)
    refine wp_seq_k fun K5 hK5 => ?_
    refine wp_region_lit ?_
    refine ls hk rfl rfl rfl (e_move hk rfl _) fun a hk => ?_
    refine ls hk rfl rfl rfl (e_move hk rfl _) fun a hk => ?_
    refine la hk rfl (a_call hk rfl rfl (c_fn hk rfl ok30) (c30 s t _ (hG.ext hB) (by omega) (by omega)) ?_)
    rintro e w ⟨rfl, hE⟩
    refine ⟨_, rfl, fun a hk => ?_⟩
    have hB := ext_trans hB hE
    refine ls hk rfl rfl rfl (e_assign hk rfl _) fun a hk => ?_
    refine lnil (hK5 _ _ ?_)
    refine wp_seq_k fun K6 hK6 => ?_
    refine wp_seq_k fun K7 hK7 => ?_
    refine wp_region_lit ?_
    refine ls hk rfl rfl rfl (e_move hk rfl _) fun a hk => ?_
    refine ls hk rfl rfl rfl (e_lenStr hk rfl Tryd.underlying9 _) fun a hk => ?_
    refine ls hk rfl rfl rfl (e_gtr (b := true) hk rfl rfl (decide_eq_true (by omega)) _) fun a hk => ?_
    refine lnil (hK7 _ _ ?_)
    refine cdT hk rfl ?_
    refine wp_seq_k fun K8 hK8 => ?_
    refine wp_region_lit ?_
    refine ls hk rfl rfl rfl (e_move hk rfl _) fun a hk => ?_
    refine la hk rfl (a_bytes hk rfl rfl Tryd.underlying9 Tryd.underlying22 Tryd.underlying5 fun a w bb cc hk hgb hE hRb => ?_)
    have hB := ext_trans hB hE
    refine la hk rfl (a_call hk rfl rfl (c_fn hk rfl ok23) (c23 s _ _ _ _ hRb (hG.ext hB) (by omega)) ?_)
    rintro e w ⟨rfl, hE⟩
    refine ⟨_, rfl, fun a hk => ?_⟩
    have hB := ext_trans hB hE
    refine la hk rfl (a_call hk rfl rfl (c_fn hk rfl ok32) (c32 (sha s) _ (length_sha _)) ?_)
    rintro e w ⟨rfl, hE⟩
    refine ⟨_, rfl, fun a hk => ?_⟩
    have hB := ext_trans hB hE
    refine ls hk rfl rfl rfl (e_assign hk rfl _) fun a hk => ?_
    refine lnil (hK8 _ _ ?_)
    refine wp_seq_k fun K9 hK9 => ?_
    refine wp_region_lit ?_
    refine ls hk rfl rfl rfl (e_move hk rfl _) fun a hk => ?_
    refine ls hk rfl rfl rfl (e_move hk rfl _) fun a hk => ?_
    refine ls hk rfl rfl rfl (e_move hk rfl _) fun a hk => ?_
    refine ls hk rfl rfl rfl (e_move hk rfl _) fun a hk => ?_
    refine ls hk rfl rfl rfl (e_move hk rfl _) fun a hk => ?_
    refine la hk rfl (a_call hk rfl rfl (c_fn hk rfl ok30) (c30 (sha s) t _ (hG.ext hB) (by rw [length_sha]; decide) (by omega)) ?_)
    rintro e w ⟨rfl, hE⟩
    refine ⟨_, rfl, fun a hk => ?_⟩
    have hB := ext_trans hB hE
    refine ls hk rfl rfl rfl (e_seql (b := true) hk rfl rfl (decide_eq_true (mac_long s t (by omega)).symm) _) fun a hk => ?_
    refine ls hk rfl rfl rfl (e_pickT hk rfl rfl _) fun a hk => ?_
    refine ls hk rfl rfl rfl (e_assign hk rfl _) fun a hk => ?_
    refine lnil (hK9 _ _ ?_)
    refine wp_ret ?_
    simp only [then_ret]
    exact ret1 hk rfl rfl ⟨rfl, hB⟩
  · refine start 54 Tryd.func6 rfl rfl rfl fun a hk => ?_
    refine wp_seq_k fun K1 hK1 => ?_
    refine wp_region_lit ?_
    refine ls hk rfl rfl rfl (e_assign hk rfl _) fun a hk => ?_
    refine lnil (hK1 _ _ ?_)
    refine wp_seq_k fun K2 hK2 => ?_
    have hB : Ext w0 w0 := Below.refl _ _
    refine wp_region_lit ?_
    refine la hk rfl (a_call hk rfl rfl (c_fn (vs := []) hk rfl ok22) (c22 _ (hG.ext hB)) ?_)
    rintro e w ⟨rfl, hE⟩
    refine ⟨_, rfl, fun a hk => ?_⟩
    have hB := ext_trans hB hE
    refine ls hk rfl rfl rfl (e_assign hk rfl _) fun a hk => ?_
    refine lnil (hK2 _ _ ?_)
    refine wp_seq_k fun K3 hK3 => ?_
    refine wp_seq_k fun K4 hK4 => ?_
    refine wp_region_lit ?_
    refine ls hk rfl rfl rfl (e_move hk rfl _) fun a hk => ?_
    refine ls hk rfl rfl rfl (e_lenStr hk rfl Tryd.underlying9 _) fun a hk => ?_
    refine ls hk rfl rfl rfl (e_gtr (b := false) hk rfl rfl (decide_eq_false (by omega)) _) fun a hk => ?_
    refine ls hk rfl rfl rfl (e_move hk rfl _) fun a hk => ?_
    refine ls hk rfl rfl rfl (e_move hk rfl _) fun a hk => ?_
    refine ls hk rfl rfl rfl (e_lenStr hk rfl Tryd.underlying9 _) fun a hk => ?_
    refine ls hk rfl rfl rfl (e_gtr (b := false) hk rfl rfl (decide_eq_false (by omega)) _) fun a hk => ?_
    refine ls hk rfl rfl rfl (e_pickF hk rfl rfl _) fun a hk => ?_
    refine lnil (hK4 _ _ ?_)
    refine cdF hk rfl ?_
    refine wp_skip (hK3 _ _ ?_)
    refine wp_seq_k fun K5 hK5 => ?_
    refine wp_region_lit ?_
    refine ls hk rfl rfl rfl (e_move hk rfl _) fun a hk => ?_
    refine ls hk rfl rfl rfl (e_move hk rfl _) fun a hk => ?_
    refine la hk rfl (a_call hk rfl rfl (c_fn hk rfl ok30) (c30 s t _ (hG.ext hB) (by omega) (by omega)) ?_)
    rintro e w ⟨rfl, hE⟩
    refine ⟨_, rfl, fun a hk => ?_⟩
    have hB := ext_trans hB hE
    refine ls hk rfl rfl rfl (e_assign hk rfl _) fun a hk => ?_
    refine lnil (hK5 _ _ ?_)
    refine wp_seq_k fun K6 hK6 => ?_
    refine wp_seq_k fun K7 hK7 => ?_
    refine wp_region_lit ?_
    refine ls hk rfl rfl rfl (e_move hk rfl _) fun a hk => ?_
    refine ls hk rfl rfl rfl (e_lenStr hk rfl Tryd.underlying9 _) fun a hk => ?_
    refine ls hk rfl rfl rfl (e_gtr (b := false) hk rfl rfl (decide_eq_false (by omega)) _) fun a hk => ?_
    refine lnil (hK7 _ _ ?_)
    refine cdF hk rfl ?_
    refine wp_skip (hK6 _ _ ?_)
    refine wp_seq_k fun K8 hK8 => ?_
    refine wp_seq_k fun K9 hK9 => ?_
    refine wp_region_lit ?_
    refine ls hk rfl rfl rfl (e_move hk rfl _) fun a hk => ?_
    refine ls hk rfl rfl rfl (e_lenStr hk rfl Tryd.underlying9 _) fun a hk => ?_
    refine ls hk rfl rfl rfl (e_lss (b := true) hk rfl rfl (decide_eq_true (by omega)) _) fun a hk => ?_
    refine lnil (hK9 _ _ ?_)
    refine cdT hk rfl ?_
    refine wp_seq_k fun K10 hK10 => ?_
    refine wp_region_lit ?_
    refine ls hk rfl rfl rfl (e_move hk rfl _) fun a hk => ?_
    refine ls hk rfl rfl rfl (e_move hk rfl _) fun a hk => ?_
    refine ls hk rfl rfl rfl (e_move hk rfl _) fun a hk => ?_
    refine ls hk rfl rfl rfl (e_move hk rfl _) fun a hk => ?_
    refine ls hk rfl rfl rfl (e_sadd (s := s) (u := [0]) hk rfl rfl (by simp; omega) _) fun a hk => ?_
    refine ls hk rfl rfl rfl (e_move hk rfl _) fun a hk => ?_
    refine la hk rfl (a_call hk rfl rfl (c_fn hk rfl ok30) (c30 (s ++ [0]) t _ (hG.ext hB) (by simp; omega) (by omega)) ?_)
    rintro e w ⟨rfl, hE⟩
    refine ⟨_, rfl, fun a hk => ?_⟩
    have hB := ext_trans hB hE
    refine ls hk rfl rfl rfl (e_seql (b := true) hk rfl rfl (decide_eq_true (mac_pad s t (by omega)).symm) _) fun a hk => ?_
    refine ls hk rfl rfl rfl (e_pickT hk rfl rfl _) fun a hk => ?_
    refine ls hk rfl rfl rfl (e_assign hk rfl _) fun a hk => ?_
    refine lnil (hK10 _ _ ?_)
    refine wp_ret ?_
    simp only [then_ret]
    exact ret1 hk rfl rfl ⟨rfl, hB⟩
  · refine start 54 Tryd.func6 rfl rfl rfl fun a hk => ?_
    refine wp_seq_k fun K1 hK1 => ?_
    refine wp_region_lit ?_
    refine ls hk rfl rfl rfl (e_assign hk rfl _) fun a hk => ?_
    refine lnil (hK1 _ _ ?_)
    refine wp_seq_k fun K2 hK2 => ?_
    have hB : Ext w0 w0 := Below.refl _ _
    refine wp_region_lit ?_
    refine la hk rfl (a_call hk rfl rfl (c_fn (vs := []) hk rfl ok22) (c22 _ (hG.ext hB)) ?_)
    rintro e w ⟨rfl, hE⟩
    refine ⟨_, rfl, fun a hk => ?_⟩
    have hB := ext_trans hB hE
    refine ls hk rfl rfl rfl (e_assign hk rfl _) fun a hk => ?_
    refine lnil (hK2 _ _ ?_)
    refine wp_seq_k fun K3 hK3 => ?_
    refine wp_seq_k fun K4 hK4 => ?_
    refine wp_region_lit ?_
    refine ls hk rfl rfl rfl (e_move hk rfl _) fun a hk => ?_
    refine ls hk rfl rfl rfl (e_lenStr hk rfl Tryd.underlying9 _) fun a hk => ?_
    refine ls hk rfl rfl rfl (e_gtr (b := false) hk rfl rfl (decide_eq_false (by omega)) _) fun a hk => ?_
    refine ls hk rfl rfl rfl (e_move hk rfl _) fun a hk => ?_
    refine ls hk rfl rfl rfl (e_move hk rfl _) fun a hk => ?_
    refine ls hk rfl rfl rfl (e_lenStr hk rfl Tryd.underlying9 _) fun a hk => ?_
    refine ls hk rfl rfl rfl (e_gtr (b := false) hk rfl rfl (decide_eq_false (by omega)) _) fun a hk => ?_
    refine ls hk rfl rfl rfl (e_pickF hk rfl rfl _) fun a hk => ?_
    refine lnil (hK4 _ _ ?_)
    refine cdF hk rfl ?_
    refine wp_skip (hK3 _ _ ?_)
    refine wp_seq_k fun K5 hK5 => ?_
    refine wp_region_lit ?_
    refine ls hk rfl rfl rfl (e_move hk rfl _) fun a hk => ?_
    refine ls hk rfl rfl rfl (e_move hk rfl _) fun a hk => ?_
    refine la hk rfl (a_call hk rfl rfl (c_fn hk rfl ok30) (c30 s t _ (hG.ext hB) (by omega) (by omega)) ?_)
    rintro e w ⟨rfl, hE⟩
    refine ⟨_, rfl, fun a hk => ?_⟩
    have hB := ext_trans hB hE
    refine ls hk rfl rfl rfl (e_assign hk rfl _) fun a hk => ?_
    refine lnil (hK5 _ _ ?_)
    refine wp_seq_k fun K6 hK6 => ?_
    refine wp_seq_k fun K7 hK7 => ?_
    refine wp_region_lit ?_
    refine ls hk rfl rfl rfl (e_move hk rfl _) fun a hk => ?_
    refine ls hk rfl rfl rfl (e_lenStr hk rfl Tryd.underlying9 _) fun a hk => ?_
    refine ls hk rfl rfl rfl (e_gtr (b := false) hk rfl rfl (decide_eq_false (by omega)) _) fun a hk => ?_
    refine lnil (hK7 _ _ ?_)
    refine cdF hk rfl ?_
    refine wp_skip (hK6 _ _ ?_)
    refine wp_seq_k fun K8 hK8 => ?_
    refine wp_seq_k fun K9 hK9 => ?_
    refine wp_region_lit ?_
    refine ls hk rfl rfl rfl (e_move hk rfl _) fun a hk => ?_
    refine ls hk rfl rfl rfl (e_lenStr hk rfl Tryd.underlying9 _) fun a hk => ?_
    refine ls hk rfl rfl rfl (e_lss (b := false) hk rfl rfl (decide_eq_false (by omega)) _) fun a hk => ?_
    refine lnil (hK9 _ _ ?_)
    refine cdF hk rfl ?_
    refine wp_skip (hK8 _ _ ?_)
    refine wp_seq_k fun K10 hK10 => ?_
    refine wp_region_lit ?_
    refine ls hk rfl rfl rfl (e_move hk rfl _) fun a hk => ?_
    refine ls hk rfl rfl rfl (e_move hk rfl _) fun a hk => ?_
    refine ls hk rfl rfl rfl (e_move hk rfl _) fun a hk => ?_
    refine ls hk rfl rfl rfl (e_lenStr hk rfl Tryd.underlying9 _) fun a hk => ?_
    refine ls hk rfl rfl rfl (e_eql (b := true) hk rfl rfl (decide_eq_true (by rw [length_mac]; rfl)) _) fun a hk => ?_
    refine ls hk rfl rfl rfl (e_pickT hk rfl rfl _) fun a hk => ?_
    refine ls hk rfl rfl rfl (e_assign hk rfl _) fun a hk => ?_
    refine lnil (hK10 _ _ ?_)
    refine wp_ret ?_
    exact ret1 hk rfl rfl ⟨rfl, hB⟩

end Go.Proofs.YtidfbboalbchiaaDoor
