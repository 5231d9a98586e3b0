/- The walk of the law of what Public, Digest and Sign answer. -/
import Derived.Test.YtidfbboalbchiaaDoorT8
namespace Go.Proofs.YtidfbboalbchiaaDoor
open Go Go.RowKit

set_option maxRecDepth 4000 in
set_option maxHeartbeats 1000000 in
theorem c19 (s : List UInt8) (n₀ n₁ : Int) (hi1 : is64 n₁) (m : List UInt8) (w0 : World) (hG : GH w0) (hGR : GR w0) : Calls Tryd.prog 19 #[Str s, .agg #[I n₀, I n₁], Str m] w0 fun e w' => e = .returned (.bool true) ∧ Ext w0 w' := by
  refine start 104 Tryd.func19 rfl rfl rfl fun a hk => ?_
  have hB : Ext w0 w0 := Below.refl _ _
  refine wp_seq_k fun K1 hK1 => ?_
  refine wp_region_lit ?_
  refine la hk rfl (a_box hk rfl rfl fun a w b4 hk G => ?_)
  have hg_b4 : w0.heap.size ≤ b4 := Nat.le_trans hB.size G.ge
  have hB := ext_trans hB G.ext
  have h_b4 := G.at_
  clear G
  refine ls hk rfl rfl rfl (e_assign hk rfl _) fun a hk => ?_
  refine lnil (hK1 _ _ ?_)
  refine wp_seq_k fun K2 hK2 => ?_
  have h_b4 : w.heap[b4]? = some (.cells #[I n₀, I n₁] 66 (0, 0)) := h_b4
  refine wp_region_lit ?_
  refine la hk rfl (a_call hk rfl rfl (c_fn (vs := []) hk rfl ok33) (c33 _ (hG.ext hB)) ?_)
  rintro e w ⟨rfl, hE⟩
  refine ⟨_, rfl, fun a hk => ?_⟩
  have h_b4 := ext_at hE h_b4
  have hB := ext_trans hB hE
  clear hE
  refine ls hk rfl rfl rfl (e_assign hk rfl _) fun a hk => ?_
  refine lnil (hK2 _ _ ?_)
  refine wp_seq_k fun K3 hK3 => ?_
  refine wp_seq_k fun K4 hK4 => ?_
  rcases (by omega : s.length > 200 ∨ (s.length ≤ 200 ∧ m.length > 200) ∨ (s.length ≤ 200 ∧ m.length ≤ 200 ∧ n₀ > 2 ∧ n₀ ≤ 6) ∨ (s.length ≤ 200 ∧ m.length ≤ 200 ∧ n₀ > 2 ∧ ¬ n₀ ≤ 6) ∨ (s.length ≤ 200 ∧ m.length ≤ 200 ∧ ¬ n₀ > 2)) with hc | hc | hc | hc | hc
  · refine wp_region_lit ?_
    refine ls hk rfl rfl rfl (e_move hk rfl _) fun a hk => ?_
    refine ls hk rfl rfl rfl (e_lenStr hk rfl Tryd.underlying9 _) fun a hk => ?_
    refine ls hk rfl rfl rfl (e_gtr (b := true) hk rfl rfl (decide_eq_true (by omega)) _) fun a hk => ?_
    refine ls hk rfl rfl rfl (e_move hk rfl _) fun a hk => ?_
    refine lno hk rfl rfl rfl fun a hk => ?_
    refine lno hk rfl rfl rfl fun a hk => ?_
    refine lno hk rfl rfl rfl fun a hk => ?_
    refine ls hk rfl rfl rfl (e_pickT hk rfl rfl _) fun a hk => ?_
    refine ls hk rfl rfl rfl (e_move hk rfl _) fun a hk => ?_
    refine lno hk rfl rfl rfl fun a hk => ?_
    refine lno hk rfl rfl rfl fun a hk => ?_
    refine lno hk rfl rfl rfl fun a hk => ?_
    refine lno hk rfl rfl rfl fun a hk => ?_
    refine lno hk rfl rfl rfl fun a hk => ?_
    refine lno hk rfl rfl rfl fun a hk => ?_
    refine lno hk rfl rfl rfl fun a hk => ?_
    refine lno hk rfl rfl rfl fun a hk => ?_
    refine ls hk rfl rfl rfl (e_pickT hk rfl rfl _) fun a hk => ?_
    refine lnil (hK4 _ _ ?_)
    refine cdT hk rfl ?_
    refine wp_seq_k fun K5 hK5 => ?_
    refine wp_region_lit ?_
    refine ls hk rfl rfl rfl (e_move hk rfl _) fun a hk => ?_
    refine ls hk rfl rfl rfl (e_assign hk rfl _) fun a hk => ?_
    refine lnil (hK5 _ _ ?_)
    refine wp_ret ?_
    first
      | exact ret1 hk rfl rfl ⟨rfl, hB⟩
      | (simp only [then_ret]; exact ret1 hk rfl rfl ⟨rfl, hB⟩)
  · refine wp_region_lit ?_
    refine ls hk rfl rfl rfl (e_move hk rfl _) fun a hk => ?_
    refine ls hk rfl rfl rfl (e_lenStr hk rfl Tryd.underlying9 _) fun a hk => ?_
    refine ls hk rfl rfl rfl (e_gtr (b := false) hk rfl rfl (decide_eq_false (by omega)) _) fun a hk => ?_
    refine ls hk rfl rfl rfl (e_move hk rfl _) fun a hk => ?_
    refine ls hk rfl rfl rfl (e_move hk rfl _) fun a hk => ?_
    refine ls hk rfl rfl rfl (e_lenStr hk rfl Tryd.underlying9 _) fun a hk => ?_
    refine ls hk rfl rfl rfl (e_gtr (b := true) hk rfl rfl (decide_eq_true (by omega)) _) fun a hk => ?_
    refine ls hk rfl rfl rfl (e_pickF hk rfl rfl _) fun a hk => ?_
    refine ls hk rfl rfl rfl (e_move hk rfl _) fun a hk => ?_
    refine lno hk rfl rfl rfl fun a hk => ?_
    refine lno hk rfl rfl rfl fun a hk => ?_
    refine lno hk rfl rfl rfl fun a hk => ?_
    refine lno hk rfl rfl rfl fun a hk => ?_
    refine lno hk rfl rfl rfl fun a hk => ?_
    refine lno hk rfl rfl rfl fun a hk => ?_
    refine lno hk rfl rfl rfl fun a hk => ?_
    refine lno hk rfl rfl rfl fun a hk => ?_
    refine ls hk rfl rfl rfl (e_pickT hk rfl rfl _) fun a hk => ?_
    refine lnil (hK4 _ _ ?_)
    refine cdT hk rfl ?_
    refine wp_seq_k fun K6 hK6 => ?_
    refine wp_region_lit ?_
    refine ls hk rfl rfl rfl (e_move hk rfl _) fun a hk => ?_
    refine ls hk rfl rfl rfl (e_assign hk rfl _) fun a hk => ?_
    refine lnil (hK6 _ _ ?_)
    refine wp_ret ?_
    first
      | exact ret1 hk rfl rfl ⟨rfl, hB⟩
      | (simp only [then_ret]; exact ret1 hk rfl rfl ⟨rfl, hB⟩)
  · refine wp_region_lit ?_
    refine ls hk rfl rfl rfl (e_move hk rfl _) fun a hk => ?_
    refine ls hk rfl rfl rfl (e_lenStr hk rfl Tryd.underlying9 _) fun a hk => ?_
    refine ls hk rfl rfl rfl (e_gtr (b := false) hk rfl rfl (decide_eq_false (by omega)) _) fun a hk => ?_
    refine ls hk rfl rfl rfl (e_move hk rfl _) fun a hk => ?_
    refine ls hk rfl rfl rfl (e_move hk rfl _) fun a hk => ?_
    refine ls hk rfl rfl rfl (e_lenStr hk rfl Tryd.underlying9 _) fun a hk => ?_
    refine ls hk rfl rfl rfl (e_gtr (b := false) hk rfl rfl (decide_eq_false (by omega)) _) fun a hk => ?_
    refine ls hk rfl rfl rfl (e_pickF hk rfl rfl _) fun a hk => ?_
    refine ls hk rfl rfl rfl (e_move hk rfl _) fun a hk => ?_
    refine ls hk rfl rfl rfl (e_idxAn 0 hk rfl rfl Tryd.underlying66 sz3 rfl (by decide) _) fun a hk => ?_
    refine ls hk rfl rfl rfl (r_load hk rfl Tryd.underlying3 rfl h_b4 rfl) fun a hk => ?_
    refine ls hk rfl rfl rfl (e_gtr (b := true) hk rfl rfl (decide_eq_true (by omega)) _) fun a hk => ?_
    refine ls hk rfl rfl rfl (e_move hk rfl _) fun a hk => ?_
    refine ls hk rfl rfl rfl (e_idxAn 0 hk rfl rfl Tryd.underlying66 sz3 rfl (by decide) _) fun a hk => ?_
    refine ls hk rfl rfl rfl (r_load hk rfl Tryd.underlying3 rfl h_b4 rfl) fun a hk => ?_
    refine ls hk rfl rfl rfl (e_leq (b := true) hk rfl rfl (decide_eq_true (by omega)) _) fun a hk => ?_
    refine ls hk rfl rfl rfl (e_pickT hk rfl rfl _) fun a hk => ?_
    refine ls hk rfl rfl rfl (e_pickF hk rfl rfl _) fun a hk => ?_
    refine lnil (hK4 _ _ ?_)
    refine cdT hk rfl ?_
    refine wp_seq_k fun K7 hK7 => ?_
    refine wp_region_lit ?_
    refine ls hk rfl rfl rfl (e_move hk rfl _) fun a hk => ?_
    refine ls hk rfl rfl rfl (e_assign hk rfl _) fun a hk => ?_
    refine lnil (hK7 _ _ ?_)
    refine wp_ret ?_
    first
      | exact ret1 hk rfl rfl ⟨rfl, hB⟩
      | (simp only [then_ret]; exact ret1 hk rfl rfl ⟨rfl, hB⟩)
  · refine wp_region_lit ?_
    refine ls hk rfl rfl rfl (e_move hk rfl _) fun a hk => ?_
    refine ls hk rfl rfl rfl (e_lenStr hk rfl Tryd.underlying9 _) fun a hk => ?_
    refine ls hk rfl rfl rfl (e_gtr (b := false) hk rfl rfl (decide_eq_false (by omega)) _) fun a hk => ?_
    refine ls hk rfl rfl rfl (e_move hk rfl _) fun a hk => ?_
    refine ls hk rfl rfl rfl (e_move hk rfl _) fun a hk => ?_
    refine ls hk rfl rfl rfl (e_lenStr hk rfl Tryd.underlying9 _) fun a hk => ?_
    refine ls hk rfl rfl rfl (e_gtr (b := false) hk rfl rfl (decide_eq_false (by omega)) _) fun a hk => ?_
    refine ls hk rfl rfl rfl (e_pickF hk rfl rfl _) fun a hk => ?_
    refine ls hk rfl rfl rfl (e_move hk rfl _) fun a hk => ?_
    refine ls hk rfl rfl rfl (e_idxAn 0 hk rfl rfl Tryd.underlying66 sz3 rfl (by decide) _) fun a hk => ?_
    refine ls hk rfl rfl rfl (r_load hk rfl Tryd.underlying3 rfl h_b4 rfl) fun a hk => ?_
    refine ls hk rfl rfl rfl (e_gtr (b := true) hk rfl rfl (decide_eq_true (by omega)) _) fun a hk => ?_
    refine ls hk rfl rfl rfl (e_move hk rfl _) fun a hk => ?_
    refine ls hk rfl rfl rfl (e_idxAn 0 hk rfl rfl Tryd.underlying66 sz3 rfl (by decide) _) fun a hk => ?_
    refine ls hk rfl rfl rfl (r_load hk rfl Tryd.underlying3 rfl h_b4 rfl) fun a hk => ?_
    refine ls hk rfl rfl rfl (e_leq (b := false) hk rfl rfl (decide_eq_false (by omega)) _) fun a hk => ?_
    refine ls hk rfl rfl rfl (e_pickT hk rfl rfl _) fun a hk => ?_
    refine ls hk rfl rfl rfl (e_pickF hk rfl rfl _) fun a hk => ?_
    refine lnil (hK4 _ _ ?_)
    refine cdF hk rfl ?_
    refine wp_skip (hK3 _ _ ?_)
    refine wp_seq_k fun K8 hK8 => ?_
    refine wp_region_lit ?_
    refine ls hk rfl rfl rfl (e_move hk rfl _) fun a hk => ?_
    refine ls hk rfl rfl rfl (e_idxAn 0 hk rfl rfl Tryd.underlying66 sz3 rfl (by decide) _) fun a hk => ?_
    refine ls hk rfl rfl rfl (r_load hk rfl Tryd.underlying3 rfl h_b4 rfl) fun a hk => ?_
    obtain ⟨pr, hpr, hp16⟩ : ∃ pr, pubR s n₀ = pr ∧ pr.1.length = 16 := ⟨_, rfl, length_pubR s n₀⟩
    obtain ⟨sr, hsr⟩ : ∃ sr, sigR s n₀ n₁ m = sr := ⟨_, rfl⟩
    refine la hk rfl (a_call hk rfl rfl (c_fn hk rfl ok37) (c37 s n₀ _ (hG.ext hB) (by omega)) ?_)
    rintro e w ⟨rfl, hE⟩
    refine ⟨_, rfl, fun a hk => ?_⟩
    have h_b4 := ext_at hE h_b4
    have hB := ext_trans hB hE
    rw [hpr] at hk
    clear hE
    refine ls hk rfl rfl rfl (e_move hk rfl _) fun a hk => ?_
    refine ls hk rfl rfl rfl (e_ext hk rfl rfl _) fun a hk => ?_
    refine ls hk rfl rfl rfl (e_ext hk rfl rfl _) fun a hk => ?_
    refine la hk rfl (a_alloc hk rfl zr44 fun a w b8 hk G => ?_)
    have n_b4_b8 : b4 ≠ b8 := G.ne h_b4
    have hg_b8 : w0.heap.size ≤ b8 := Nat.le_trans hB.size G.ge
    have h_b4 := ext_at G.ext h_b4
    have hB := ext_trans hB G.ext
    have h_b8 := G.at_
    clear G
    refine la hk rfl (a_st44 (l := pr.1) hk rfl rfl hp16 h_b8 rfl fun a w hk W => ?_)
    have h_b4 := W.keep n_b4_b8 h_b4
    have hB := W.below hB hg_b8
    have h_b8 := W.at_
    clear W
    refine ls hk rfl rfl rfl (e_assign hk rfl _) fun a hk => ?_
    refine lnil (hK8 _ _ ?_)
    refine wp_seq_k fun K9 hK9 => ?_
    refine wp_region_lit ?_
    refine ls hk rfl rfl rfl (e_move hk rfl _) fun a hk => ?_
    refine ls hk rfl rfl rfl (e_idxAn 0 hk rfl rfl Tryd.underlying66 sz3 rfl (by decide) _) fun a hk => ?_
    refine ls hk rfl rfl rfl (r_load hk rfl Tryd.underlying3 rfl h_b4 rfl) fun a hk => ?_
    refine la hk rfl (a_call hk rfl rfl (c_fn hk rfl ok61) (c61 s n₀ _ (hGR.ext hB)) ?_)
    rintro e w ⟨rfl, hE⟩
    refine ⟨_, rfl, fun a hk => ?_⟩
    have h_b4 := ext_at hE h_b4
    have h_b8 := ext_at hE h_b8
    have hB := ext_trans hB hE
    rw [hpr] at hk
    clear hE
    refine ls hk rfl rfl rfl (e_move hk rfl _) fun a hk => ?_
    refine ls hk rfl rfl rfl (e_ext hk rfl rfl _) fun a hk => ?_
    refine ls hk rfl rfl rfl (e_ext hk rfl rfl _) fun a hk => ?_
    refine la hk rfl (a_alloc hk rfl zr44 fun a w b10 hk G => ?_)
    have n_b4_b10 : b4 ≠ b10 := G.ne h_b4
    have n_b8_b10 : b8 ≠ b10 := G.ne h_b8
    have hg_b10 : w0.heap.size ≤ b10 := Nat.le_trans hB.size G.ge
    have h_b4 := ext_at G.ext h_b4
    have h_b8 := ext_at G.ext h_b8
    have hB := ext_trans hB G.ext
    have h_b10 := G.at_
    clear G
    refine la hk rfl (a_st44 (l := pr.1) hk rfl rfl hp16 h_b10 rfl fun a w hk W => ?_)
    have h_b4 := W.keep n_b4_b10 h_b4
    have h_b8 := W.keep n_b8_b10 h_b8
    have hB := W.below hB hg_b10
    have h_b10 := W.at_
    clear W
    refine ls hk rfl rfl rfl (e_assign hk rfl _) fun a hk => ?_
    refine lnil (hK9 _ _ ?_)
    refine wp_seq_k fun K10 hK10 => ?_
    refine wp_region_lit ?_
    refine ls hk rfl rfl rfl (e_move hk rfl _) fun a hk => ?_
    refine ls hk rfl rfl rfl (e_idxAn 0 hk rfl rfl Tryd.underlying66 sz3 rfl (by decide) _) fun a hk => ?_
    refine ls hk rfl rfl rfl (r_load hk rfl Tryd.underlying3 rfl h_b4 rfl) fun a hk => ?_
    refine ls hk rfl rfl rfl (e_idxAn 1 hk rfl rfl Tryd.underlying66 sz3 rfl (by decide) _) fun a hk => ?_
    refine ls hk rfl rfl rfl (r_load hk rfl Tryd.underlying3 rfl h_b4 rfl) fun a hk => ?_
    refine ls hk rfl rfl rfl (e_move hk rfl _) fun a hk => ?_
    refine la hk rfl (a_call hk rfl rfl (c_fn hk rfl ok39) (c39 s n₀ n₁ hi1 m (by omega) _ (hG.ext hB)) ?_)
    rintro e w ⟨rfl, hE⟩
    refine ⟨_, rfl, fun a hk => ?_⟩
    have h_b4 := ext_at hE h_b4
    have h_b8 := ext_at hE h_b8
    have h_b10 := ext_at hE h_b10
    have hB := ext_trans hB hE
    rw [hsr] at hk
    clear hE
    refine ls hk rfl rfl rfl (e_move hk rfl _) fun a hk => ?_
    refine ls hk rfl rfl rfl (e_ext hk rfl rfl _) fun a hk => ?_
    refine ls hk rfl rfl rfl (e_ext hk rfl rfl _) fun a hk => ?_
    refine ls hk rfl rfl rfl (e_assign hk rfl _) fun a hk => ?_
    refine ls hk rfl rfl rfl (e_assign hk rfl _) fun a hk => ?_
    refine lnil (hK10 _ _ ?_)
    refine wp_seq_k fun K11 hK11 => ?_
    refine wp_region_lit ?_
    refine ls hk rfl rfl rfl (e_move hk rfl _) fun a hk => ?_
    refine ls hk rfl rfl rfl (e_idxAn 0 hk rfl rfl Tryd.underlying66 sz3 rfl (by decide) _) fun a hk => ?_
    refine ls hk rfl rfl rfl (r_load hk rfl Tryd.underlying3 rfl h_b4 rfl) fun a hk => ?_
    refine ls hk rfl rfl rfl (e_idxAn 1 hk rfl rfl Tryd.underlying66 sz3 rfl (by decide) _) fun a hk => ?_
    refine ls hk rfl rfl rfl (r_load hk rfl Tryd.underlying3 rfl h_b4 rfl) fun a hk => ?_
    refine ls hk rfl rfl rfl (e_move hk rfl _) fun a hk => ?_
    refine la hk rfl (a_call hk rfl rfl (c_fn hk rfl ok62) (c62 s n₀ n₁ hi1 m (by omega) _ (hGR.ext hB)) ?_)
    rintro e w ⟨rfl, hE⟩
    refine ⟨_, rfl, fun a hk => ?_⟩
    have h_b4 := ext_at hE h_b4
    have h_b8 := ext_at hE h_b8
    have h_b10 := ext_at hE h_b10
    have hB := ext_trans hB hE
    rw [hsr] at hk
    clear hE
    refine ls hk rfl rfl rfl (e_move hk rfl _) fun a hk => ?_
    refine ls hk rfl rfl rfl (e_ext hk rfl rfl _) fun a hk => ?_
    refine ls hk rfl rfl rfl (e_ext hk rfl rfl _) fun a hk => ?_
    refine ls hk rfl rfl rfl (e_assign hk rfl _) fun a hk => ?_
    refine ls hk rfl rfl rfl (e_assign hk rfl _) fun a hk => ?_
    refine lnil (hK11 _ _ ?_)
    refine wp_seq_k fun K12 hK12 => ?_
    refine wp_region_ok (fun w => w.heap[b8]? = some (.cells (pr.1.map B).toArray 44 (0, 0)) ∧ w.heap[b4]? = some (.cells #[I n₀, I n₁] 66 (0, 0))) [0, 0, 1, 1, 0, 0, 0, 0, 0, 0, 0, 0, 0, 0, 0, 0, 0, 0, 0, 0, 0, 0, 1, 0, 1, 0, 4, 3, 0, 3, 0, 2, 0, 0, 0] mixed ?_
    have hB := hB.drew
    have h_b4 := ext_at (ext_drew w) h_b4
    have h_b8 := ext_at (ext_drew w) h_b8
    have h_b10 := ext_at (ext_drew w) h_b10
    have hS : (fun w => w.heap[b8]? = some (.cells (pr.1.map B).toArray 44 (0, 0)) ∧ w.heap[b4]? = some (.cells #[I n₀, I n₁] 66 (0, 0))) w.drew := ⟨h_b8, h_b4⟩
    refine d0 0 hk rfl (chkN_ok (by as_aux_lemma => kernel_rfl)) rfl rfl rfl rfl (fun _ => e_move hk rfl _) fun a hk => ?_
    refine d0 1 hk rfl (chkN_ok (by as_aux_lemma => kernel_rfl)) rfl rfl rfl rfl (fun _ => e_move hk rfl _) fun a hk => ?_
    refine d1 2 hk rfl (chkN_ok (by as_aux_lemma => kernel_rfl)) rfl rfl rfl rfl (r_ld44 hk rfl h_b8 hp16) fun a hk => ?_
    refine d1 3 hk rfl (chkN_ok (by as_aux_lemma => kernel_rfl)) rfl rfl rfl rfl (r_ld44 hk rfl h_b10 hp16) fun a hk => ?_
    refine d0 4 hk rfl (chkN_ok (by as_aux_lemma => kernel_rfl)) rfl rfl rfl rfl (fun _ => e_eqA (l := pr.1) (r := pr.1) (b := true) hk rfl rfl Tryd.underlying44 Tryd.underlying5 sz5 hp16 hp16 eg44 (decide_eq_true rfl) _) fun a hk => ?_
    refine d0 5 hk rfl (chkN_ok (by as_aux_lemma => kernel_rfl)) rfl rfl rfl rfl (fun _ => e_pickT hk rfl rfl _) fun a hk => ?_
    refine d0 6 hk rfl (chkN_ok (by as_aux_lemma => kernel_rfl)) rfl rfl rfl rfl (fun _ => e_move hk rfl _) fun a hk => ?_
    refine d0 7 hk rfl (chkN_ok (by as_aux_lemma => kernel_rfl)) rfl rfl rfl rfl (fun _ => e_move hk rfl _) fun a hk => ?_
    refine d0 8 hk rfl (chkN_ok (by as_aux_lemma => kernel_rfl)) rfl rfl rfl rfl (fun _ => e_move hk rfl _) fun a hk => ?_
    refine d0 9 hk rfl (chkN_ok (by as_aux_lemma => kernel_rfl)) rfl rfl rfl rfl (fun _ => e_eql (b := true) hk rfl rfl (by simp) _) fun a hk => ?_
    refine d0 10 hk rfl (chkN_ok (by as_aux_lemma => kernel_rfl)) rfl rfl rfl rfl (fun _ => e_pickT hk rfl rfl _) fun a hk => ?_
    refine d0 11 hk rfl (chkN_ok (by as_aux_lemma => kernel_rfl)) rfl rfl rfl rfl (fun _ => e_move hk rfl _) fun a hk => ?_
    refine d0 12 hk rfl (chkN_ok (by as_aux_lemma => kernel_rfl)) rfl rfl rfl rfl (fun _ => e_move hk rfl _) fun a hk => ?_
    refine d0 13 hk rfl (chkN_ok (by as_aux_lemma => kernel_rfl)) rfl rfl rfl rfl (fun _ => e_move hk rfl _) fun a hk => ?_
    refine d0 14 hk rfl (chkN_ok (by as_aux_lemma => kernel_rfl)) rfl rfl rfl rfl (fun _ => e_seql (s := sr.1) (u := sr.1) (b := true) hk rfl rfl (decide_eq_true rfl) _) fun a hk => ?_
    refine d0 15 hk rfl (chkN_ok (by as_aux_lemma => kernel_rfl)) rfl rfl rfl rfl (fun _ => e_pickT hk rfl rfl _) fun a hk => ?_
    refine d0 16 hk rfl (chkN_ok (by as_aux_lemma => kernel_rfl)) rfl rfl rfl rfl (fun _ => e_move hk rfl _) fun a hk => ?_
    refine d0 17 hk rfl (chkN_ok (by as_aux_lemma => kernel_rfl)) rfl rfl rfl rfl (fun _ => e_move hk rfl _) fun a hk => ?_
    refine d0 18 hk rfl (chkN_ok (by as_aux_lemma => kernel_rfl)) rfl rfl rfl rfl (fun _ => e_move hk rfl _) fun a hk => ?_
    refine d0 19 hk rfl (chkN_ok (by as_aux_lemma => kernel_rfl)) rfl rfl rfl rfl (fun _ => e_eql (b := true) hk rfl rfl (by simp) _) fun a hk => ?_
    refine d0 20 hk rfl (chkN_ok (by as_aux_lemma => kernel_rfl)) rfl rfl rfl rfl (fun _ => e_pickT hk rfl rfl _) fun a hk => ?_
    refine d0 21 hk rfl (chkN_ok (by as_aux_lemma => kernel_rfl)) rfl rfl rfl rfl (fun _ => e_move hk rfl _) fun a hk => ?_
    refine d1 22 hk rfl (chkN_ok (by as_aux_lemma => kernel_rfl)) rfl rfl rfl rfl (r_ld44 hk rfl h_b8 hp16) fun a hk => ?_
    refine d0 23 hk rfl (chkN_ok (by as_aux_lemma => kernel_rfl)) rfl rfl rfl rfl (fun _ => e_idxAn 1 hk rfl rfl Tryd.underlying66 sz3 rfl (by decide) _) fun a hk => ?_
    refine d1 24 hk rfl (chkN_ok (by as_aux_lemma => kernel_rfl)) rfl rfl rfl rfl (r_load hk rfl Tryd.underlying3 rfl h_b4 rfl) fun a hk => ?_
    refine d0 25 hk rfl (chkN_ok (by as_aux_lemma => kernel_rfl)) rfl rfl rfl rfl (fun _ => e_move hk rfl _) fun a hk => ?_
    refine da4 26 hk rfl (chkN_ok (by as_aux_lemma => kernel_rfl)) rfl rfl hS (a_call hk rfl rfl (c_fn hk rfl ok63) (c63 pr.1 n₁ m _ (hG.ext hB) hp16 hi1 (by omega)) ?_)
    rintro e w ⟨rfl, hE⟩
    refine ⟨_, rfl, fun a hk => ⟨⟨ext_at hE hS.1, ext_at hE hS.2⟩, ?_⟩⟩
    have hS : (fun w => w.heap[b8]? = some (.cells (pr.1.map B).toArray 44 (0, 0)) ∧ w.heap[b4]? = some (.cells #[I n₀, I n₁] 66 (0, 0))) w := ⟨ext_at hE hS.1, ext_at hE hS.2⟩
    have h_b4 := ext_at hE h_b4
    have h_b8 := ext_at hE h_b8
    have h_b10 := ext_at hE h_b10
    have hB := ext_trans hB hE
    clear hE
    refine d3 27 hk rfl (chkN_ok (by as_aux_lemma => kernel_rfl)) rfl rfl rfl rfl hS (fun w hS => r_ld44 hk rfl hS.1 hp16) fun a hk => ?_
    refine d0 28 hk rfl (chkN_ok (by as_aux_lemma => kernel_rfl)) rfl rfl rfl rfl (fun _ => e_idxAn 1 hk rfl rfl Tryd.underlying66 sz3 rfl (by decide) _) fun a hk => ?_
    refine d3 29 hk rfl (chkN_ok (by as_aux_lemma => kernel_rfl)) rfl rfl rfl rfl hS (fun w hS => r_load hk rfl Tryd.underlying3 rfl hS.2 rfl) fun a hk => ?_
    refine d0 30 hk rfl (chkN_ok (by as_aux_lemma => kernel_rfl)) rfl rfl rfl rfl (fun _ => e_move hk rfl _) fun a hk => ?_
    refine da 31 hk rfl (chkN_ok (by as_aux_lemma => kernel_rfl)) rfl rfl (a_call hk rfl rfl (c_fn hk rfl ok64) (c64 pr.1 n₁ m _ (hGR.ext hB) hp16 hi1 (by omega)) ?_)
    rintro e w ⟨rfl, hE⟩
    refine ⟨_, rfl, fun a hk => ?_⟩
    have hS : (fun w => w.heap[b8]? = some (.cells (pr.1.map B).toArray 44 (0, 0)) ∧ w.heap[b4]? = some (.cells #[I n₀, I n₁] 66 (0, 0))) w := ⟨ext_at hE hS.1, ext_at hE hS.2⟩
    have h_b4 := ext_at hE h_b4
    have h_b8 := ext_at hE h_b8
    have h_b10 := ext_at hE h_b10
    have hB := ext_trans hB hE
    clear hE
    refine d0 32 hk rfl (chkN_ok (by as_aux_lemma => kernel_rfl)) rfl rfl rfl rfl (fun _ => e_eqA (l := digestS pr.1 n₁ m) (r := digestS pr.1 n₁ m) (b := true) hk rfl rfl Tryd.underlying44 Tryd.underlying5 sz5 (by simp) (by simp) eg44 (decide_eq_true rfl) _) fun a hk => ?_
    refine d0 33 hk rfl (chkN_ok (by as_aux_lemma => kernel_rfl)) rfl rfl rfl rfl (fun _ => e_pickT hk rfl rfl _) fun a hk => ?_
    refine d0 34 hk rfl (chkN_ok (by as_aux_lemma => kernel_rfl)) rfl rfl rfl rfl (fun _ => e_assign hk rfl _) fun a hk => ?_
    refine okFin (by as_aux_lemma => kernel_rfl) (hK12 _ _ ?_)
    refine wp_ret ?_
    first
      | exact ret1 hk rfl rfl ⟨rfl, hB⟩
      | (simp only [then_ret]; exact ret1 hk rfl rfl ⟨rfl, hB⟩)
  · refine wp_region_lit ?_
    refine ls hk rfl rfl rfl (e_move hk rfl _) fun a hk => ?_
    refine ls hk rfl rfl rfl (e_lenStr hk rfl Tryd.underlying9 _) fun a hk => ?_
    refine ls hk rfl rfl rfl (e_gtr (b := false) hk rfl rfl (decide_eq_false (by omega)) _) fun a hk => ?_
    refine ls hk rfl rfl rfl (e_move hk rfl _) fun a hk => ?_
    refine ls hk rfl rfl rfl (e_move hk rfl _) fun a hk => ?_
    refine ls hk rfl rfl rfl (e_lenStr hk rfl Tryd.underlying9 _) fun a hk => ?_
    refine ls hk rfl rfl rfl (e_gtr (b := false) hk rfl rfl (decide_eq_false (by omega)) _) fun a hk => ?_
    refine ls hk rfl rfl rfl (e_pickF hk rfl rfl _) fun a hk => ?_
    refine ls hk rfl rfl rfl (e_move hk rfl _) fun a hk => ?_
    refine ls hk rfl rfl rfl (e_idxAn 0 hk rfl rfl Tryd.underlying66 sz3 rfl (by decide) _) fun a hk => ?_
    refine ls hk rfl rfl rfl (r_load hk rfl Tryd.underlying3 rfl h_b4 rfl) fun a hk => ?_
    refine ls hk rfl rfl rfl (e_gtr (b := false) hk rfl rfl (decide_eq_false (by omega)) _) fun a hk => ?_
    refine ls hk rfl rfl rfl (e_move hk rfl _) fun a hk => ?_
    refine lno hk rfl rfl rfl fun a hk => ?_
    refine lno hk rfl rfl rfl fun a hk => ?_
    refine lno hk rfl rfl rfl fun a hk => ?_
    refine ls hk rfl rfl rfl (e_pickF hk rfl rfl _) fun a hk => ?_
    refine ls hk rfl rfl rfl (e_pickF hk rfl rfl _) fun a hk => ?_
    refine lnil (hK4 _ _ ?_)
    refine cdF hk rfl ?_
    refine wp_skip (hK3 _ _ ?_)
    refine wp_seq_k fun K13 hK13 => ?_
    refine wp_region_lit ?_
    refine ls hk rfl rfl rfl (e_move hk rfl _) fun a hk => ?_
    refine ls hk rfl rfl rfl (e_idxAn 0 hk rfl rfl Tryd.underlying66 sz3 rfl (by decide) _) fun a hk => ?_
    refine ls hk rfl rfl rfl (r_load hk rfl Tryd.underlying3 rfl h_b4 rfl) fun a hk => ?_
    obtain ⟨pr, hpr, hp16⟩ : ∃ pr, pubR s n₀ = pr ∧ pr.1.length = 16 := ⟨_, rfl, length_pubR s n₀⟩
    obtain ⟨sr, hsr⟩ : ∃ sr, sigR s n₀ n₁ m = sr := ⟨_, rfl⟩
    refine la hk rfl (a_call hk rfl rfl (c_fn hk rfl ok37) (c37 s n₀ _ (hG.ext hB) (by omega)) ?_)
    rintro e w ⟨rfl, hE⟩
    refine ⟨_, rfl, fun a hk => ?_⟩
    have h_b4 := ext_at hE h_b4
    have hB := ext_trans hB hE
    rw [hpr] at hk
    clear hE
    refine ls hk rfl rfl rfl (e_move hk rfl _) fun a hk => ?_
    refine ls hk rfl rfl rfl (e_ext hk rfl rfl _) fun a hk => ?_
    refine ls hk rfl rfl rfl (e_ext hk rfl rfl _) fun a hk => ?_
    refine la hk rfl (a_alloc hk rfl zr44 fun a w b8 hk G => ?_)
    have n_b4_b8 : b4 ≠ b8 := G.ne h_b4
    have hg_b8 : w0.heap.size ≤ b8 := Nat.le_trans hB.size G.ge
    have h_b4 := ext_at G.ext h_b4
    have hB := ext_trans hB G.ext
    have h_b8 := G.at_
    clear G
    refine la hk rfl (a_st44 (l := pr.1) hk rfl rfl hp16 h_b8 rfl fun a w hk W => ?_)
    have h_b4 := W.keep n_b4_b8 h_b4
    have hB := W.below hB hg_b8
    have h_b8 := W.at_
    clear W
    refine ls hk rfl rfl rfl (e_assign hk rfl _) fun a hk => ?_
    refine lnil (hK13 _ _ ?_)
    refine wp_seq_k fun K14 hK14 => ?_
    refine wp_region_lit ?_
    refine ls hk rfl rfl rfl (e_move hk rfl _) fun a hk => ?_
    refine ls hk rfl rfl rfl (e_idxAn 0 hk rfl rfl Tryd.underlying66 sz3 rfl (by decide) _) fun a hk => ?_
    refine ls hk rfl rfl rfl (r_load hk rfl Tryd.underlying3 rfl h_b4 rfl) fun a hk => ?_
    refine la hk rfl (a_call hk rfl rfl (c_fn hk rfl ok61) (c61 s n₀ _ (hGR.ext hB)) ?_)
    rintro e w ⟨rfl, hE⟩
    refine ⟨_, rfl, fun a hk => ?_⟩
    have h_b4 := ext_at hE h_b4
    have h_b8 := ext_at hE h_b8
    have hB := ext_trans hB hE
    rw [hpr] at hk
    clear hE
    refine ls hk rfl rfl rfl (e_move hk rfl _) fun a hk => ?_
    refine ls hk rfl rfl rfl (e_ext hk rfl rfl _) fun a hk => ?_
    refine ls hk rfl rfl rfl (e_ext hk rfl rfl _) fun a hk => ?_
    refine la hk rfl (a_alloc hk rfl zr44 fun a w b10 hk G => ?_)
    have n_b4_b10 : b4 ≠ b10 := G.ne h_b4
    have n_b8_b10 : b8 ≠ b10 := G.ne h_b8
    have hg_b10 : w0.heap.size ≤ b10 := Nat.le_trans hB.size G.ge
    have h_b4 := ext_at G.ext h_b4
    have h_b8 := ext_at G.ext h_b8
    have hB := ext_trans hB G.ext
    have h_b10 := G.at_
    clear G
    refine la hk rfl (a_st44 (l := pr.1) hk rfl rfl hp16 h_b10 rfl fun a w hk W => ?_)
    have h_b4 := W.keep n_b4_b10 h_b4
    have h_b8 := W.keep n_b8_b10 h_b8
    have hB := W.below hB hg_b10
    have h_b10 := W.at_
    clear W
    refine ls hk rfl rfl rfl (e_assign hk rfl _) fun a hk => ?_
    refine lnil (hK14 _ _ ?_)
    refine wp_seq_k fun K15 hK15 => ?_
    refine wp_region_lit ?_
    refine ls hk rfl rfl rfl (e_move hk rfl _) fun a hk => ?_
    refine ls hk rfl rfl rfl (e_idxAn 0 hk rfl rfl Tryd.underlying66 sz3 rfl (by decide) _) fun a hk => ?_
    refine ls hk rfl rfl rfl (r_load hk rfl Tryd.underlying3 rfl h_b4 rfl) fun a hk => ?_
    refine ls hk rfl rfl rfl (e_idxAn 1 hk rfl rfl Tryd.underlying66 sz3 rfl (by decide) _) fun a hk => ?_
    refine ls hk rfl rfl rfl (r_load hk rfl Tryd.underlying3 rfl h_b4 rfl) fun a hk => ?_
    refine ls hk rfl rfl rfl (e_move hk rfl _) fun a hk => ?_
    refine la hk rfl (a_call hk rfl rfl (c_fn hk rfl ok39) (c39 s n₀ n₁ hi1 m (by omega) _ (hG.ext hB)) ?_)
    rintro e w ⟨rfl, hE⟩
    refine ⟨_, rfl, fun a hk => ?_⟩
    have h_b4 := ext_at hE h_b4
    have h_b8 := ext_at hE h_b8
    have h_b10 := ext_at hE h_b10
    have hB := ext_trans hB hE
    rw [hsr] at hk
    clear hE
    refine ls hk rfl rfl rfl (e_move hk rfl _) fun a hk => ?_
    refine ls hk rfl rfl rfl (e_ext hk rfl rfl _) fun a hk => ?_
    refine ls hk rfl rfl rfl (e_ext hk rfl rfl _) fun a hk => ?_
    refine ls hk rfl rfl rfl (e_assign hk rfl _) fun a hk => ?_
    refine ls hk rfl rfl rfl (e_assign hk rfl _) fun a hk => ?_
    refine lnil (hK15 _ _ ?_)
    refine wp_seq_k fun K16 hK16 => ?_
    refine wp_region_lit ?_
    refine ls hk rfl rfl rfl (e_move hk rfl _) fun a hk => ?_
    refine ls hk rfl rfl rfl (e_idxAn 0 hk rfl rfl Tryd.underlying66 sz3 rfl (by decide) _) fun a hk => ?_
    refine ls hk rfl rfl rfl (r_load hk rfl Tryd.underlying3 rfl h_b4 rfl) fun a hk => ?_
    refine ls hk rfl rfl rfl (e_idxAn 1 hk rfl rfl Tryd.underlying66 sz3 rfl (by decide) _) fun a hk => ?_
    refine ls hk rfl rfl rfl (r_load hk rfl Tryd.underlying3 rfl h_b4 rfl) fun a hk => ?_
    refine ls hk rfl rfl rfl (e_move hk rfl _) fun a hk => ?_
    refine la hk rfl (a_call hk rfl rfl (c_fn hk rfl ok62) (c62 s n₀ n₁ hi1 m (by omega) _ (hGR.ext hB)) ?_)
    rintro e w ⟨rfl, hE⟩
    refine ⟨_, rfl, fun a hk => ?_⟩
    have h_b4 := ext_at hE h_b4
    have h_b8 := ext_at hE h_b8
    have h_b10 := ext_at hE h_b10
    have hB := ext_trans hB hE
    rw [hsr] at hk
    clear hE
    refine ls hk rfl rfl rfl (e_move hk rfl _) fun a hk => ?_
    refine ls hk rfl rfl rfl (e_ext hk rfl rfl _) fun a hk => ?_
    refine ls hk rfl rfl rfl (e_ext hk rfl rfl _) fun a hk => ?_
    refine ls hk rfl rfl rfl (e_assign hk rfl _) fun a hk => ?_
    refine ls hk rfl rfl rfl (e_assign hk rfl _) fun a hk => ?_
    refine lnil (hK16 _ _ ?_)
    refine wp_seq_k fun K17 hK17 => ?_
    refine wp_region_ok (fun w => w.heap[b8]? = some (.cells (pr.1.map B).toArray 44 (0, 0)) ∧ w.heap[b4]? = some (.cells #[I n₀, I n₁] 66 (0, 0))) [0, 0, 1, 1, 0, 0, 0, 0, 0, 0, 0, 0, 0, 0, 0, 0, 0, 0, 0, 0, 0, 0, 1, 0, 1, 0, 4, 3, 0, 3, 0, 2, 0, 0, 0] mixed ?_
    have hB := hB.drew
    have h_b4 := ext_at (ext_drew w) h_b4
    have h_b8 := ext_at (ext_drew w) h_b8
    have h_b10 := ext_at (ext_drew w) h_b10
    have hS : (fun w => w.heap[b8]? = some (.cells (pr.1.map B).toArray 44 (0, 0)) ∧ w.heap[b4]? = some (.cells #[I n₀, I n₁] 66 (0, 0))) w.drew := ⟨h_b8, h_b4⟩
    refine d0 0 hk rfl (chkN_ok (by as_aux_lemma => kernel_rfl)) rfl rfl rfl rfl (fun _ => e_move hk rfl _) fun a hk => ?_
    refine d0 1 hk rfl (chkN_ok (by as_aux_lemma => kernel_rfl)) rfl rfl rfl rfl (fun _ => e_move hk rfl _) fun a hk => ?_
    refine d1 2 hk rfl (chkN_ok (by as_aux_lemma => kernel_rfl)) rfl rfl rfl rfl (r_ld44 hk rfl h_b8 hp16) fun a hk => ?_
    refine d1 3 hk rfl (chkN_ok (by as_aux_lemma => kernel_rfl)) rfl rfl rfl rfl (r_ld44 hk rfl h_b10 hp16) fun a hk => ?_
    refine d0 4 hk rfl (chkN_ok (by as_aux_lemma => kernel_rfl)) rfl rfl rfl rfl (fun _ => e_eqA (l := pr.1) (r := pr.1) (b := true) hk rfl rfl Tryd.underlying44 Tryd.underlying5 sz5 hp16 hp16 eg44 (decide_eq_true rfl) _) fun a hk => ?_
    refine d0 5 hk rfl (chkN_ok (by as_aux_lemma => kernel_rfl)) rfl rfl rfl rfl (fun _ => e_pickT hk rfl rfl _) fun a hk => ?_
    refine d0 6 hk rfl (chkN_ok (by as_aux_lemma => kernel_rfl)) rfl rfl rfl rfl (fun _ => e_move hk rfl _) fun a hk => ?_
    refine d0 7 hk rfl (chkN_ok (by as_aux_lemma => kernel_rfl)) rfl rfl rfl rfl (fun _ => e_move hk rfl _) fun a hk => ?_
    refine d0 8 hk rfl (chkN_ok (by as_aux_lemma => kernel_rfl)) rfl rfl rfl rfl (fun _ => e_move hk rfl _) fun a hk => ?_
    refine d0 9 hk rfl (chkN_ok (by as_aux_lemma => kernel_rfl)) rfl rfl rfl rfl (fun _ => e_eql (b := true) hk rfl rfl (by simp) _) fun a hk => ?_
    refine d0 10 hk rfl (chkN_ok (by as_aux_lemma => kernel_rfl)) rfl rfl rfl rfl (fun _ => e_pickT hk rfl rfl _) fun a hk => ?_
    refine d0 11 hk rfl (chkN_ok (by as_aux_lemma => kernel_rfl)) rfl rfl rfl rfl (fun _ => e_move hk rfl _) fun a hk => ?_
    refine d0 12 hk rfl (chkN_ok (by as_aux_lemma => kernel_rfl)) rfl rfl rfl rfl (fun _ => e_move hk rfl _) fun a hk => ?_
    refine d0 13 hk rfl (chkN_ok (by as_aux_lemma => kernel_rfl)) rfl rfl rfl rfl (fun _ => e_move hk rfl _) fun a hk => ?_
    refine d0 14 hk rfl (chkN_ok (by as_aux_lemma => kernel_rfl)) rfl rfl rfl rfl (fun _ => e_seql (s := sr.1) (u := sr.1) (b := true) hk rfl rfl (decide_eq_true rfl) _) fun a hk => ?_
    refine d0 15 hk rfl (chkN_ok (by as_aux_lemma => kernel_rfl)) rfl rfl rfl rfl (fun _ => e_pickT hk rfl rfl _) fun a hk => ?_
    refine d0 16 hk rfl (chkN_ok (by as_aux_lemma => kernel_rfl)) rfl rfl rfl rfl (fun _ => e_move hk rfl _) fun a hk => ?_
    refine d0 17 hk rfl (chkN_ok (by as_aux_lemma => kernel_rfl)) rfl rfl rfl rfl (fun _ => e_move hk rfl _) fun a hk => ?_
    refine d0 18 hk rfl (chkN_ok (by as_aux_lemma => kernel_rfl)) rfl rfl rfl rfl (fun _ => e_move hk rfl _) fun a hk => ?_
    refine d0 19 hk rfl (chkN_ok (by as_aux_lemma => kernel_rfl)) rfl rfl rfl rfl (fun _ => e_eql (b := true) hk rfl rfl (by simp) _) fun a hk => ?_
    refine d0 20 hk rfl (chkN_ok (by as_aux_lemma => kernel_rfl)) rfl rfl rfl rfl (fun _ => e_pickT hk rfl rfl _) fun a hk => ?_
    refine d0 21 hk rfl (chkN_ok (by as_aux_lemma => kernel_rfl)) rfl rfl rfl rfl (fun _ => e_move hk rfl _) fun a hk => ?_
    refine d1 22 hk rfl (chkN_ok (by as_aux_lemma => kernel_rfl)) rfl rfl rfl rfl (r_ld44 hk rfl h_b8 hp16) fun a hk => ?_
    refine d0 23 hk rfl (chkN_ok (by as_aux_lemma => kernel_rfl)) rfl rfl rfl rfl (fun _ => e_idxAn 1 hk rfl rfl Tryd.underlying66 sz3 rfl (by decide) _) fun a hk => ?_
    refine d1 24 hk rfl (chkN_ok (by as_aux_lemma => kernel_rfl)) rfl rfl rfl rfl (r_load hk rfl Tryd.underlying3 rfl h_b4 rfl) fun a hk => ?_
    refine d0 25 hk rfl (chkN_ok (by as_aux_lemma => kernel_rfl)) rfl rfl rfl rfl (fun _ => e_move hk rfl _) fun a hk => ?_
    refine da4 26 hk rfl (chkN_ok (by as_aux_lemma => kernel_rfl)) rfl rfl hS (a_call hk rfl rfl (c_fn hk rfl ok63) (c63 pr.1 n₁ m _ (hG.ext hB) hp16 hi1 (by omega)) ?_)
    rintro e w ⟨rfl, hE⟩
    refine ⟨_, rfl, fun a hk => ⟨⟨ext_at hE hS.1, ext_at hE hS.2⟩, ?_⟩⟩
    have hS : (fun w => w.heap[b8]? = some (.cells (pr.1.map B).toArray 44 (0, 0)) ∧ w.heap[b4]? = some (.cells #[I n₀, I n₁] 66 (0, 0))) w := ⟨ext_at hE hS.1, ext_at hE hS.2⟩
    have h_b4 := ext_at hE h_b4
    have h_b8 := ext_at hE h_b8
    have h_b10 := ext_at hE h_b10
    have hB := ext_trans hB hE
    clear hE
    refine d3 27 hk rfl (chkN_ok (by as_aux_lemma => kernel_rfl)) rfl rfl rfl rfl hS (fun w hS => r_ld44 hk rfl hS.1 hp16) fun a hk => ?_
    refine d0 28 hk rfl (chkN_ok (by as_aux_lemma => kernel_rfl)) rfl rfl rfl rfl (fun _ => e_idxAn 1 hk rfl rfl Tryd.underlying66 sz3 rfl (by decide) _) fun a hk => ?_
    refine d3 29 hk rfl (chkN_ok (by as_aux_lemma => kernel_rfl)) rfl rfl rfl rfl hS (fun w hS => r_load hk rfl Tryd.underlying3 rfl hS.2 rfl) fun a hk => ?_
    refine d0 30 hk rfl (chkN_ok (by as_aux_lemma => kernel_rfl)) rfl rfl rfl rfl (fun _ => e_move hk rfl _) fun a hk => ?_
    refine da 31 hk rfl (chkN_ok (by as_aux_lemma => kernel_rfl)) rfl rfl (a_call hk rfl rfl (c_fn hk rfl ok64) (c64 pr.1 n₁ m _ (hGR.ext hB) hp16 hi1 (by omega)) ?_)
    rintro e w ⟨rfl, hE⟩
    refine ⟨_, rfl, fun a hk => ?_⟩
    have hS : (fun w => w.heap[b8]? = some (.cells (pr.1.map B).toArray 44 (0, 0)) ∧ w.heap[b4]? = some (.cells #[I n₀, I n₁] 66 (0, 0))) w := ⟨ext_at hE hS.1, ext_at hE hS.2⟩
    have h_b4 := ext_at hE h_b4
    have h_b8 := ext_at hE h_b8
    have h_b10 := ext_at hE h_b10
    have hB := ext_trans hB hE
    clear hE
    refine d0 32 hk rfl (chkN_ok (by as_aux_lemma => kernel_rfl)) rfl rfl rfl rfl (fun _ => e_eqA (l := digestS pr.1 n₁ m) (r := digestS pr.1 n₁ m) (b := true) hk rfl rfl Tryd.underlying44 Tryd.underlying5 sz5 (by simp) (by simp) eg44 (decide_eq_true rfl) _) fun a hk => ?_
    refine d0 33 hk rfl (chkN_ok (by as_aux_lemma => kernel_rfl)) rfl rfl rfl rfl (fun _ => e_pickT hk rfl rfl _) fun a hk => ?_
    refine d0 34 hk rfl (chkN_ok (by as_aux_lemma => kernel_rfl)) rfl rfl rfl rfl (fun _ => e_assign hk rfl _) fun a hk => ?_
    refine okFin (by as_aux_lemma => kernel_rfl) (hK17 _ _ ?_)
    refine wp_ret ?_
    first
      | exact ret1 hk rfl rfl ⟨rfl, hB⟩
      | (simp only [then_ret]; exact ret1 hk rfl rfl ⟨rfl, hB⟩)

end Go.Proofs.YtidfbboalbchiaaDoor
