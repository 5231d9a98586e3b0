/- The walk of the law of the sum. -/
import Derived.Test.YtidfbboalbchiaaDoorA15
namespace Go.Proofs.YtidfbboalbchiaaDoor
open Go Go.RowKit

set_option maxRecDepth 4000 in
set_option maxHeartbeats 1000000 in
theorem c3 (m : List UInt8) (ad : Option Addr) (c : Nat) (w0 : World) (hR : Rd w0 ad m.length c 1 (m.map B)) (hG : GH w0) (hGR : GR w0) : Calls Tryd.prog 3 #[.slice ad m.length c] w0 fun e w' => e = .returned (.bool true) ∧ Ext w0 w' := by
  rcases (by omega : m.length > 1000 ∨ m.length ≤ 1000) with hc | hc
  · refine start 29 Tryd.func3 rfl rfl rfl fun a hk => ?_
    refine wp_seq_k fun K1 hK1 => ?_
    refine wp_region_lit ?_
    refine ls hk rfl rfl rfl (e_assign hk rfl _) fun a hk => ?_
    refine lnil (hK1 _ _ ?_)
    refine wp_seq_k fun K2 hK2 => ?_
    have hB : Ext w0 w0 := Below.refl _ _
    refine wp_region_lit ?_
    refine la hk rfl (a_call hk rfl rfl (c_fn (vs := []) hk rfl ok22) (c22 _ (hG.ext hB)) ?_)
    rintro e w ⟨rfl, hE⟩
    refine ⟨_, rfl, fun a hk => ?_⟩
    have hB := ext_trans hB hE
    refine ls hk rfl rfl rfl (e_assign hk rfl _) fun a hk => ?_
    refine lnil (hK2 _ _ ?_)
    refine wp_seq_k fun K3 hK3 => ?_
    refine wp_seq_k fun K4 hK4 => ?_
    refine wp_region_lit ?_
    refine ls hk rfl rfl rfl (e_move hk rfl _) fun a hk => ?_
    refine ls hk rfl rfl rfl (e_lenS hk rfl Tryd.underlying22 _) fun a hk => ?_
    refine ls hk rfl rfl rfl (e_gtr (b := true) hk rfl rfl (decide_eq_true (by omega)) _) fun a hk => ?_
    refine lnil (hK4 _ _ ?_)
    refine cdT hk rfl ?_
    refine wp_seq_k fun K5 hK5 => ?_
    refine wp_region_lit ?_
    refine ls hk rfl rfl rfl (e_move hk rfl _) fun a hk => ?_
    refine ls hk rfl rfl rfl (e_assign hk rfl _) fun a hk => ?_
    refine lnil (hK5 _ _ ?_)
    refine wp_ret ?_
    simp only [then_ret]
    exact ret1 hk rfl rfl ⟨rfl, hB⟩
  · refine start 29 Tryd.func3 rfl rfl rfl fun a hk => ?_
    refine wp_seq_k fun K1 hK1 => ?_
    refine wp_region_lit ?_
    refine ls hk rfl rfl rfl (e_assign hk rfl _) fun a hk => ?_
    refine lnil (hK1 _ _ ?_)
    refine wp_seq_k fun K2 hK2 => ?_
    have hB : Ext w0 w0 := Below.refl _ _
    refine wp_region_lit ?_
    refine la hk rfl (a_call hk rfl rfl (c_fn (vs := []) hk rfl ok22) (c22 _ (hG.ext hB)) ?_)
    rintro e w ⟨rfl, hE⟩
    refine ⟨_, rfl, fun a hk => ?_⟩
    have hB := ext_trans hB hE
    refine ls hk rfl rfl rfl (e_assign hk rfl _) fun a hk => ?_
    refine lnil (hK2 _ _ ?_)
    refine wp_seq_k fun K3 hK3 => ?_
    refine wp_seq_k fun K4 hK4 => ?_
    refine wp_region_lit ?_
    refine ls hk rfl rfl rfl (e_move hk rfl _) fun a hk => ?_
    refine ls hk rfl rfl rfl (e_lenS hk rfl Tryd.underlying22 _) fun a hk => ?_
    refine ls hk rfl rfl rfl (e_gtr (b := false) hk rfl rfl (decide_eq_false (by omega)) _) fun a hk => ?_
    refine lnil (hK4 _ _ ?_)
    refine cdF hk rfl ?_
    refine wp_skip (hK3 _ _ ?_)
    refine wp_seq_k fun K5 hK5 => ?_
    refine wp_region_lit ?_
    refine ls hk rfl rfl rfl (e_move hk rfl _) fun a hk => ?_
    refine ls hk rfl rfl rfl (e_str hk rfl (hR.ext hB) Tryd.underlying22 Tryd.underlying5 Tryd.underlying9) fun a hk => ?_
    refine ls hk rfl rfl rfl (e_assign hk rfl _) fun a hk => ?_
    refine lnil (hK5 _ _ ?_)
    refine wp_seq_k fun K6 hK6 => ?_
    refine wp_region_lit ?_
    refine ls hk rfl rfl rfl (e_move hk rfl _) fun a hk => ?_
    refine la hk rfl (a_call hk rfl rfl (c_fn hk rfl ok23) (c23 m _ _ _ _ (hR.ext hB) (hG.ext hB) (by omega)) ?_)
    rintro e w ⟨rfl, hE⟩
    refine ⟨_, rfl, fun a hk => ?_⟩
    have hB := ext_trans hB hE
    refine la hk rfl (a_alloc hk rfl zr24 fun a w b5 hk G5 => ?_)
    refine la hk rfl (a_storeB hk rfl rfl (bytes_oneA _) (by rw [sz24]; simp [length_sha]) G5.at_ (by simp [length_sha, Value.cells]) fun a w hk W1 => ?_)
    have hB := W1.below (ext_trans hB G5.ext) (Nat.le_trans hB.size G5.ge)
    have h5 := W1.at_
    clear W1 G5 hE
    refine lnil (hK6 _ _ ?_)
    refine wp_seq_k fun K7 hK7 => ?_
    refine wp_region_ok (fun w => w.heap[b5]? = some (.cells ((sha m).map B).toArray 24 (0, 0))) [0, 0, 3, 0, 4, 4, 0, 0, 0, 0, 1, 0, 0, 0, 0] mixed ?_
    have hB := hB.drew
    have hS := ext_at (ext_drew w) h5
    refine d0 0 hk rfl (by kernel_rfl) rfl rfl rfl rfl (fun _ => e_move hk rfl _) fun a hk => ?_
    refine d0 1 hk rfl (by kernel_rfl) rfl rfl rfl rfl (fun _ => e_move hk rfl _) fun a hk => ?_
    refine d3 2 hk rfl (by kernel_rfl) rfl rfl rfl rfl hS (fun w hS => r_loadB hk rfl hS Tryd.underlying24 rfl (by rw [sz24]; simp [length_sha])) fun a hk => ?_
    refine d0 3 hk rfl (by kernel_rfl) rfl rfl rfl rfl (fun _ => e_move hk rfl _) fun a hk => ?_
    refine da4 4 hk rfl (by kernel_rfl) rfl rfl hS (a_bytes hk rfl rfl Tryd.underlying9 Tryd.underlying22 Tryd.underlying5 fun a w bb cc hk hgb hE hRb => ⟨ext_at hE hS, ?_⟩)
    have hS := ext_at hE hS
    have hB := ext_trans hB hE
    refine da4 5 hk rfl (by kernel_rfl) rfl rfl hS (a_call hk rfl rfl (c_fn hk rfl ok24) (c24 m _ _ _ hRb (hGR.ext hB) (by omega)) ?_)
    rintro e w ⟨rfl, hE⟩
    refine ⟨_, rfl, fun a hk => ⟨ext_at hE hS, ?_⟩⟩
    have hB := ext_trans hB hE
    refine d0 6 hk rfl (by kernel_rfl) rfl rfl rfl rfl (fun _ => e_eqA (l := sha m) (r := sha m) (b := true) hk rfl rfl Tryd.underlying24 Tryd.underlying5 sz5 (length_sha _) (length_sha _) eg24 (decide_eq_true rfl) _) fun a hk => ?_
    refine d0 7 hk rfl (by kernel_rfl) rfl rfl rfl rfl (fun _ => e_pickT hk rfl rfl _) fun a hk => ?_
    refine d0 8 hk rfl (by kernel_rfl) rfl rfl rfl rfl (fun _ => e_move hk rfl _) fun a hk => ?_
    refine d0 9 hk rfl (by kernel_rfl) rfl rfl rfl rfl (fun _ => e_move hk rfl _) fun a hk => ?_
    refine d1 10 hk rfl (by kernel_rfl) rfl rfl rfl rfl (e_str hk rfl (hR.ext hB) Tryd.underlying22 Tryd.underlying5 Tryd.underlying9) fun a hk => ?_
    refine d0 11 hk rfl (by kernel_rfl) rfl rfl rfl rfl (fun _ => e_move hk rfl _) fun a hk => ?_
    refine d0 12 hk rfl (by kernel_rfl) rfl rfl rfl rfl (fun _ => e_seql (s := m) (u := m) (b := true) hk rfl rfl (decide_eq_true rfl) _) fun a hk => ?_
    refine d0 13 hk rfl (by kernel_rfl) rfl rfl rfl rfl (fun _ => e_pickT hk rfl rfl _) fun a hk => ?_
    refine d0 14 hk rfl (by kernel_rfl) rfl rfl rfl rfl (fun _ => e_assign hk rfl _) fun a hk => ?_
    refine okFin (by kernel_rfl) (hK7 _ _ ?_)
    refine wp_ret ?_
    exact ret1 hk rfl rfl ⟨rfl, hB⟩

end Go.Proofs.YtidfbboalbchiaaDoor
