/- The walk of the law of digits. -/
import Derived.Test.YtidfbboalbchiaaDoorT8
namespace Go.Proofs.YtidfbboalbchiaaDoor
open Go Go.RowKit

set_option maxRecDepth 4000 in
set_option maxHeartbeats 1000000 in
theorem c18 (d : List UInt8) (hd : d.length = 16) (w0 : World) (hG : GH w0) : Calls Tryd.prog 18 #[D d] w0 fun e w' => e = .returned (.bool true) ∧ Ext w0 w' := by
  refine start 47 Tryd.func18 rfl rfl rfl fun a hk => ?_
  have hB : Ext w0 w0 := Below.refl _ _
  refine wp_seq_k fun K1 hK1 => ?_
  refine wp_region_lit ?_
  refine la hk rfl (a_box hk rfl rfl fun a w b1 hk G => ?_)
  have hg_b1 : w0.heap.size ≤ b1 := Nat.le_trans hB.size G.ge
  have hB := ext_trans hB G.ext
  have h_b1 := G.at_
  clear G
  refine ls hk rfl rfl rfl (e_assign hk rfl _) fun a hk => ?_
  refine lnil (hK1 _ _ ?_)
  refine wp_seq_k fun K2 hK2 => ?_
  refine wp_region_lit ?_
  refine la hk rfl (a_call hk rfl rfl (c_fn (vs := []) hk rfl ok33) (c33 _ (hG.ext hB)) ?_)
  rintro e w ⟨rfl, hE⟩
  refine ⟨_, rfl, fun a hk => ?_⟩
  have h_b1 := ext_at hE h_b1
  have hB := ext_trans hB hE
  clear hE
  refine ls hk rfl rfl rfl (e_assign hk rfl _) fun a hk => ?_
  refine lnil (hK2 _ _ ?_)
  refine wp_seq_k fun K3 hK3 => ?_
  refine wp_region_lit ?_
  refine ls hk rfl rfl rfl (r_ld44 hk rfl h_b1 hd) fun a hk => ?_
  refine la hk rfl (a_call hk rfl rfl (c_fn hk rfl ok34) (c34 d hd _) ?_)
  rintro e w ⟨⟨bd, rfl, hgd, h_bd⟩, hE⟩
  refine ⟨_, rfl, fun a hk => ?_⟩
  have h_b1 := ext_at hE h_b1
  have hB := ext_trans hB hE
  clear hE
  refine ls hk rfl rfl rfl (e_assign hk rfl _) fun a hk => ?_
  refine lnil (hK3 _ _ ?_)
  refine wp_seq_k fun K4 hK4 => ?_
  refine wp_region_lit ?_
  refine ls hk rfl rfl rfl (r_ld44 hk rfl h_b1 hd) fun a hk => ?_
  refine la hk rfl (a_call hk rfl rfl (c_fn hk rfl ok60) (c60 d hd _) ?_)
  rintro e w ⟨⟨adg, cg, rfl, hRg⟩, hE⟩
  refine ⟨_, rfl, fun a hk => ?_⟩
  have h_b1 := ext_at hE h_b1
  have h_bd := ext_at hE h_bd
  have hB := ext_trans hB hE
  clear hE
  refine ls hk rfl rfl rfl (e_assign hk rfl _) fun a hk => ?_
  refine lnil (hK4 _ _ ?_)
  refine wp_seq_k fun K5 hK5 => ?_
  refine wp_seq_k fun K6 hK6 => ?_
  refine wp_region_lit ?_
  refine ls hk rfl rfl rfl (e_move hk rfl _) fun a hk => ?_
  refine ls hk rfl rfl rfl (e_lenS hk rfl Tryd.underlying45 _) fun a hk => ?_
  refine ls hk rfl rfl rfl (e_move hk rfl _) fun a hk => ?_
  refine ls hk rfl rfl rfl (e_lenS hk rfl Tryd.underlying45 _) fun a hk => ?_
  refine ls hk rfl rfl rfl (e_neq (b := false) hk rfl rfl (by simp) _) fun a hk => ?_
  refine lnil (hK6 _ _ ?_)
  refine cdF hk rfl ?_
  refine wp_skip (hK5 _ _ ?_)
  refine wp_seq_k fun K7 hK7 => ?_
  refine wp_seq_k fun K8 hK8 => ?_
  refine wp_region_lit ?_
  refine ls hk rfl rfl rfl (e_assign hk rfl _) fun a hk => ?_
  refine lnil (hK8 _ _ ?_)
  refine wp_block ?_
  refine loopN (fun n a w => ∃ i : Nat, n = 68 - i ∧ i ≤ 68 ∧ Kn a 47 [(3, .bool true), (4, .slice (some ⟨bd, 0, none⟩) 68 68), (5, .slice adg 68 cg), (6, I i)] ∧ (Ext w0 w) ∧ (w.heap[bd]? = some (.cells ((digI d).map I).toArray 105 (0, 0))) ∧ (Ri w adg 68 cg (digI d))) (68 - 0) ?_ fun n a w hI => ?_
  · exact ⟨0, rfl, by omega, hk.sub _ ⟨rfl, rfl, rfl, rfl, trivial⟩, hB, h_bd, hRg⟩
  clear hk hB h_bd hRg
  obtain ⟨i, rfl, hi_le, hk, hB, h_bd, hRg⟩ := hI
  refine wp_seq_k fun K9 hK9 => ?_
  refine wp_seq_k fun K10 hK10 => ?_
  refine wp_region_lit ?_
  refine ls hk rfl rfl rfl (e_move hk rfl _) fun a hk => ?_
  refine ls hk rfl rfl rfl (e_move hk rfl _) fun a hk => ?_
  refine ls hk rfl rfl rfl (e_lenS hk rfl Tryd.underlying45 _) fun a hk => ?_
  refine ls hk rfl rfl rfl (e_lss hk rfl rfl rfl _) fun a hk => ?_
  refine lnil (hK10 _ _ ?_)
  refine cdB hk rfl (fun hb => ?_) (fun hb => ?_)
  · have hi68 : i < 68 := by have := of_decide_eq_true hb; omega
    have hdl := dig_lt d i
    obtain ⟨bg0, og0, rfl, _⟩ := Ri.get hRg i _ (digI_get d i hi68)
    refine wp_skip (hK9 _ _ ?_)
    refine wp_seq_k fun K11 hK11 => ?_
    refine wp_block ?_
    refine wp_seq_k fun K12 hK12 => ?_
    refine wp_region_ok (fun _ => True) [0, 0, 0, 1, 0, 0, 0, 1, 0, 0, 0, 0, 0, 1, 0, 0, 0, 0, 0, 0, 1, 0, 0] mixed ?_
    have hB := hB.drew
    have h_bd := ext_at (ext_drew w) h_bd
    have hRg := hRg.ext (ext_drew w)
    refine d0 0 hk rfl (by kernel_rfl) rfl rfl rfl rfl (fun _ => e_move hk rfl _) fun a hk => ?_
    refine d0 1 hk rfl (by kernel_rfl) rfl rfl rfl rfl (fun _ => e_move hk rfl _) fun a hk => ?_
    refine d0 2 hk rfl (by kernel_rfl) rfl rfl rfl rfl (fun _ => e_idxS1 i hk rfl rfl Tryd.underlying45 sz3 rfl hi68 _) fun a hk => ?_
    refine d1 3 hk rfl (by kernel_rfl) rfl rfl rfl rfl (r_load (v := I ((dig d i : Nat) : Int)) hk rfl Tryd.underlying3 rfl h_bd (digI_arr d i hi68)) fun a hk => ?_
    refine d0 4 hk rfl (by kernel_rfl) rfl rfl rfl rfl (fun _ => e_move hk rfl _) fun a hk => ?_
    refine d0 5 hk rfl (by kernel_rfl) rfl rfl rfl rfl (fun _ => e_move hk rfl _) fun a hk => ?_
    refine d0 6 hk rfl (by kernel_rfl) rfl rfl rfl rfl (fun _ => e_idxS1 i hk rfl rfl Tryd.underlying45 sz3 rfl hi68 _) fun a hk => ?_
    refine d1 7 hk rfl (by kernel_rfl) rfl rfl rfl rfl (r_load1 (v := I ((dig d i : Nat) : Int)) hk rfl Tryd.underlying3 rfl (ri_cell hRg i _ (digI_get d i hi68))) fun a hk => ?_
    refine d0 8 hk rfl (by kernel_rfl) rfl rfl rfl rfl (fun _ => e_neq (b := false) hk rfl rfl (by simp) _) fun a hk => ?_
    refine d0 9 hk rfl (by kernel_rfl) rfl rfl rfl rfl (fun _ => e_move hk rfl _) fun a hk => ?_
    refine d0 10 hk rfl (by kernel_rfl) rfl rfl rfl rfl (fun _ => e_move hk rfl _) fun a hk => ?_
    refine d0 11 hk rfl (by kernel_rfl) rfl rfl rfl rfl (fun _ => e_move hk rfl _) fun a hk => ?_
    refine d0 12 hk rfl (by kernel_rfl) rfl rfl rfl rfl (fun _ => e_idxS1 i hk rfl rfl Tryd.underlying45 sz3 rfl hi68 _) fun a hk => ?_
    refine d1 13 hk rfl (by kernel_rfl) rfl rfl rfl rfl (r_load (v := I ((dig d i : Nat) : Int)) hk rfl Tryd.underlying3 rfl h_bd (digI_arr d i hi68)) fun a hk => ?_
    refine d0 14 hk rfl (by kernel_rfl) rfl rfl rfl rfl (fun _ => e_lss (b := false) hk rfl rfl (decide_eq_false (by omega)) _) fun a hk => ?_
    refine d0 15 hk rfl (by kernel_rfl) rfl rfl rfl rfl (fun _ => e_pickF hk rfl rfl _) fun a hk => ?_
    refine d0 16 hk rfl (by kernel_rfl) rfl rfl rfl rfl (fun _ => e_move hk rfl _) fun a hk => ?_
    refine d0 17 hk rfl (by kernel_rfl) rfl rfl rfl rfl (fun _ => e_move hk rfl _) fun a hk => ?_
    refine d0 18 hk rfl (by kernel_rfl) rfl rfl rfl rfl (fun _ => e_move hk rfl _) fun a hk => ?_
    refine d0 19 hk rfl (by kernel_rfl) rfl rfl rfl rfl (fun _ => e_idxS1 i hk rfl rfl Tryd.underlying45 sz3 rfl hi68 _) fun a hk => ?_
    refine d1 20 hk rfl (by kernel_rfl) rfl rfl rfl rfl (r_load (v := I ((dig d i : Nat) : Int)) hk rfl Tryd.underlying3 rfl h_bd (digI_arr d i hi68)) fun a hk => ?_
    refine d0 21 hk rfl (by kernel_rfl) rfl rfl rfl rfl (fun _ => e_gtr (b := false) hk rfl rfl (decide_eq_false (by omega)) _) fun a hk => ?_
    refine d0 22 hk rfl (by kernel_rfl) rfl rfl rfl rfl (fun _ => e_pickF hk rfl rfl _) fun a hk => ?_
    refine okFin (by kernel_rfl) (hK12 _ _ ?_)
    refine cdF hk rfl ?_
    refine wp_skip (hK11 _ _ ?_)
    refine wp_region_lit ?_
    refine ls hk rfl rfl rfl (e_move hk rfl _) fun a hk => ?_
    refine ls hk rfl rfl rfl (e_add (q := ((i + 1 : Nat) : Int)) hk rfl rfl (by rw [i64 (by omega) (by omega)]; omega) _) fun a hk => ?_
    refine ls hk rfl rfl rfl (e_assign hk rfl _) fun a hk => ?_
    refine lnil (show ∃ m : Nat, m < _ ∧ _ from ⟨68 - (i + 1), by omega, i + 1, rfl, by omega, hk.sub _ ⟨rfl, rfl, rfl, rfl, trivial⟩, hB, h_bd, hRg⟩)
  · refine wp_exit (hK7 _ _ ?_)
    refine wp_seq_k fun K13 hK13 => ?_
    refine wp_region_lit ?_
    refine ls hk rfl rfl rfl (e_move hk rfl _) fun a hk => ?_
    refine ls hk rfl rfl rfl (e_assign hk rfl _) fun a hk => ?_
    refine lnil (hK13 _ _ ?_)
    refine wp_ret ?_
    first
      | exact ret1 hk rfl rfl ⟨rfl, hB⟩
      | (simp only [then_ret]; exact ret1 hk rfl rfl ⟨rfl, hB⟩)

end Go.Proofs.YtidfbboalbchiaaDoor
