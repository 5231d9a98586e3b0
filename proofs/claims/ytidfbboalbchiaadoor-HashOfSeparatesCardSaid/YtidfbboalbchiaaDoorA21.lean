/- The walk of the law of digests. -/
import Derived.Test.YtidfbboalbchiaaDoorA20
namespace Go.Proofs.YtidfbboalbchiaaDoor
open Go Go.RowKit

theorem and255 (n : Int) : IntKind.i64.wrap ((BitVec.ofInt IntKind.i64.bits n &&& BitVec.ofInt IntKind.i64.bits 255).toNat : Int) = n % 256 := by
  have e : (BitVec.ofInt IntKind.i64.bits n &&& BitVec.ofInt IntKind.i64.bits 255).toNat = (n % 256).toNat := by
    show (BitVec.ofInt 64 n &&& BitVec.ofInt 64 255).toNat = _
    rw [BitVec.toNat_and, BitVec.toNat_ofInt, BitVec.toNat_ofInt, show ((255 : Int) % (2 ^ 64 : Nat)).toNat = 2 ^ 8 - 1 by decide, Nat.and_two_pow_sub_one_eq_mod]
    omega
  rw [e, i64 (by omega) (by omega)]; omega
theorem byteOf_mod (n : Int) : byteOf (n % 256) = byteOf n := by unfold byteOf; rw [Int.emod_emod_of_dvd n (Int.dvd_refl 256)]
theorem ofIn_mod (n : Int) (ps : List (List UInt8)) : ofIn (n % 256) ps = ofIn n ps := by rw [ofIn, byteOf_mod]; rfl

set_option maxRecDepth 4000 in
set_option maxHeartbeats 1000000 in
theorem c8 (n₀ : Int) (ps : List (List UInt8)) (ad : Option Addr) (c : Nat) (w0 : World) (hR : Rs w0 ad ps.length c ps) (hn : ps.length ≤ 9223372036854775807) (hG : GH w0) (hGR : GR w0) : Calls Tryd.prog 8 #[I n₀, .slice ad ps.length c] w0 fun e w' => e = .returned (.bool true) ∧ Ext w0 w' := by
  cases hf : few ps
  · refine start 31 Tryd.func8 rfl rfl rfl fun a hk => ?_
    have hB : Ext w0 w0 := Below.refl _ _
    refine wp_seq_k fun K1 hK1 => ?_
    refine wp_region_lit ?_
    refine ls hk rfl rfl rfl (e_assign hk rfl _) fun a hk => ?_
    refine lnil (hK1 _ _ ?_)
    refine wp_seq_k fun K2 hK2 => ?_
    refine wp_region_lit ?_
    refine la hk rfl (a_call hk rfl rfl (c_fn (vs := []) hk rfl ok22) (c22 _ (hG.ext hB)) ?_)
    rintro e w ⟨rfl, hE⟩
    refine ⟨_, rfl, fun a hk => ?_⟩
    have hB := ext_trans hB hE
    clear hE
    refine ls hk rfl rfl rfl (e_assign hk rfl _) fun a hk => ?_
    refine lnil (hK2 _ _ ?_)
    refine wp_seq_k fun K3 hK3 => ?_
    refine wp_seq_k fun K4 hK4 => ?_
    refine wp_region_lit ?_
    refine ls hk rfl rfl rfl (e_move hk rfl _) fun a hk => ?_
    refine la hk rfl (a_call hk rfl rfl (c_fn hk rfl ok25) (c25 ps ad c _ (Rd.ext hR hB) (by omega)) ?_)
    rintro e w ⟨rfl, hE⟩
    refine ⟨_, rfl, fun a hk => ?_⟩
    have hB := ext_trans hB hE
    rw [hf] at hk
    clear hE
    refine ls hk rfl rfl rfl (e_not hk rfl _) fun a hk => ?_
    refine lnil (hK4 _ _ ?_)
    refine cdT hk rfl ?_
    refine wp_seq_k fun K5 hK5 => ?_
    refine wp_region_lit ?_
    refine ls hk rfl rfl rfl (e_move hk rfl _) fun a hk => ?_
    refine ls hk rfl rfl rfl (e_assign hk rfl _) fun a hk => ?_
    refine lnil (hK5 _ _ ?_)
    refine wp_ret ?_
    simp only [then_ret]
    exact ret1 hk rfl rfl ⟨rfl, hB⟩
  · have ⟨h12, hall⟩ := (few_iff ps).1 hf
    refine start 31 Tryd.func8 rfl rfl rfl fun a hk => ?_
    have hB : Ext w0 w0 := Below.refl _ _
    refine wp_seq_k fun K1 hK1 => ?_
    refine wp_region_lit ?_
    refine ls hk rfl rfl rfl (e_assign hk rfl _) fun a hk => ?_
    refine lnil (hK1 _ _ ?_)
    refine wp_seq_k fun K2 hK2 => ?_
    refine wp_region_lit ?_
    refine la hk rfl (a_call hk rfl rfl (c_fn (vs := []) hk rfl ok22) (c22 _ (hG.ext hB)) ?_)
    rintro e w ⟨rfl, hE⟩
    refine ⟨_, rfl, fun a hk => ?_⟩
    have hB := ext_trans hB hE
    clear hE
    refine ls hk rfl rfl rfl (e_assign hk rfl _) fun a hk => ?_
    refine lnil (hK2 _ _ ?_)
    refine wp_seq_k fun K3 hK3 => ?_
    refine wp_seq_k fun K4 hK4 => ?_
    refine wp_region_lit ?_
    refine ls hk rfl rfl rfl (e_move hk rfl _) fun a hk => ?_
    refine la hk rfl (a_call hk rfl rfl (c_fn hk rfl ok25) (c25 ps ad c _ (Rd.ext hR hB) (by omega)) ?_)
    rintro e w ⟨rfl, hE⟩
    refine ⟨_, rfl, fun a hk => ?_⟩
    have hB := ext_trans hB hE
    rw [hf] at hk
    clear hE
    refine ls hk rfl rfl rfl (e_not hk rfl _) fun a hk => ?_
    refine lnil (hK4 _ _ ?_)
    refine cdF hk rfl ?_
    refine wp_skip (hK3 _ _ ?_)
    refine wp_seq_k fun K5 hK5 => ?_
    refine wp_region_lit ?_
    refine ls hk rfl rfl rfl (e_move hk rfl _) fun a hk => ?_
    refine ls hk rfl rfl rfl (e_move hk rfl _) fun a hk => ?_
    refine la hk rfl (a_call hk rfl rfl (c_fn hk rfl ok35) (c35 n₀ ps ad c _ (Rd.ext hR hB) (hG.ext hB) (by omega) (fun x hx => by have := hall x hx; omega)) ?_)
    rintro e w ⟨rfl, hE⟩
    refine ⟨_, rfl, fun a hk => ?_⟩
    have hB := ext_trans hB hE
    clear hE
    refine la hk rfl (a_alloc hk rfl zr44 fun a w b6 hk G => ?_)
    have hg_b6 : w0.heap.size ≤ b6 := Nat.le_trans hB.size G.ge
    have hB := ext_trans hB G.ext
    have h_b6 := G.at_
    clear G
    refine la hk rfl (a_st44 (l := ofD n₀ ps) hk rfl rfl (by simp) h_b6 rfl fun a w hk W => ?_)
    have hB := W.below hB hg_b6
    have h_b6 := W.at_
    clear W
    refine lnil (hK5 _ _ ?_)
    refine wp_seq_k fun K6 hK6 => ?_
    refine wp_region_ok (fun w => w.heap[b6]? = some (.cells ((ofD n₀ ps).map B).toArray 44 (0, 0))) [0, 0, 3, 0, 0, 4, 0, 0, 0, 3, 0, 0, 0, 4, 0, 0, 0] mixed ?_
    have hB := hB.drew
    have h_b6 := ext_at (ext_drew w) h_b6
    have hS : (fun w => w.heap[b6]? = some (.cells ((ofD n₀ ps).map B).toArray 44 (0, 0))) w.drew := h_b6
    refine d0 0 hk rfl (by kernel_rfl) rfl rfl rfl rfl (fun _ => e_move hk rfl _) fun a hk => ?_
    refine d0 1 hk rfl (by kernel_rfl) rfl rfl rfl rfl (fun _ => e_move hk rfl _) fun a hk => ?_
    refine d3 2 hk rfl (by kernel_rfl) rfl rfl rfl rfl hS (fun w hS => r_ld44 hk rfl hS (by simp)) fun a hk => ?_
    refine d0 3 hk rfl (by kernel_rfl) rfl rfl rfl rfl (fun _ => e_move hk rfl _) fun a hk => ?_
    refine d0 4 hk rfl (by kernel_rfl) rfl rfl rfl rfl (fun _ => e_move hk rfl _) fun a hk => ?_
    refine da4 5 hk rfl (by kernel_rfl) rfl rfl hS (a_call hk rfl rfl (c_fn hk rfl ok36) (c36 n₀ ps ad c _ (Rd.ext hR hB) (hGR.ext hB) (by omega) (fun x hx => by have := hall x hx; omega)) ?_)
    rintro e w ⟨rfl, hE⟩
    refine ⟨_, rfl, fun a hk => ⟨ext_at hE hS, ?_⟩⟩
    have hS := ext_at hE hS
    have h_b6 := ext_at hE h_b6
    have hB := ext_trans hB hE
    clear hE
    refine d0 6 hk rfl (by kernel_rfl) rfl rfl rfl rfl (fun _ => e_eqA (l := ofD n₀ ps) (r := ofD n₀ ps) (b := true) hk rfl rfl Tryd.underlying44 Tryd.underlying5 sz5 (by simp) (by simp) eg44 (decide_eq_true rfl) _) fun a hk => ?_
    refine d0 7 hk rfl (by kernel_rfl) rfl rfl rfl rfl (fun _ => e_pickT hk rfl rfl _) fun a hk => ?_
    refine d0 8 hk rfl (by kernel_rfl) rfl rfl rfl rfl (fun _ => e_move hk rfl _) fun a hk => ?_
    refine d3 9 hk rfl (by kernel_rfl) rfl rfl rfl rfl hS (fun w hS => r_ld44 hk rfl hS (by simp)) fun a hk => ?_
    refine d0 10 hk rfl (by kernel_rfl) rfl rfl rfl rfl (fun _ => e_move hk rfl _) fun a hk => ?_
    refine d0 11 hk rfl (by kernel_rfl) rfl rfl rfl rfl (fun _ => e_and hk rfl rfl (and255 n₀) _) fun a hk => ?_
    refine d0 12 hk rfl (by kernel_rfl) rfl rfl rfl rfl (fun _ => e_move hk rfl _) fun a hk => ?_
    refine da4 13 hk rfl (by kernel_rfl) rfl rfl hS (a_call hk rfl rfl (c_fn hk rfl ok35) (c35 (n₀ % 256) ps ad c _ (Rd.ext hR hB) (hG.ext hB) (by omega) (fun x hx => by have := hall x hx; omega)) ?_)
    rintro e w ⟨rfl, hE⟩
    refine ⟨_, rfl, fun a hk => ⟨ext_at hE hS, ?_⟩⟩
    have hS := ext_at hE hS
    have h_b6 := ext_at hE h_b6
    have hB := ext_trans hB hE
    rw [ofIn_mod] at hk
    clear hE
    refine d0 14 hk rfl (by kernel_rfl) rfl rfl rfl rfl (fun _ => e_eqA (l := ofD n₀ ps) (r := ofD n₀ ps) (b := true) hk rfl rfl Tryd.underlying44 Tryd.underlying5 sz5 (by simp) (by simp) eg44 (decide_eq_true rfl) _) fun a hk => ?_
    refine d0 15 hk rfl (by kernel_rfl) rfl rfl rfl rfl (fun _ => e_pickT hk rfl rfl _) fun a hk => ?_
    refine d0 16 hk rfl (by kernel_rfl) rfl rfl rfl rfl (fun _ => e_assign hk rfl _) fun a hk => ?_
    refine okFin (by kernel_rfl) (hK6 _ _ ?_)
    refine wp_ret ?_
    exact ret1 hk rfl rfl ⟨rfl, hB⟩

end Go.Proofs.YtidfbboalbchiaaDoor
