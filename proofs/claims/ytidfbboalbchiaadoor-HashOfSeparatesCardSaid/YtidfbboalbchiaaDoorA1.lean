/- The walks of package math/bits and of hash: rotations. No conditions beyond those of each theorem. -/
import Derived.Test.YtidfbboalbchiaaDoorFacts
import Derived.Test.YtidfbboalbchiaaDoorWord
import Derived.Test.YtidfbboalbchiaaDoorSha
namespace Go.Proofs.YtidfbboalbchiaaDoor
open Go Go.RowKit

/-- A word, rotated right. -/

theorem rot_amount : ∀ n : Fin 32, 0 < n.val → IntKind.u64.wrap ((BitVec.ofInt IntKind.u64.bits (IntKind.u64.wrap (-(n.val : Int))) &&& BitVec.ofInt IntKind.u64.bits 31).toNat : Int) = (((32 - n.val : Nat)) : Int) := by decide +kernel
theorem n0 (i : Nat) (h : i < 32) : IntKind.i64.wrap (0 - (i : Int)) = -(i : Int) := by rw [i64 (by omega) (by omega)]; omega

theorem c132 (x : UInt32) (k : Int) (n : Nat) (hn : k = -(n : Int)) (h0 : 0 < n) (h1 : n < 32) (w : World) :
    Calls Tryd.prog 132 #[W x, I k] w fun e w' => e = .returned (W (rotr x n)) ∧ w' = w := by
  have hs := rot_amount ⟨n, h1⟩ h0
  simp only [← hn] at hs
  refine start 17 Tryd.func132 rfl rfl rfl fun a hk => ?_
  refine wp_seq_k fun K1 hK1 => ?_
  refine wp_region_lit ?_
  refine ls hk rfl rfl rfl (e_assign hk rfl _) fun a hk => ?_
  refine lnil (hK1 _ _ ?_)
  refine wp_seq_k fun K2 hK2 => ?_
  refine wp_region_lit ?_
  refine ls hk rfl rfl rfl (e_move hk rfl _) fun a hk => ?_
  refine ls hk rfl rfl rfl (e_conv hk rfl Tryd.underlying3 Tryd.underlying89 rfl _) fun a hk => ?_
  refine ls hk rfl rfl rfl (e_and hk rfl rfl hs _) fun a hk => ?_
  refine ls hk rfl rfl rfl (e_assign hk rfl _) fun a hk => ?_
  refine lnil (hK2 _ _ ?_)
  refine wp_seq_k fun K3 hK3 => ?_
  refine wp_region_lit ?_
  refine ls hk rfl rfl rfl (e_move hk rfl _) fun a hk => ?_
  refine ls hk rfl rfl rfl (e_move hk rfl _) fun a hk => ?_
  refine ls hk rfl rfl rfl (e_shl hk rfl rfl (by omega) (w_shl _ _ (by omega)) _) fun a hk => ?_
  refine ls hk rfl rfl rfl (e_move hk rfl _) fun a hk => ?_
  refine ls hk rfl rfl rfl (e_move hk rfl _) fun a hk => ?_
  refine ls hk rfl rfl rfl (e_sub hk rfl rfl (u64 (by omega) (by omega)) _) fun a hk => ?_
  refine ls hk rfl rfl rfl (e_shr hk rfl rfl (by omega) (w_shr _ _ (by omega)) _) fun a hk => ?_
  refine ls hk rfl rfl rfl (e_or hk rfl rfl (w_or _ _) _) fun a hk => ?_
  refine ls hk rfl rfl rfl (e_assign hk rfl _) fun a hk => ?_
  refine lnil (hK3 _ _ ?_)
  refine wp_ret ?_
  refine ret1 hk rfl rfl ⟨?_, rfl⟩
  have e : ((32 : Int) - ((32 - n : Nat) : Int)).toNat = n := by omega
  simp only [Int.toNat_natCast, e]
  rfl

theorem c121 (x : UInt32) (i j k : Nat) (hi : 0 < i ∧ i < 32) (hj : 0 < j ∧ j < 32) (hl : 0 < k ∧ k < 32) (w : World) :
    Calls Tryd.prog 121 #[W x, I i, I j, I k] w fun e w' => e = .returned (W (rotr x i ^^^ rotr x j ^^^ rotr x k)) ∧ w' = w := by
  refine start 23 Tryd.func121 rfl rfl rfl fun a hk => ?_
  refine wp_seq_k fun K1 hK1 => ?_
  refine wp_region_lit ?_
  refine ls hk rfl rfl rfl (e_assign hk rfl _) fun a hk => ?_
  refine lnil (hK1 _ _ ?_)
  refine wp_seq_k fun K2 hK2 => ?_
  refine wp_region_lit ?_
  refine ls hk rfl rfl rfl (e_move hk rfl _) fun a hk => ?_
  refine ls hk rfl rfl rfl (e_move hk rfl _) fun a hk => ?_
  refine ls hk rfl rfl rfl (e_neg hk rfl (n0 i hi.2) _) fun a hk => ?_
  refine la hk rfl (a_call hk rfl rfl (c_fn hk rfl ok132) (c132 x _ i rfl hi.1 hi.2 _) ?_)
  rintro e w' ⟨rfl, rfl⟩
  refine ⟨_, rfl, fun a hk => ?_⟩
  refine ls hk rfl rfl rfl (e_move hk rfl _) fun a hk => ?_
  refine ls hk rfl rfl rfl (e_move hk rfl _) fun a hk => ?_
  refine ls hk rfl rfl rfl (e_neg hk rfl (n0 j hj.2) _) fun a hk => ?_
  refine la hk rfl (a_call hk rfl rfl (c_fn hk rfl ok132) (c132 x _ j rfl hj.1 hj.2 _) ?_)
  rintro e w' ⟨rfl, rfl⟩
  refine ⟨_, rfl, fun a hk => ?_⟩
  refine ls hk rfl rfl rfl (e_xor hk rfl rfl (w_xor _ _) _) fun a hk => ?_
  refine ls hk rfl rfl rfl (e_move hk rfl _) fun a hk => ?_
  refine ls hk rfl rfl rfl (e_move hk rfl _) fun a hk => ?_
  refine ls hk rfl rfl rfl (e_neg hk rfl (n0 k hl.2) _) fun a hk => ?_
  refine la hk rfl (a_call hk rfl rfl (c_fn hk rfl ok132) (c132 x _ k rfl hl.1 hl.2 _) ?_)
  rintro e w' ⟨rfl, rfl⟩
  refine ⟨_, rfl, fun a hk => ?_⟩
  refine ls hk rfl rfl rfl (e_xor hk rfl rfl (w_xor _ _) _) fun a hk => ?_
  refine ls hk rfl rfl rfl (e_assign hk rfl _) fun a hk => ?_
  refine lnil (hK2 _ _ ?_)
  refine wp_ret ?_
  exact ret1 hk rfl rfl ⟨rfl, rfl⟩

end Go.Proofs.YtidfbboalbchiaaDoor
