/- The walk of the law of equality. -/
import Derived.Test.YtidfbboalbchiaaDoorA10
namespace Go.Proofs.YtidfbboalbchiaaDoor
open Go Go.RowKit

theorem e_beql {P : Program} {dst : Option Tmp} {ty : TypeId} {pos : String} {af : Array Edge} {g : Option (Nat × Bool)} {N : Nat} {L : Fm} {a : Act} {x y : Operand} {t t' : TypeId} {p q b : Bool} (hk : Kn a N L) (hx : ov L x = some (.bool p)) (hy : ov L y = some (.bool q))
    (ht : P.underlying t = some .bool) (hb : (p == q) = b) (w : World) : Ev P ⟨dst, .binOp .eql t x y t', ty, pos, af, g⟩ a w (.bool b) := by
  subst hb
  simp only [Ev, execOp, hk.op hx, hk.op hy, Sem.run_bind]
  simp [eqGuard, binOp, Op.equal, Op.maxDepth, run_equalIn_bool' w 9999 t p q ht]

set_option maxRecDepth 4000 in
set_option maxHeartbeats 1000000 in
theorem c11 (s t : List UInt8) (w0 : World) (hG : GH w0) : Calls Tryd.prog 11 #[Str s, Str t] w0 fun e w' => e = .returned (.bool true) ∧ Ext w0 w' := by
  rcases (by omega : s.length > 400 ∨ (s.length ≤ 400 ∧ t.length > 400) ∨ (s.length ≤ 400 ∧ t.length ≤ 400)) with hc | hc | hc
  · refine start 45 Tryd.func11 rfl rfl rfl fun a hk => ?_
    refine wp_seq_k fun K1 hK1 => ?_
    refine wp_region_lit ?_
    refine ls hk rfl rfl rfl (e_assign hk rfl _) fun a hk => ?_
    refine lnil (hK1 _ _ ?_)
    refine wp_seq_k fun K2 hK2 => ?_
    have hB : Ext w0 w0 := Below.refl _ _
    refine wp_region_lit ?_
    refine la hk rfl (a_call hk rfl rfl (c_fn (vs := []) hk rfl ok22) (c22 _ (hG.ext hB)) ?_)
    rintro e w ⟨rfl, hE⟩
    refine ⟨_, rfl, fun a hk => ?_⟩
    have hB := ext_trans hB hE
    refine ls hk rfl rfl rfl (e_assign hk rfl _) fun a hk => ?_
    refine lnil (hK2 _ _ ?_)
    refine wp_seq_k fun K3 hK3 => ?_
    refine wp_seq_k fun K4 hK4 => ?_
    refine wp_region_lit ?_
    refine ls hk rfl rfl rfl (e_move hk rfl _) fun a hk => ?_
    refine ls hk rfl rfl rfl (e_lenStr hk rfl Tryd.underlying9 _) fun a hk => ?_
    refine ls hk rfl rfl rfl (e_gtr (b := true) hk rfl rfl (decide_eq_true (by omega)) _) fun a hk => ?_
    refine ls hk rfl rfl rfl (e_move hk rfl _) fun a hk => ?_
    refine lno hk rfl rfl rfl fun a hk => ?_
    refine lno hk rfl rfl rfl fun a hk => ?_
    refine lno hk rfl rfl rfl fun a hk => ?_
    refine ls hk rfl rfl rfl (e_pickT hk rfl rfl _) fun a hk => ?_
    refine lnil (hK4 _ _ ?_)
    refine cdT hk rfl ?_
    refine wp_seq_k fun K5 hK5 => ?_
    refine wp_region_lit ?_
    refine ls hk rfl rfl rfl (e_move hk rfl _) fun a hk => ?_
    refine ls hk rfl rfl rfl (e_assign hk rfl _) fun a hk => ?_
    refine lnil (hK5 _ _ ?_)
    refine wp_ret ?_
    simp only [then_ret]
    exact ret1 hk rfl rfl ⟨rfl, hB⟩
  · refine start 45 Tryd.func11 rfl rfl rfl fun a hk => ?_
    refine wp_seq_k fun K1 hK1 => ?_
    refine wp_region_lit ?_
    refine ls hk rfl rfl rfl (e_assign hk rfl _) fun a hk => ?_
    refine lnil (hK1 _ _ ?_)
    refine wp_seq_k fun K2 hK2 => ?_
    have hB : Ext w0 w0 := Below.refl _ _
    refine wp_region_lit ?_
    refine la hk rfl (a_call hk rfl rfl (c_fn (vs := []) hk rfl ok22) (c22 _ (hG.ext hB)) ?_)
    rintro e w ⟨rfl, hE⟩
    refine ⟨_, rfl, fun a hk => ?_⟩
    have hB := ext_trans hB hE
    refine ls hk rfl rfl rfl (e_assign hk rfl _) fun a hk => ?_
    refine lnil (hK2 _ _ ?_)
    refine wp_seq_k fun K3 hK3 => ?_
    refine wp_seq_k fun K4 hK4 => ?_
    refine wp_region_lit ?_
    refine ls hk rfl rfl rfl (e_move hk rfl _) fun a hk => ?_
    refine ls hk rfl rfl rfl (e_lenStr hk rfl Tryd.underlying9 _) fun a hk => ?_
    refine ls hk rfl rfl rfl (e_gtr (b := false) hk rfl rfl (decide_eq_false (by omega)) _) fun a hk => ?_
    refine ls hk rfl rfl rfl (e_move hk rfl _) fun a hk => ?_
    refine ls hk rfl rfl rfl (e_move hk rfl _) fun a hk => ?_
    refine ls hk rfl rfl rfl (e_lenStr hk rfl Tryd.underlying9 _) fun a hk => ?_
    refine ls hk rfl rfl rfl (e_gtr (b := true) hk rfl rfl (decide_eq_true (by omega)) _) fun a hk => ?_
    refine ls hk rfl rfl rfl (e_pickF hk rfl rfl _) fun a hk => ?_
    refine lnil (hK4 _ _ ?_)
    refine cdT hk rfl ?_
    refine wp_seq_k fun K5 hK5 => ?_
    refine wp_region_lit ?_
    refine ls hk rfl rfl rfl (e_move hk rfl _) fun a hk => ?_
    refine ls hk rfl rfl rfl (e_assign hk rfl _) fun a hk => ?_
    refine lnil (hK5 _ _ ?_)
    refine wp_ret ?_
    simp only [then_ret]
    exact ret1 hk rfl rfl ⟨rfl, hB⟩
  · refine start 45 Tryd.func11 rfl rfl rfl fun a hk => ?_
    refine wp_seq_k fun K1 hK1 => ?_
    refine wp_region_lit ?_
    refine ls hk rfl rfl rfl (e_assign hk rfl _) fun a hk => ?_
    refine lnil (hK1 _ _ ?_)
    refine wp_seq_k fun K2 hK2 => ?_
    have hB : Ext w0 w0 := Below.refl _ _
    refine wp_region_lit ?_
    refine la hk rfl (a_call hk rfl rfl (c_fn (vs := []) hk rfl ok22) (c22 _ (hG.ext hB)) ?_)
    rintro e w ⟨rfl, hE⟩
    refine ⟨_, rfl, fun a hk => ?_⟩
    have hB := ext_trans hB hE
    refine ls hk rfl rfl rfl (e_assign hk rfl _) fun a hk => ?_
    refine lnil (hK2 _ _ ?_)
    refine wp_seq_k fun K3 hK3 => ?_
    refine wp_seq_k fun K4 hK4 => ?_
    refine wp_region_lit ?_
    refine ls hk rfl rfl rfl (e_move hk rfl _) fun a hk => ?_
    refine ls hk rfl rfl rfl (e_lenStr hk rfl Tryd.underlying9 _) fun a hk => ?_
    refine ls hk rfl rfl rfl (e_gtr (b := false) hk rfl rfl (decide_eq_false (by omega)) _) fun a hk => ?_
    refine ls hk rfl rfl rfl (e_move hk rfl _) fun a hk => ?_
    refine ls hk rfl rfl rfl (e_move hk rfl _) fun a hk => ?_
    refine ls hk rfl rfl rfl (e_lenStr hk rfl Tryd.underlying9 _) fun a hk => ?_
    refine ls hk rfl rfl rfl (e_gtr (b := false) hk rfl rfl (decide_eq_false (by omega)) _) fun a hk => ?_
    refine ls hk rfl rfl rfl (e_pickF hk rfl rfl _) fun a hk => ?_
    refine lnil (hK4 _ _ ?_)
    refine cdF hk rfl ?_
    refine wp_skip (hK3 _ _ ?_)
    refine wp_seq_k fun K5 hK5 => ?_
    refine wp_region_lit ?_
    refine ls hk rfl rfl rfl (e_move hk rfl _) fun a hk => ?_
    refine ls hk rfl rfl rfl (e_move hk rfl _) fun a hk => ?_
    refine la hk rfl (a_call hk rfl rfl (c_fn hk rfl ok43) (c43 s t _ (by omega)) ?_)
    rintro e w ⟨rfl, hE⟩
    refine ⟨.bool (decide (s = t)), rfl, fun a hk => ?_⟩
    have hB := ext_trans hB hE
    refine ls hk rfl rfl rfl (e_assign hk rfl _) fun a hk => ?_
    refine lnil (hK5 _ _ ?_)
    refine wp_seq_k fun K6 hK6 => ?_
    refine wp_region_lit ?_
    refine ls hk rfl rfl rfl (e_move hk rfl _) fun a hk => ?_
    refine ls hk rfl rfl rfl (e_move hk rfl _) fun a hk => ?_
    refine la hk rfl (a_call hk rfl rfl (c_fn hk rfl ok43) (c43 t s _ (by omega)) ?_)
    rintro e w ⟨rfl, hE⟩
    refine ⟨.bool (decide (t = s)), rfl, fun a hk => ?_⟩
    have hB := ext_trans hB hE
    refine ls hk rfl rfl rfl (e_assign hk rfl _) fun a hk => ?_
    refine lnil (hK6 _ _ ?_)
    refine wp_seq_k fun K7 hK7 => ?_
    refine wp_region_lit ?_
    refine ls hk rfl rfl rfl (e_move hk rfl _) fun a hk => ?_
    refine ls hk rfl rfl rfl (e_move hk rfl _) fun a hk => ?_
    refine ls hk rfl rfl rfl (e_sadd (s := s) (u := []) hk rfl rfl (by simp; omega) _) fun a hk => ?_
    refine la hk rfl (a_call hk rfl rfl (c_fn hk rfl ok43) (c43 s (s ++ []) _ (by omega)) ?_)
    rintro e w ⟨rfl, hE⟩
    refine ⟨.bool (decide (s = s ++ [])), rfl, fun a hk => ?_⟩
    have hB := ext_trans hB hE
    refine ls hk rfl rfl rfl (e_assign hk rfl _) fun a hk => ?_
    refine lnil (hK7 _ _ ?_)
    refine wp_seq_k fun K8 hK8 => ?_
    refine wp_region_lit ?_
    refine ls hk rfl rfl rfl (e_move hk rfl _) fun a hk => ?_
    refine ls hk rfl rfl rfl (e_move hk rfl _) fun a hk => ?_
    refine ls hk rfl rfl rfl (e_move hk rfl _) fun a hk => ?_
    refine ls hk rfl rfl rfl (e_move hk rfl _) fun a hk => ?_
    refine ls hk rfl rfl rfl (e_move hk rfl _) fun a hk => ?_
    refine ls hk rfl rfl rfl (e_seql (b := decide (s = t)) hk rfl rfl rfl _) fun a hk => ?_
    refine ls hk rfl rfl rfl (e_beql (b := true) hk rfl rfl Tryd.underlying4 (by simp) _) fun a hk => ?_
    refine ls hk rfl rfl rfl (e_pickT hk rfl rfl _) fun a hk => ?_
    refine ls hk rfl rfl rfl (e_move hk rfl _) fun a hk => ?_
    refine ls hk rfl rfl rfl (e_move hk rfl _) fun a hk => ?_
    refine ls hk rfl rfl rfl (e_move hk rfl _) fun a hk => ?_
    refine ls hk rfl rfl rfl (e_beql (b := true) hk rfl rfl Tryd.underlying4 (by rw [beq_iff_eq]; exact decide_eq_decide.2 eq_comm) _) fun a hk => ?_
    refine ls hk rfl rfl rfl (e_pickT hk rfl rfl _) fun a hk => ?_
    refine ls hk rfl rfl rfl (e_move hk rfl _) fun a hk => ?_
    refine ls hk rfl rfl rfl (e_move hk rfl _) fun a hk => ?_
    refine ls hk rfl rfl rfl (e_pickT hk rfl rfl _) fun a hk => ?_
    refine ls hk rfl rfl rfl (e_assign hk rfl _) fun a hk => ?_
    refine lnil (hK8 _ _ ?_)
    refine wp_ret ?_
    exact ret1 hk rfl rfl ⟨by simp, hB⟩

end Go.Proofs.YtidfbboalbchiaaDoor
