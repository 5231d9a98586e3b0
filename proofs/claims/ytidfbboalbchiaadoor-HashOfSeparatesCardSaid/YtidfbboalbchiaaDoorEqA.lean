/- Equality of arrays of bytes; a constant string as bytes. Conditions: those of each lemma. -/
import Derived.Test.YtidfbboalbchiaaDoorMem2
import Derived.Laws.StructEq
namespace Go.Proofs.YtidfbboalbchiaaDoor
open Go Go.RowKit
variable {P : Program}
theorem run_partB {e : TypeId} {inf : TypeInfo} (l : List UInt8) (i : Nat) (w : World) (he : P.underlying e = some (.int .u8)) (hq : P.info? e = some inf) (hs : inf.size = 1) (hi : i < l.length) : (part e (l.map B).toArray i).run P w = .ok (B l[i]) w := by
  have hagg : (isAgg e).run P w = .ok false w := isAgg_row he rfl
  simp [part, sizeOf, typeInfo, hq, hs, hi, hagg]
theorem eq_loop (d : Nat) (e : TypeId) (l r : List UInt8) (w : World) (he : P.underlying e = some (.int .u8)) (inf : TypeInfo) (hq : P.info? e = some inf) (hs : inf.size = 1) (hlr : l.length = r.length) : ∀ (m k : Nat), k + m = l.length →
    Sem.run P (forIn (List.range' k m) ((none, ()) : Option Bool × Unit) fun i __s => do
            let __do_lift ← part e (List.map B l).toArray i
            let __do_lift_1 ← part e (List.map B r).toArray i
            let __do_lift ← Op.equalIn (d + 1) e __do_lift __do_lift_1
            if __do_lift = false then pure (ForInStep.done (some false, ())) else pure (ForInStep.yield (none, ()))) w = .ok (if l.drop k = r.drop k then (none, ()) else (some false, ())) w := by
  intro m
  induction m with
  | zero =>
    intro k hk
    rw [List.drop_of_length_le (by omega), List.drop_of_length_le (by omega)]
    simp
  | succ m ih =>
    intro k hk
    rw [List.range'_succ, List.forIn_cons]
    have h1 : k < l.length := by omega
    have h2 : k < r.length := by omega
    have hd : (l.drop k = r.drop k) ↔ (l[k] = r[k] ∧ l.drop (k + 1) = r.drop (k + 1)) := by
      rw [List.drop_eq_getElem_cons h1, List.drop_eq_getElem_cons h2]
      exact List.cons.injEq _ _ _ _ ▸ Iff.rfl
    simp only [Sem.run_bind, run_partB l k w he hq hs h1, run_partB r k w he hq hs h2, Result.andThen_ok, run_equalIn_int w d e .u8 .u8 _ _ he]
    by_cases hc : l[k] = r[k]
    · have := ih (k + 1) (by omega)
      simp [hd, hc, this]
    · have hb : ((l[k].toNat : Int) == (r[k].toNat : Int)) = false := by
        rw [beq_eq_false_iff_ne]
        intro h
        exact hc (UInt8.toNat.inj (by omega))
      simp [hd, hb, hc]
theorem eqA (d : Nat) (t e : TypeId) (n : Nat) (l r : List UInt8) (w : World) (ht : P.underlying t = some (.array n e)) (he : P.underlying e = some (.int .u8)) (hs : (P.info? e).map (·.size) = some 1) (hl : l.length = n) (hr : r.length = n) :
    (Op.equalIn (d + 2) t (.agg (l.map B).toArray) (.agg (r.map B).toArray)).run P w = .ok (decide (l = r)) w := by
  cases hq : P.info? e with
  | none => simp [hq] at hs
  | some inf =>
  have hs' : inf.size = 1 := by simpa [hq] using hs
  rw [Op.equalIn]
  simp only [Sem.run_bind, run_underlying ht, Result.andThen_ok]
  simp [sizeOf, typeInfo, hq, hs']
  rw [eq_loop d e l r w he inf hq hs' (by omega) n 0 (by omega)]
  by_cases h : l = r
  · simp [h]
  · simp [h]
theorem e_eqA {dst : Option Tmp} {ty : TypeId} {pos : String} {af : Array Edge} {g : Option (Nat × Bool)} {N : Nat} {L : Fm} {a : Act} {x y : Operand} {t e t' : TypeId} {n : Nat} {l r : List UInt8} {b : Bool} (hk : Kn a N L) (hx : ov L x = some (.agg (l.map B).toArray)) (hy : ov L y = some (.agg (r.map B).toArray))
    (ht : P.underlying t = some (.array n e)) (he : P.underlying e = some (.int .u8)) (hs : (P.info? e).map (·.size) = some 1) (hl : l.length = n) (hr : r.length = n) (hg : P.eqGuardType P.depth t = false) (hb : decide (l = r) = b) (w : World) :
    Ev P ⟨dst, .binOp .eql t x y t', ty, pos, af, g⟩ a w (.bool b) := by
  have h := eqA (P := P) 9998 t e n l r w ht he hs hl hr
  subst hb
  simp only [Ev, execOp, hk.op hx, hk.op hy, Sem.run_bind, run_eqGuard_agg _ _ _ _ _ _ _ hg, Result.andThen_ok, run_eql_struct]
  rw [h]
  rfl
/-- A byte slice converted to its own type: a constant string's bytes. -/
theorem a_convB {ty : TypeId} {pos : String} {af : Array Edge} {g : Option (Nat × Bool)} {N dd : Nat} {L : Fm} {a : Act} {w : World} {x : Operand} {t e : TypeId} {b n c : Nat} {C : Array Value} {K : Act → World → Prop} (hk : Kn a N L) (hN : Nat.blt dd N = true) (hx : ov L x = some (.slice (some ⟨b, 0, none⟩) n c))
    (ht : P.underlying t = some (.slice e)) (he : P.underlying e = some (.int .u8)) (hb : w.heap[b]? = some (.cells C e (0, 0)))
    (hK : ∀ a' w', Kn a' N ((dd, .slice (some ⟨b, 0, none⟩) n c) :: L) → Wrote w w' b (.cells C e (C.size, C.size + 1)) → K a' w') : acts P ⟨some dd, .convert t t x, ty, pos, af, g⟩ K a w := by
  have hsh : w.shape? b = some (e, C.size) := by unfold World.shape?; rw [hb]
  refine act_v (v := .slice (some ⟨b, 0, none⟩) n c) (w' := w.freeze ⟨b, C.size, none⟩ 1) hk rfl hN ?_ fun a' hk' => hK a' _ hk' ?_
  · simp [execOp, hk.op hx, convert, run_underlying ht, run_underlying he, markStringish, hsh]
  · unfold World.freeze
    rw [if_neg (by decide)]
    refine ⟨?_, fun k hk => ?_, by simp, rfl, rfl, rfl⟩
    · show (w.heap.modify b _)[b]? = _
      rw [Array.getElem?_modify, hb]
      simp
    · simp [Array.getElem?_modify, Ne.symm hk]
end Go.Proofs.YtidfbboalbchiaaDoor
