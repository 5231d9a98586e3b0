/- From a walk to a row: what the laid tables say of memory; the door's own heap meets the condition. Conditions: those of each theorem. -/
import Derived.Test.YtidfbboalbchiaaDoorA3
import Derived.ProofKit
import Derived.LaidMore
import Derived.OpenShut
import Derived.Stop.Joined
import Derived.ShutString
import Derived.ChangeOld
import Derived.Below
namespace Go.Proofs.YtidfbboalbchiaaDoor
open Go Go.ChangeShapes Go.WideShapes Go.ChangeAt Go.RowKit

theorem Tryd.own : ownKnob Tryd.prog.godebug = none := by kernel_rfl
theorem Tryd.laidOut : laidOutB Tryd.prog = true := by kernel_rfl
def laid1 : List (String × DataW Unit) := [("diorama/hash.constants", Rows.laid_diorama_hash_constants)]
def laid2 : List (String × DataW Unit) := [("diorama/dioramaref02.constants", Rows.laid_diorama_dioramaref02_constants), ("diorama/hash.constants", Rows.laid_diorama_hash_constants)]
theorem gHash : Tryd.prog.globalNamed "diorama/hash.constants" = some 1 := by kernel_rfl
theorem gRef : Tryd.prog.globalNamed "diorama/dioramaref02.constants" = some 0 := by kernel_rfl
theorem tHash : (Tryd.prog.globals[1]?).map (·.type) = some 100 := by kernel_rfl
theorem tRef : (Tryd.prog.globals[0]?).map (·.type) = some 100 := by kernel_rfl
theorem laid_hash {H : Type} : (Rows.laid_diorama_hash_constants : DataW H) = .agg (kc.map fun x => .lit (.int .u32 (x.toNat : Int))) := by kernel_rfl
theorem laid_ref {H : Type} : (Rows.laid_diorama_dioramaref02_constants : DataW H) = .agg (kc.map fun x => .lit (.int .u32 (x.toNat : Int))) := by kernel_rfl
theorem c29' : Tryd.prog.cellsOf 29 = 1 := by kernel_rfl
theorem door_met1 (os : Os) (args : Array Value) : laidMetH Tryd.prog laid1 ((World.doorLaid Tryd.prog 19 os).forCall (fun _ _ => 0) ⟨#[], args, []⟩).memory :=
  laidMetH_of_parts3 (fuel := 8) (laidMet_of_run' 8 (by kernel_rfl) (by kernel_rfl)) (by kernel_rfl) (by kernel_rfl)
theorem door_met2 (os : Os) (args : Array Value) : laidMetH Tryd.prog laid2 ((World.doorLaid Tryd.prog 19 os).forCall (fun _ _ => 0) ⟨#[], args, []⟩).memory :=
  laidMetH_of_parts3 (fuel := 8) (laidMet_of_run' 8 (by kernel_rfl) (by kernel_rfl)) (by kernel_rfl) (by kernel_rfl)

/-- A laid table's cells. -/
theorem table_of {H : Type} {enc : TypeId × Value → H} {w : World} {g base fuel : Nat} {sp : Nat → Bool} {held : Bool} {cs : Array Value} {ps : List MemPlace} (hv : ∀ i, w.cell? ⟨g, i, none⟩ = cs[i]?)
    (hd : DataW.trod enc Tryd.prog w base sp held fuel 100 cs.toList = some (.agg (kc.map fun x => .lit (.int .u32 (x.toNat : Int))), ps)) : w.rangeAt g 0 (kc.map W) := by
  obtain ⟨xs, m, rfl, hx, _, hn, hel⟩ := DataW.trod_array Tryd.underlying100 hd
  simp only [Prod.mk.injEq, DataW.agg.injEq] at hx
  intro i u hu
  rw [List.getElem?_map] at hu
  have hi : i < 64 := by
    cases hq : kc[i]? with
    | none => rw [hq] at hu; cases hu
    | some v => exact (List.getElem?_eq_some_iff.1 hq).1
  have hk : kc[i]? = some (kc[i]'hi) := List.getElem?_eq_getElem hi
  rw [hk] at hu
  obtain rfl : W (kc[i]'hi) = u := by simpa using hu
  have h1 := hel i hi
  rw [c29', Nat.mul_one] at h1
  have h2 : (xs.map (·.1))[i]? = some (.lit (.int .u32 ((kc[i]'hi).toNat : Int))) := by rw [← hx.1, List.getElem?_map, hk]; rfl
  rw [List.getElem?_map] at h2
  cases hq : xs[i]? with
  | none => rw [hq] at h2; cases h2
  | some x =>
    rw [hq] at h1 h2
    obtain ⟨n, e1, e2, _⟩ := DataW.trod_int Tryd.underlying29 h1
    subst e2
    have hn' : n = ((kc[i]'hi).toNat : Int) := by simpa using h2
    subst hn'
    rw [Nat.zero_add, hv i]
    have h3 : ((cs.toList.drop i).take 1)[0]? = some (W (kc[i]'hi)) := by rw [e1]; rfl
    rw [List.getElem?_take, if_pos (by decide), List.getElem?_drop, Nat.add_zero] at h3
    simpa using h3

/-- What the condition gives. -/
theorem GH_of_laid1 {w : World} (h : laidMetH Tryd.prog laid1 w) : GH w := by
  rw [MakeChecks.laidMetH_plain _ _ _ (by kernel_rfl)] at h
  obtain ⟨ps, ⟨g0, t0, cs0, f0, p0, q0, hg0, ht0, hv0, hd0, _, _⟩, _, _⟩ := h
  obtain rfl := Option.some.inj (gHash.symm.trans hg0)
  obtain rfl := Option.some.inj (tHash.symm.trans ht0)
  rw [laid_hash] at hd0
  exact table_of (World.var?_cell hg0 hv0) hd0
def GR (w : World) : Prop := w.rangeAt 0 0 (kc.map W)
theorem GR.ext {w w' : World} (h : GR w) (hE : Ext w w') : GR w' := range_ext hE h
theorem GH_of_laid2 {w : World} (h : laidMetH Tryd.prog laid2 w) : GH w ∧ GR w := by
  rw [MakeChecks.laidMetH_plain _ _ _ (by kernel_rfl)] at h
  obtain ⟨ps, ⟨g0, t0, cs0, f0, p0, q0, hg0, ht0, hv0, hd0, ⟨g1, t1, cs1, f1, p1, q1, hg1, ht1, hv1, hd1, _, _⟩, _⟩, _, _⟩ := h
  obtain rfl := Option.some.inj (gRef.symm.trans hg0)
  obtain rfl := Option.some.inj (gHash.symm.trans hg1)
  obtain rfl := Option.some.inj (tRef.symm.trans ht0)
  obtain rfl := Option.some.inj (tHash.symm.trans ht1)
  rw [laid_ref] at hd0
  rw [laid_hash] at hd1
  exact ⟨table_of (World.var?_cell hg1 hv1) hd1, table_of (World.var?_cell hg0 hv0) hd0⟩
/-- A string, as it comes in. -/
theorem str_of (s : ByteArray) : (Value.string s) = Str s.data.toList := rfl
end Go.Proofs.YtidfbboalbchiaaDoor
