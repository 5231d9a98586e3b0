/- Slices of strings and of whole numbers, and arrays of numbers, as they come in. Conditions: those of each theorem. -/
import Derived.Test.YtidfbboalbchiaaDoorUpB
import Derived.Test.YtidfbboalbchiaaDoorFacts
import Derived.Test.YtidfbboalbchiaaDoorA7
import Derived.SliceStrings
namespace Go.Proofs.YtidfbboalbchiaaDoor
open Go Go.ChangeShapes Go.WideShapes Go.ChangeAt Go.RowKit

theorem rs_in {w : World} {x : Addr} {len cap : Nat} {ss : List ByteArray} (hl : len ≤ cap) (hz : ss.length = cap) (hcell : ∀ i, i < ss.length → w.cell? (x.add i) = some (.string (ss.getD i ByteArray.empty))) :
    ∃ ps : List (List UInt8), ps.length = len ∧ Rs w (some x) len cap ps := by
  refine ⟨(ss.take len).map fun s => s.data.toList, by simp; omega, by simp; omega, hl, fun i u hu => ?_⟩
  obtain ⟨b, off, spot⟩ := x
  have hi : i < len := by
    have := (List.getElem?_eq_some_iff.1 hu).1
    simp at this; omega
  have hc := hcell i (by omega)
  have hspot : spot = none := by simpa [Addr.add] using World.cell?_spot (hcell 0 (by omega))
  subst hspot
  rw [Addr.add_lit] at hc
  refine ⟨b, off, rfl, ?_⟩
  rw [hc]
  have hzi : i < ss.length := by omega
  have hv : ss.getD i ByteArray.empty = ss[i] := by simp [hzi]
  rw [hv, ← hu]
  simp [hi, hzi]
/-- The numbers of an int slice. -/
def Ri (w : World) (ad : Option Addr) (n c : Nat) (l : List Int) : Prop := Rd w ad n c 1 (l.map I)
def is64 (n : Int) : Prop := -9223372036854775808 ≤ n ∧ n ≤ 9223372036854775807
theorem i64_wf {n : Int} (h : (Lit.int .i64 n).wf = true) : is64 n := by
  simpa [Lit.wf, IntKind.min, IntKind.max, IntKind.signed, IntKind.bits, is64] using h
theorem ri_in {w : World} {x : Addr} {len cap : Nat} {zs : List Int} (hl : len ≤ cap) (hz : zs.length = cap) (hcell : ∀ i, i < zs.length → w.cell? (x.add i) = some (.int .i64 (zs.getD i 0))) (hwz : ∀ n ∈ zs, (Lit.int .i64 n).wf = true) :
    ∃ l : List Int, l.length = len ∧ Ri w (some x) len cap l ∧ ∀ n ∈ l, is64 n := by
  refine ⟨zs.take len, by simp; omega, ⟨by simp; omega, hl, fun i u hu => ?_⟩, fun n hn => i64_wf (hwz n (List.mem_of_mem_take hn))⟩
  obtain ⟨b, off, spot⟩ := x
  have hi : i < len := by
    have := (List.getElem?_eq_some_iff.1 hu).1
    simp at this; omega
  have hc := hcell i (by omega)
  have hspot : spot = none := by simpa [Addr.add] using World.cell?_spot (hcell 0 (by omega))
  subst hspot
  rw [Addr.add_lit] at hc
  refine ⟨b, off, rfl, ?_⟩
  rw [hc]
  have hzi : i < zs.length := by omega
  have hv : zs.getD i 0 = zs[i] := by simp [hzi]
  rw [hv, ← hu]
  simp [hi, hzi]
theorem u8s_of : ∀ cs : List Value, (∀ i, i < cs.length → ∃ n, cs[i]? = some (.int .u8 n) ∧ (Lit.int .u8 n).wf = true) → ∃ l : List UInt8, cs = l.map B := by
  intro cs
  induction cs with
  | nil => intro _; exact ⟨[], rfl⟩
  | cons v r ih =>
    intro h
    obtain ⟨n, h0, hw⟩ := h 0 (by simp)
    obtain ⟨l, rfl⟩ := ih fun i hi => by
      have := h (i + 1) (by simp; omega)
      simpa using this
    refine ⟨UInt8.ofNat n.toNat :: l, ?_⟩
    have : v = .int .u8 n := by simpa using h0
    rw [this, u8_wf hw]; rfl
theorem i64s_of : ∀ cs : List Value, (∀ i, i < cs.length → ∃ n, cs[i]? = some (.int .i64 n) ∧ (Lit.int .i64 n).wf = true) → ∃ l : List Int, cs = l.map I ∧ ∀ n ∈ l, is64 n := by
  intro cs
  induction cs with
  | nil => intro _; exact ⟨[], rfl, by simp⟩
  | cons v r ih =>
    intro h
    obtain ⟨n, h0, hw⟩ := h 0 (by simp)
    obtain ⟨l, rfl, hl⟩ := ih fun i hi => by
      have := h (i + 1) (by simp; omega)
      simpa using this
    refine ⟨n :: l, ?_, ?_⟩
    · have : v = .int .i64 n := by simpa using h0
      rw [this]; rfl
    · intro m hm
      rcases List.mem_cons.1 hm with rfl | hm
      · exact i64_wf hw
      · exact hl m hm
/-- An array's numbers. -/
theorem arr_each {H : Type} {enc : TypeId × Value → H} {P : Program} {w : World} {base fuel n : Nat} {sp : Nat → Bool} {held : Bool} {t e : TypeId} {k : IntKind} {cs : List Value} {x : DataW H × List MemPlace} (ht : P.underlying t = some (.array n e)) (he : P.underlying e = some (.int k)) (hc : P.cellsOf e = 1) (hn : P.cellsOf t = n)
    (h : DataW.trod enc P w base sp held fuel t cs = some x) : cs.length = n ∧ ∀ i, i < cs.length → ∃ m, cs[i]? = some (.int k m) ∧ (Lit.int k m).wf = true := by
  obtain ⟨xs, m, rfl, _, hl, hxl, hel⟩ := DataW.trod_array ht h
  rw [hn] at hl
  refine ⟨hl, fun i hi => ?_⟩
  have h1 := hel i (by omega)
  rw [hc, Nat.mul_one] at h1
  have h2 : xs[i]? = some (xs[i]'(by omega)) := List.getElem?_eq_getElem _
  rw [h2] at h1
  obtain ⟨z, e1, _, hw⟩ := DataW.trod_int he h1
  have h3 : ((cs.drop i).take 1)[0]? = some (.int k z) := by rw [e1]; rfl
  rw [List.getElem?_take, if_pos (by decide), List.getElem?_drop, Nat.add_zero] at h3
  exact ⟨z, h3, hw⟩
theorem c5' : Tryd.prog.cellsOf 5 = 1 := by kernel_rfl
theorem c3' : Tryd.prog.cellsOf 3 = 1 := by kernel_rfl
theorem c9' : Tryd.prog.cellsOf 9 = 1 := by kernel_rfl
theorem c44' : Tryd.prog.cellsOf 44 = 16 := by kernel_rfl
theorem c60' : Tryd.prog.cellsOf 60 = 2 := by kernel_rfl
theorem c66' : Tryd.prog.cellsOf 66 = 2 := by kernel_rfl
theorem okWide_array {P : Program} {W : World} {r : Reach} {b0 : Nat} {t e : TypeId} {n : Nat} {v : Value} (ht : P.underlying t = some (.array n e)) (h : Value.okWide P W r b0 t v) : ∃ xs : Array Value, v = .agg xs := by
  simp only [Value.okWide, ht] at h
  obtain ⟨cs, h1, _⟩ := h
  exact ⟨cs, h1⟩
end Go.Proofs.YtidfbboalbchiaaDoor
