/- A slice of bytes, as it comes in, read as a list of bytes. Conditions: those of each theorem. -/
import Derived.Test.YtidfbboalbchiaaDoorUp
namespace Go.Proofs.YtidfbboalbchiaaDoor
open Go Go.ChangeShapes Go.WideShapes Go.ChangeAt Go.RowKit

theorem u8_wf {n : Int} (h : (Lit.int .u8 n).wf = true) : Value.int .u8 n = B (UInt8.ofNat n.toNat) := by
  have h1 : 0 ≤ n ∧ n ≤ 255 := by simpa [Lit.wf, IntKind.min, IntKind.max, IntKind.signed, IntKind.bits] using h
  have e : (UInt8.ofNat n.toNat).toNat = n.toNat % 2 ^ 8 := rfl
  have h2 : ((UInt8.ofNat n.toNat).toNat : Int) = n := by rw [e]; omega
  show Value.int .u8 n = Value.int .u8 ((UInt8.ofNat n.toNat).toNat : Int)
  rw [h2]
theorem rd_ints {w : World} {x : Addr} {len cap : Nat} {zs : List Int} (hl : len ≤ cap) (hz : zs.length = cap) (hcell : ∀ i, i < zs.length → w.cell? (x.add i) = some (.int .u8 (zs.getD i 0))) (hwz : ∀ n ∈ zs, (Lit.int .u8 n).wf = true) :
    ∃ m : List UInt8, m.length = len ∧ Rd w (some x) len cap 1 (m.map B) := by
  refine ⟨(zs.take len).map fun n => UInt8.ofNat n.toNat, by simp; omega, by simp; omega, hl, fun i u hu => ?_⟩
  obtain ⟨b, off, spot⟩ := x
  have hi : i < len := by
    have := (List.getElem?_eq_some_iff.1 hu).1
    simp at this; omega
  have hc := hcell i (by omega)
  have hspot : spot = none := by simpa [Addr.add] using World.cell?_spot (hcell 0 (by omega))
  subst hspot
  rw [Addr.add_lit] at hc
  refine ⟨b, off, rfl, ?_⟩
  rw [hc]
  have hzi : i < zs.length := by omega
  have hv : zs.getD i 0 = zs[i] := by simp [hzi]
  rw [hv, u8_wf (hwz _ (List.getElem_mem hzi)), ← hu]
  simp [hi, hzi]
end Go.Proofs.YtidfbboalbchiaaDoor
