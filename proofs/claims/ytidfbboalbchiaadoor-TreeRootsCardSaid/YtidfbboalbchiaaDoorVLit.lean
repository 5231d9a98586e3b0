/- Literal rows of any length, in parts of one size. -/
import Derived.Test.YtidfbboalbchiaaDoorT12
namespace Go.Proofs.YtidfbboalbchiaaDoor
open Go Go.RowKit

theorem fill_all (sz : Nat) : ∀ (vs : List Value) (k : Nat) (cs : Array Value), (∀ v ∈ vs, v.cells.size = sz) → (k + vs.length) * sz ≤ cs.size →
    Instr.fill (fun i => some (i * sz, sz)) cs ((vs.zipIdx k).map fun p => (p.2, p.1)) = some (cs.toList.take (k * sz) ++ vs.flatMap (fun v => v.cells.toList) ++ cs.toList.drop ((k + vs.length) * sz)).toArray := by
  intro vs
  induction vs with
  | nil => intro k cs _ _; simp [Instr.fill]
  | cons v vs ih =>
    intro k cs hv hs
    have h1 : (k + 1) * sz = k * sz + sz := Nat.succ_mul k sz
    have h2 : (k + (v :: vs).length) * sz = (k + 1 + vs.length) * sz := by rw [List.length_cons]; congr 1; omega
    have h3 : (k + 1 + vs.length) * sz = (k + 1) * sz + vs.length * sz := Nat.add_mul _ _ _
    have hv0 := hv v (by simp)
    rw [List.zipIdx_cons, List.map_cons, fill_part _ _ k v v.cells.toList (k * sz) sz _ rfl (by simp) (by simpa using hv0) (by omega)]
    have hl : (cs.toList.take (k * sz)).length = k * sz := by simp; omega
    have hl2 : v.cells.toList.length = sz := by simpa using hv0
    rw [ih (k + 1) _ (fun x hx => hv x (by simp [hx])) (by simp only [List.size_toArray, List.length_append, List.length_drop, hl, hl2, Array.length_toList]; omega)]
    congr 2
    simp only [List.flatMap_cons]
    have ha : (cs.toList.take (k * sz) ++ v.cells.toList ++ cs.toList.drop (k * sz + sz)).take ((k + 1) * sz) = cs.toList.take (k * sz) ++ v.cells.toList := by
      rw [List.take_left' (by rw [List.length_append, hl, hl2]; omega)]
    have hb : (cs.toList.take (k * sz) ++ v.cells.toList ++ cs.toList.drop (k * sz + sz)).drop ((k + 1 + vs.length) * sz) = cs.toList.drop ((k + (v :: vs).length) * sz) := by
      rw [h3, h1, ← List.drop_drop, List.drop_left' (by rw [List.length_append, hl, hl2]), List.drop_drop]
      congr 1; omega
    rw [ha, hb]; simp only [List.append_assoc]
/-- A literal row: its cells are its parts' cells. -/
theorem lit_all (sz : Nat) (vs : List Value) (hv : ∀ v ∈ vs, v.cells.size = sz) (n : Nat) (hn : vs.length = n) (z : Value) :
    Instr.fill (fun i => some (i * sz, sz)) ((Array.range (n * sz)).map (z.cells[· % z.cells.size]!)) ((vs.zipIdx 0).map fun p => (p.2, p.1)) = some (vs.flatMap fun v => v.cells.toList).toArray := by
  subst hn
  rw [fill_all sz vs 0 _ hv (by simp)]
  rw [List.drop_of_length_le (by simp)]
  simp
end Go.Proofs.YtidfbboalbchiaaDoor
