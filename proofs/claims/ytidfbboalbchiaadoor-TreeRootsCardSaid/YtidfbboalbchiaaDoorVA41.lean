/- The walk of the law of extended trees. -/
import Derived.Test.YtidfbboalbchiaaDoorVA40
import Derived.Test.YtidfbboalbchiaaDoorVLit
namespace Go.Proofs.YtidfbboalbchiaaDoor
open Go Go.RowKit

/-- Rows of pairs of numbers. -/
def ip (l : List (Int × Int)) : List Value := l.flatMap fun p => [I p.1, I p.2]
theorem ip_get : ∀ (l : List (Int × Int)) (j : Nat), j < l.length → (ip l)[2 * j]? = some (I (l.getD j (0, 0)).1) ∧ (ip l)[2 * j + 1]? = some (I (l.getD j (0, 0)).2) := by
  intro l
  induction l with
  | nil => intro j h; simp at h
  | cons p r ih =>
    intro j h
    cases j with
    | zero => exact ⟨rfl, rfl⟩
    | succ j =>
      have := ih j (by simpa using h)
      exact this
theorem ip_c1 {w : World} {b : Nat} {t : TypeId} {fr : Nat × Nat} {l : List (Int × Int)} (h : w.heap[b]? = some (.cells (ip l).toArray t fr)) (j : Nat) (hj : j < l.length) : w.cell? ⟨b, 0 + j * 2 + 0 * 1, none⟩ = some (I (l.getD j (0, 0)).1) := by
  rw [cell_of_row w b _ _ t fr h, show 0 + j * 2 + 0 * 1 = 2 * j by omega]
  rw [List.getElem?_toArray]; exact (ip_get l j hj).1
theorem ip_c2 {w : World} {b : Nat} {t : TypeId} {fr : Nat × Nat} {l : List (Int × Int)} (h : w.heap[b]? = some (.cells (ip l).toArray t fr)) (j : Nat) (hj : j < l.length) : w.cell? ⟨b, 0 + j * 2 + 1 * 1, none⟩ = some (I (l.getD j (0, 0)).2) := by
  rw [cell_of_row w b _ _ t fr h, show 0 + j * 2 + 1 * 1 = 2 * j + 1 by omega]
  rw [List.getElem?_toArray]; exact (ip_get l j hj).2
theorem row_c {w : World} {b : Nat} {t : TypeId} {fr : Nat × Nat} {cs : List Value} {v : Value} (h : w.heap[b]? = some (.cells cs.toArray t fr)) (i : Nat) (hi : cs[i]? = some v) : w.cell? ⟨b, 0 + i * 1, none⟩ = some v := by
  rw [cell_of_row w b _ _ t fr h, show 0 + i * 1 = i by omega]
  rw [List.getElem?_toArray]; exact hi
theorem rdg_lits {w : World} {b n : Nat} {t : TypeId} {fr : Nat × Nat} {s : List (List UInt8)} (h : w.heap[b]? = some (.cells (digs16 s).toArray t fr)) (hl : ∀ d ∈ s, d.length = 16) (hn : (digs16 s).length = n * 16) : Rdg w (some ⟨b, 0, none⟩) n n s :=
  ⟨Rd.of_block h hn (Nat.le_refl _) fun i hi => by rw [Nat.zero_add]; simp, hl⟩
theorem tdiv5 {n : Int} (h : is64 n) : is64 (n.tdiv 5) := by
  have h5 : (n.tdiv 5).natAbs = n.natAbs / 5 := Int.natAbs_tdiv n 5
  obtain ⟨h1, h2⟩ := h
  constructor <;> omega

end Go.Proofs.YtidfbboalbchiaaDoor
