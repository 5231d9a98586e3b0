/- The walk of the law of checked trees. -/
import Derived.Test.YtidfbboalbchiaaDoorVA41
namespace Go.Proofs.YtidfbboalbchiaaDoor
open Go Go.RowKit

/-- Rows of proofs: two numbers and a slice each. -/
def pc (l : List (Int × Int × Value)) : List Value := l.flatMap fun p => [I p.1, I p.2.1, p.2.2]
theorem pc_get : ∀ (l : List (Int × Int × Value)) (j : Nat) (N F : Int) (s : Value), l[j]? = some (N, F, s) → (pc l)[3 * j]? = some (I N) ∧ (pc l)[3 * j + 1]? = some (I F) ∧ (pc l)[3 * j + 2]? = some s := by
  intro l
  induction l with
  | nil => intro j N F s h; simp at h
  | cons p r ih =>
    intro j N F s h
    cases j with
    | zero =>
      obtain rfl : p = (N, F, s) := by simpa using h
      exact ⟨rfl, rfl, rfl⟩
    | succ j => exact ih j N F s (by simpa using h)
section
variable {w : World} {b : Nat} {t : TypeId} {fr : Nat × Nat} {l : List (Int × Int × Value)} {N F : Int} {s : Value}
theorem pc_c0 (h : w.heap[b]? = some (.cells (pc l).toArray t fr)) (j : Nat) (hj : l[j]? = some (N, F, s)) : w.cell? ⟨b, 0 + j * 3 + 0, none⟩ = some (I N) := by
  rw [cell_of_row w b _ _ t fr h, show 0 + j * 3 + 0 = 3 * j by omega, List.getElem?_toArray]; exact (pc_get l j N F s hj).1
theorem pc_c1 (h : w.heap[b]? = some (.cells (pc l).toArray t fr)) (j : Nat) (hj : l[j]? = some (N, F, s)) : w.cell? ⟨b, 0 + j * 3 + 1, none⟩ = some (I F) := by
  rw [cell_of_row w b _ _ t fr h, show 0 + j * 3 + 1 = 3 * j + 1 by omega, List.getElem?_toArray]; exact (pc_get l j N F s hj).2.1
theorem pc_c2 (h : w.heap[b]? = some (.cells (pc l).toArray t fr)) (j : Nat) (hj : l[j]? = some (N, F, s)) : w.cell? ⟨b, 0 + j * 3 + 2, none⟩ = some s := by
  rw [cell_of_row w b _ _ t fr h, show 0 + j * 3 + 2 = 3 * j + 2 by omega, List.getElem?_toArray]; exact (pc_get l j N F s hj).2.2
theorem pc_r (h : w.heap[b]? = some (.cells (pc l).toArray t fr)) (j : Nat) (hj : l[j]? = some (N, F, s)) : w.rangeAt b (0 + j * 3) [I N, I F, s] := fun k u hu => by
  match k, hu with
  | 0, hu => cases hu; exact pc_c0 h j hj
  | 1, hu => cases hu; exact pc_c1 h j hj
  | 2, hu => cases hu; exact pc_c2 h j hj
end
theorem el74 : El Tryd.prog 74 (.agg #[I 0, I 0, .slice none 0 0]) 3 40 := by unfold El; kernel_rfl
theorem prov_small {xs : List (List UInt8)} {f t : Nat} (h20 : xs.length ≤ 20) (hf : f ≤ 20) : (0 ≤ (provR xs f t).n ∧ (provR xs f t).n ≤ 20) ∧ (0 ≤ (provR xs f t).fr ∧ (provR xs f t).fr ≤ 20) ∧ (provR xs f t).nodes.length ≤ 40 := by
  by_cases h : (f : Int) < 0 ∨ (f : Int) ≥ t ∨ (t : Int) > xs.length
  · have e : provR xs f t = ⟨0, 0, [], 1⟩ := by unfold provR; rw [if_pos h]
    rw [e]; simp
  · have hs := prov_short (xs := xs) (f := f) (t := t) (d := 5) (by omega) (by omega) (by omega)
    rw [prov_good (by omega) (by omega)] at hs ⊢
    simp only at hs ⊢
    omega
theorem sub_blk2 {w : World} {ad : Option Addr} {n c k : Nat} {xs : List Value} (hR : Rd w ad n c 1 xs) (hk : k ≤ n) (h : ∀ b o, ad = some ⟨b, o, none⟩ → b < w.heap.size) : ∀ b o, (if c = k then ad else ad.map (·.add (k * 1))) = some ⟨b, o, none⟩ → b < w.heap.size := fun b o e => by
  split at e
  · exact h b o e
  · rcases Nat.eq_zero_or_pos n with h0 | h0
    · obtain rfl : k = 0 := by omega
      cases ad with
      | none => cases e
      | some p => exact h b o (by simpa [Addr.add] using e)
    · obtain ⟨b', o', rfl, _⟩ := hR.2.2 0 (xs[0]'(by have := hR.1; omega)) (by simp)
      have : b = b' := by simp [Addr.add_lit] at e; exact e.1.symm
      rw [this]; exact h b' o' rfl
theorem ones_str (l : List (List UInt8)) : ∀ u ∈ l.map Str, u.oneCell' = true := fun u hu => by
  obtain ⟨x, _, rfl⟩ := List.mem_map.1 hu; rfl

end Go.Proofs.YtidfbboalbchiaaDoor
