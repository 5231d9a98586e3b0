/- The walk of the law that what is proved is accepted. -/
import Derived.Test.YtidfbboalbchiaaDoorVA38
namespace Go.Proofs.YtidfbboalbchiaaDoor
open Go Go.RowKit

theorem long_err {xs : List (List UInt8)} {k : Nat} (h : k ≤ xs.length) : (longR xs k).2 = 0 := by
  unfold longR; rw [if_neg (by omega)]; split <;> rfl
theorem long_short {xs : List (List UInt8)} {k d : Nat} (h : k ≤ xs.length) (hd : xs.length ≤ 2 ^ d) : (longR xs k).1.length ≤ d + 1 := by
  by_cases h0 : xs.length = 0
  · have e : longR xs k = ([ofD 2 []], 0) := by unfold longR; rw [if_neg (by omega), if_pos h0]
    rw [e]; simp
  · have e : longR xs k = (rootsOf xs (stepsS k 0 xs.length), 0) := by unfold longR; rw [if_neg (by omega), if_neg h0]; rfl
    rw [e, rootsOf_len]
    exact steps_short k 0 xs.length (by omega) d (by omega)
theorem prov_good {xs : List (List UInt8)} {f t : Nat} (hft : f < t) (ht : t ≤ xs.length) : provR xs f t = ⟨xs.length, f, rootsOf xs (restS f t 0 xs.length), 0⟩ := by
  unfold provR; rw [if_neg (by omega)]; rfl
theorem prov_short {xs : List (List UInt8)} {f t d : Nat} (hft : f < t) (ht : t ≤ xs.length) (hd : xs.length ≤ 2 ^ d) : (provR xs f t).nodes.length ≤ 2 * d := by
  rw [prov_good hft ht]
  show (rootsOf xs (restS f t 0 xs.length)).length ≤ _
  rw [rootsOf_len]
  exact rest_short f t hft 0 xs.length (by omega) d (by omega) (by omega) (by omega) (by omega) ht

theorem sub_blk {w : World} {ad : Option Addr} {n c k : Nat} {xs : List Value} (h : Rd w ad n c 1 xs) (hk : k < n) : ∀ b o, (if c = k then ad else ad.map (·.add (k * 1))) = some ⟨b, o, none⟩ → b < w.heap.size := fun b o e => by
  have hl := h.1
  have hn := h.2.1
  obtain ⟨b', o', rfl, hc⟩ := h.2.2 0 (xs[0]'(by omega)) (by simp)
  rw [if_neg (by omega)] at e
  have : b = b' := by simp [Addr.add_lit] at e; exact e.1.symm
  rw [this]
  exact World.block_lt_of_cell? w _ hc

end Go.Proofs.YtidfbboalbchiaaDoor
