/- The walk of the law of parts of trees. -/
import Derived.Test.YtidfbboalbchiaaDoorT12
namespace Go.Proofs.YtidfbboalbchiaaDoor
open Go Go.RowKit

theorem blk_ext {w w' : World} {ad : Option Addr} (h : ∀ b o, ad = some ⟨b, o, none⟩ → b < w.heap.size) (hE : Ext w w') : ∀ b o, ad = some ⟨b, o, none⟩ → b < w'.heap.size := fun b o e => Nat.lt_of_lt_of_le (h b o e) hE.size
theorem blk_wrote {w w' : World} {ad : Option Addr} {g : Nat} {ob : Obj} (h : ∀ b o, ad = some ⟨b, o, none⟩ → b < w.heap.size) (hW : Wrote w w' g ob) : ∀ b o, ad = some ⟨b, o, none⟩ → b < w'.heap.size := fun b o e => by rw [hW.size]; exact h b o e

end Go.Proofs.YtidfbboalbchiaaDoor
