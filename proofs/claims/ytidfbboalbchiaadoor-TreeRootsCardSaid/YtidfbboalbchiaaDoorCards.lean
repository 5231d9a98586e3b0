/-
  DERIVED. GIVEN WITH THE SEED: THE CARDS: each row of YtidfbboalbchiaaDoorRows.lean that lists a variable, with what it lists TIED to the program's text (the seventh form; the later family's looks); each row that meets fmt, with fmt's text TOLD by the authors' own Lean function (tested against real Go, not proved from fmt's source: count such statements apart). THE CARD IS WHAT COUNTS. Prove the row's statement (the work); the ties are given (YtidfbboalbchiaaDoorTie.lean); close each card by the builder's one call (the guide's Derived/Test/ToyasCard.lean, 'card_holds'). Laid BY PROGRAM, IN A SANDBOX (cutbox-door.mjs). By AI agents, Wed Nov 11 2026. No macro, syntax, notation, axiom, sorry.
-/
import Derived.Test.YtidfbboalbchiaaDoorRows
import GoSem.ClaimSeven
namespace Go.Proofs.YtidfbboalbchiaaDoor
namespace Rows

/-- THE TIED CARD OF 'dioramalaw02.HashSumMatchesSpec'. -/
def hashSumMatchesSpecCard : Claim7 := { stood := { row := hashSumMatchesSpecRow, standIns := [], harness := (true, "265f835b154b156167d8227e0af4b57f9b7264fed4f6156f32e2dd0624db8fd8"), looks := false }, kinds := [], alts := [], laidByText := true, laidKinds := [.data, .data], laidTests := true, laidLooks := .later }
def HashSumMatchesSpecCardSaid : Prop := Claim7.holds Tryd.pinned (.plain (OpenSpec.ofChange hashSumMatchesSpecSpec)) hashSumMatchesSpecCard

/-- THE TIED CARD OF 'dioramalaw02.HashStreamsAgree'. -/
def hashStreamsAgreeCard : Claim7 := { stood := { row := hashStreamsAgreeRow, standIns := [], harness := (true, "265f835b154b156167d8227e0af4b57f9b7264fed4f6156f32e2dd0624db8fd8"), looks := false }, kinds := [], alts := [], laidByText := true, laidKinds := [.data, .data], laidTests := true, laidLooks := .later }
def HashStreamsAgreeCardSaid : Prop := Claim7.holds Tryd.pinned (.plain (OpenSpec.ofChange hashStreamsAgreeSpec)) hashStreamsAgreeCard

/-- THE TIED CARD OF 'dioramalaw02.HashMacMatchesSpec'. -/
def hashMacMatchesSpecCard : Claim7 := { stood := { row := hashMacMatchesSpecRow, standIns := [], harness := (true, "265f835b154b156167d8227e0af4b57f9b7264fed4f6156f32e2dd0624db8fd8"), looks := false }, kinds := [], alts := [], laidByText := true, laidKinds := [.data, .data], laidTests := true, laidLooks := .later }
def HashMacMatchesSpecCardSaid : Prop := Claim7.holds Tryd.pinned (.plain (OpenSpec.ofChange hashMacMatchesSpecSpec)) hashMacMatchesSpecCard

/-- THE TIED CARD OF 'dioramalaw02.HashMacKeys'. -/
def hashMacKeysCard : Claim7 := { stood := { row := hashMacKeysRow, standIns := [], harness := (true, "265f835b154b156167d8227e0af4b57f9b7264fed4f6156f32e2dd0624db8fd8"), looks := false }, kinds := [], alts := [], laidByText := true, laidKinds := [.data], laidTests := true, laidLooks := .later }
def HashMacKeysCardSaid : Prop := Claim7.holds Tryd.pinned (.plain (OpenSpec.ofChange hashMacKeysSpec)) hashMacKeysCard

/-- THE TIED CARD OF 'dioramalaw03.SignDigitsCross'. -/
def signDigitsCrossCard : Claim7 := { stood := { row := signDigitsCrossRow, standIns := [], harness := (true, "265f835b154b156167d8227e0af4b57f9b7264fed4f6156f32e2dd0624db8fd8"), looks := false }, kinds := [], alts := [], laidByText := true, laidKinds := [.data], laidTests := true, laidLooks := .later }
def SignDigitsCrossCardSaid : Prop := Claim7.holds Tryd.pinned (.plain (OpenSpec.ofChange signDigitsCrossSpec)) signDigitsCrossCard

/-- THE TIED CARD OF 'dioramalaw02.HashOfMatchesSpec'. -/
def hashOfMatchesSpecCard : Claim7 := { stood := { row := hashOfMatchesSpecRow, standIns := [], harness := (true, "265f835b154b156167d8227e0af4b57f9b7264fed4f6156f32e2dd0624db8fd8"), looks := false }, kinds := [], alts := [], laidByText := true, laidKinds := [.data, .data], laidTests := true, laidLooks := .later }
def HashOfMatchesSpecCardSaid : Prop := Claim7.holds Tryd.pinned (.plain (OpenSpec.ofChange hashOfMatchesSpecSpec)) hashOfMatchesSpecCard

/-- THE TIED CARD OF 'dioramalaw03.SignBindsTheIndex'. -/
def signBindsTheIndexCard : Claim7 := { stood := { row := signBindsTheIndexRow, standIns := [], harness := (true, "265f835b154b156167d8227e0af4b57f9b7264fed4f6156f32e2dd0624db8fd8"), looks := false }, kinds := [], alts := [], laidByText := true, laidKinds := [.data, .data], laidTests := true, laidLooks := .later }
def SignBindsTheIndexCardSaid : Prop := Claim7.holds Tryd.pinned (.plain (OpenSpec.ofChange signBindsTheIndexSpec)) signBindsTheIndexCard

/-- THE TIED CARD OF 'dioramalaw02.HashOfSeparates'. -/
def hashOfSeparatesCard : Claim7 := { stood := { row := hashOfSeparatesRow, standIns := [], harness := (true, "265f835b154b156167d8227e0af4b57f9b7264fed4f6156f32e2dd0624db8fd8"), looks := false }, kinds := [], alts := [], laidByText := true, laidKinds := [.data], laidTests := true, laidLooks := .later }
def HashOfSeparatesCardSaid : Prop := Claim7.holds Tryd.pinned (.plain (OpenSpec.ofChange hashOfSeparatesSpec)) hashOfSeparatesCard

/-- THE TIED CARD OF 'dioramalaw02.HashEqualIsEquality'. -/
def hashEqualIsEqualityCard : Claim7 := { stood := { row := hashEqualIsEqualityRow, standIns := [], harness := (true, "265f835b154b156167d8227e0af4b57f9b7264fed4f6156f32e2dd0624db8fd8"), looks := false }, kinds := [], alts := [], laidByText := true, laidKinds := [.data], laidTests := true, laidLooks := .later }
def HashEqualIsEqualityCardSaid : Prop := Claim7.holds Tryd.pinned (.plain (OpenSpec.ofChange hashEqualIsEqualitySpec)) hashEqualIsEqualityCard

/-- THE TIED CARD OF 'dioramalaw39.TreeRoots'. -/
def treeRootsCard : Claim7 := { stood := { row := treeRootsRow, standIns := [], harness := (true, "265f835b154b156167d8227e0af4b57f9b7264fed4f6156f32e2dd0624db8fd8"), looks := false }, kinds := [], alts := [], laidByText := true, laidKinds := [.data, .data], laidTests := true, laidLooks := .later }
def TreeRootsCardSaid : Prop := Claim7.holds Tryd.pinned (.plain (OpenSpec.ofChange treeRootsSpec)) treeRootsCard

/-- THE TIED CARD OF 'dioramalaw39.TreeChecks'. -/
def treeChecksCard : Claim7 := { stood := { row := treeChecksRow, standIns := [], harness := (true, "265f835b154b156167d8227e0af4b57f9b7264fed4f6156f32e2dd0624db8fd8"), looks := false }, kinds := [], alts := [], laidByText := true, laidKinds := [.data, .data], laidTests := true, laidLooks := .later }
def TreeChecksCardSaid : Prop := Claim7.holds Tryd.pinned (.plain (OpenSpec.ofChange treeChecksSpec)) treeChecksCard

/-- THE TIED CARD OF 'dioramalaw39.TreeExtends'. -/
def treeExtendsCard : Claim7 := { stood := { row := treeExtendsRow, standIns := [], harness := (true, "265f835b154b156167d8227e0af4b57f9b7264fed4f6156f32e2dd0624db8fd8"), looks := false }, kinds := [], alts := [], laidByText := true, laidKinds := [.data, .data], laidTests := true, laidLooks := .later }
def TreeExtendsCardSaid : Prop := Claim7.holds Tryd.pinned (.plain (OpenSpec.ofChange treeExtendsSpec)) treeExtendsCard

/-- THE TIED CARD OF 'dioramalaw39.TreeProved'. -/
def treeProvedCard : Claim7 := { stood := { row := treeProvedRow, standIns := [], harness := (true, "265f835b154b156167d8227e0af4b57f9b7264fed4f6156f32e2dd0624db8fd8"), looks := false }, kinds := [], alts := [], laidByText := true, laidKinds := [.data], laidTests := true, laidLooks := .later }
def TreeProvedCardSaid : Prop := Claim7.holds Tryd.pinned (.plain (OpenSpec.ofChange treeProvedSpec)) treeProvedCard

/-- THE TIED CARD OF 'dioramalaw39.TreeParts'. -/
def treePartsCard : Claim7 := { stood := { row := treePartsRow, standIns := [], harness := (true, "265f835b154b156167d8227e0af4b57f9b7264fed4f6156f32e2dd0624db8fd8"), looks := false }, kinds := [], alts := [], laidByText := true, laidKinds := [.data], laidTests := true, laidLooks := .later }
def TreePartsCardSaid : Prop := Claim7.holds Tryd.pinned (.plain (OpenSpec.ofChange treePartsSpec)) treePartsCard

/-- THE TIED CARD OF 'dioramalaw39.TreeWhole'. -/
def treeWholeCard : Claim7 := { stood := { row := treeWholeRow, standIns := [], harness := (true, "265f835b154b156167d8227e0af4b57f9b7264fed4f6156f32e2dd0624db8fd8"), looks := false }, kinds := [], alts := [], laidByText := true, laidKinds := [.data], laidTests := true, laidLooks := .later }
def TreeWholeCardSaid : Prop := Claim7.holds Tryd.pinned (.plain (OpenSpec.ofChange treeWholeSpec)) treeWholeCard

/-- THE TIED CARD OF 'dioramalaw03.SignDigitsMatchSpec'. -/
def signDigitsMatchSpecCard : Claim7 := { stood := { row := signDigitsMatchSpecRow, standIns := [], harness := (true, "265f835b154b156167d8227e0af4b57f9b7264fed4f6156f32e2dd0624db8fd8"), looks := false }, kinds := [], alts := [], laidByText := true, laidKinds := [.data], laidTests := true, laidLooks := .later }
def SignDigitsMatchSpecCardSaid : Prop := Claim7.holds Tryd.pinned (.plain (OpenSpec.ofChange signDigitsMatchSpecSpec)) signDigitsMatchSpecCard

/-- THE TIED CARD OF 'dioramalaw03.SignMakesAsSpecified'. -/
def signMakesAsSpecifiedCard : Claim7 := { stood := { row := signMakesAsSpecifiedRow, standIns := [], harness := (true, "265f835b154b156167d8227e0af4b57f9b7264fed4f6156f32e2dd0624db8fd8"), looks := false }, kinds := [], alts := [], laidByText := true, laidKinds := [.data, .data], laidTests := true, laidLooks := .later }
def SignMakesAsSpecifiedCardSaid : Prop := Claim7.holds Tryd.pinned (.plain (OpenSpec.ofChange signMakesAsSpecifiedSpec)) signMakesAsSpecifiedCard

/-- THE TIED CARD OF 'dioramalaw03.SignVerifiesAsSpecified'. -/
def signVerifiesAsSpecifiedCard : Claim7 := { stood := { row := signVerifiesAsSpecifiedRow, standIns := [], harness := (true, "265f835b154b156167d8227e0af4b57f9b7264fed4f6156f32e2dd0624db8fd8"), looks := false }, kinds := [], alts := [], laidByText := true, laidKinds := [.data, .data], laidTests := true, laidLooks := .later }
def SignVerifiesAsSpecifiedCardSaid : Prop := Claim7.holds Tryd.pinned (.plain (OpenSpec.ofChange signVerifiesAsSpecifiedSpec)) signVerifiesAsSpecifiedCard

/-- THE TIED CARD OF 'dioramalaw03.SignIsAccepted'. -/
def signIsAcceptedCard : Claim7 := { stood := { row := signIsAcceptedRow, standIns := [], harness := (true, "265f835b154b156167d8227e0af4b57f9b7264fed4f6156f32e2dd0624db8fd8"), looks := false }, kinds := [], alts := [], laidByText := true, laidKinds := [.data], laidTests := true, laidLooks := .later }
def SignIsAcceptedCardSaid : Prop := Claim7.holds Tryd.pinned (.plain (OpenSpec.ofChange signIsAcceptedSpec)) signIsAcceptedCard

/-- THE SECOND FORM's CARD OF 'dioramalaw02.HashSumMatchesSpec'. -/
def hashSumMatchesSpecUptoCard : Claim7 := { stood := { row := hashSumMatchesSpecUptoRow, standIns := [], harness := (true, "265f835b154b156167d8227e0af4b57f9b7264fed4f6156f32e2dd0624db8fd8"), looks := false }, kinds := [], alts := [], laidByText := true, laidKinds := [.data, .data], laidTests := true, laidLooks := .later }
def HashSumMatchesSpecUptoCardSaid : Prop := Claim7.holds Tryd.pinned (.plain (OpenSpec.upto hashSumMatchesSpecSpec)) hashSumMatchesSpecUptoCard

/-- THE SECOND FORM's CARD OF 'dioramalaw02.HashStreamsAgree'. -/
def hashStreamsAgreeUptoCard : Claim7 := { stood := { row := hashStreamsAgreeUptoRow, standIns := [], harness := (true, "265f835b154b156167d8227e0af4b57f9b7264fed4f6156f32e2dd0624db8fd8"), looks := false }, kinds := [], alts := [], laidByText := true, laidKinds := [.data, .data], laidTests := true, laidLooks := .later }
def HashStreamsAgreeUptoCardSaid : Prop := Claim7.holds Tryd.pinned (.plain (OpenSpec.upto hashStreamsAgreeSpec)) hashStreamsAgreeUptoCard

/-- THE SECOND FORM's CARD OF 'dioramalaw02.HashMacMatchesSpec'. -/
def hashMacMatchesSpecUptoCard : Claim7 := { stood := { row := hashMacMatchesSpecUptoRow, standIns := [], harness := (true, "265f835b154b156167d8227e0af4b57f9b7264fed4f6156f32e2dd0624db8fd8"), looks := false }, kinds := [], alts := [], laidByText := true, laidKinds := [.data, .data], laidTests := true, laidLooks := .later }
def HashMacMatchesSpecUptoCardSaid : Prop := Claim7.holds Tryd.pinned (.plain (OpenSpec.upto hashMacMatchesSpecSpec)) hashMacMatchesSpecUptoCard

/-- THE SECOND FORM's CARD OF 'dioramalaw02.HashMacKeys'. -/
def hashMacKeysUptoCard : Claim7 := { stood := { row := hashMacKeysUptoRow, standIns := [], harness := (true, "265f835b154b156167d8227e0af4b57f9b7264fed4f6156f32e2dd0624db8fd8"), looks := false }, kinds := [], alts := [], laidByText := true, laidKinds := [.data], laidTests := true, laidLooks := .later }
def HashMacKeysUptoCardSaid : Prop := Claim7.holds Tryd.pinned (.plain (OpenSpec.upto hashMacKeysSpec)) hashMacKeysUptoCard

/-- THE SECOND FORM's CARD OF 'dioramalaw03.SignDigitsCross'. -/
def signDigitsCrossUptoCard : Claim7 := { stood := { row := signDigitsCrossUptoRow, standIns := [], harness := (true, "265f835b154b156167d8227e0af4b57f9b7264fed4f6156f32e2dd0624db8fd8"), looks := false }, kinds := [], alts := [], laidByText := true, laidKinds := [.data], laidTests := true, laidLooks := .later }
def SignDigitsCrossUptoCardSaid : Prop := Claim7.holds Tryd.pinned (.plain (OpenSpec.upto signDigitsCrossSpec)) signDigitsCrossUptoCard

/-- THE SECOND FORM's CARD OF 'dioramalaw02.HashOfMatchesSpec'. -/
def hashOfMatchesSpecUptoCard : Claim7 := { stood := { row := hashOfMatchesSpecUptoRow, standIns := [], harness := (true, "265f835b154b156167d8227e0af4b57f9b7264fed4f6156f32e2dd0624db8fd8"), looks := false }, kinds := [], alts := [], laidByText := true, laidKinds := [.data, .data], laidTests := true, laidLooks := .later }
def HashOfMatchesSpecUptoCardSaid : Prop := Claim7.holds Tryd.pinned (.plain (OpenSpec.upto hashOfMatchesSpecSpec)) hashOfMatchesSpecUptoCard

/-- THE SECOND FORM's CARD OF 'dioramalaw03.SignBindsTheIndex'. -/
def signBindsTheIndexUptoCard : Claim7 := { stood := { row := signBindsTheIndexUptoRow, standIns := [], harness := (true, "265f835b154b156167d8227e0af4b57f9b7264fed4f6156f32e2dd0624db8fd8"), looks := false }, kinds := [], alts := [], laidByText := true, laidKinds := [.data, .data], laidTests := true, laidLooks := .later }
def SignBindsTheIndexUptoCardSaid : Prop := Claim7.holds Tryd.pinned (.plain (OpenSpec.upto signBindsTheIndexSpec)) signBindsTheIndexUptoCard

/-- THE SECOND FORM's CARD OF 'dioramalaw02.HashOfSeparates'. -/
def hashOfSeparatesUptoCard : Claim7 := { stood := { row := hashOfSeparatesUptoRow, standIns := [], harness := (true, "265f835b154b156167d8227e0af4b57f9b7264fed4f6156f32e2dd0624db8fd8"), looks := false }, kinds := [], alts := [], laidByText := true, laidKinds := [.data], laidTests := true, laidLooks := .later }
def HashOfSeparatesUptoCardSaid : Prop := Claim7.holds Tryd.pinned (.plain (OpenSpec.upto hashOfSeparatesSpec)) hashOfSeparatesUptoCard

/-- THE SECOND FORM's CARD OF 'dioramalaw02.HashEqualIsEquality'. -/
def hashEqualIsEqualityUptoCard : Claim7 := { stood := { row := hashEqualIsEqualityUptoRow, standIns := [], harness := (true, "265f835b154b156167d8227e0af4b57f9b7264fed4f6156f32e2dd0624db8fd8"), looks := false }, kinds := [], alts := [], laidByText := true, laidKinds := [.data], laidTests := true, laidLooks := .later }
def HashEqualIsEqualityUptoCardSaid : Prop := Claim7.holds Tryd.pinned (.plain (OpenSpec.upto hashEqualIsEqualitySpec)) hashEqualIsEqualityUptoCard

/-- THE SECOND FORM's CARD OF 'dioramalaw39.TreeRoots'. -/
def treeRootsUptoCard : Claim7 := { stood := { row := treeRootsUptoRow, standIns := [], harness := (true, "265f835b154b156167d8227e0af4b57f9b7264fed4f6156f32e2dd0624db8fd8"), looks := false }, kinds := [], alts := [], laidByText := true, laidKinds := [.data, .data], laidTests := true, laidLooks := .later }
def TreeRootsUptoCardSaid : Prop := Claim7.holds Tryd.pinned (.plain (OpenSpec.upto treeRootsSpec)) treeRootsUptoCard

/-- THE SECOND FORM's CARD OF 'dioramalaw39.TreeChecks'. -/
def treeChecksUptoCard : Claim7 := { stood := { row := treeChecksUptoRow, standIns := [], harness := (true, "265f835b154b156167d8227e0af4b57f9b7264fed4f6156f32e2dd0624db8fd8"), looks := false }, kinds := [], alts := [], laidByText := true, laidKinds := [.data, .data], laidTests := true, laidLooks := .later }
def TreeChecksUptoCardSaid : Prop := Claim7.holds Tryd.pinned (.plain (OpenSpec.upto treeChecksSpec)) treeChecksUptoCard

/-- THE SECOND FORM's CARD OF 'dioramalaw39.TreeExtends'. -/
def treeExtendsUptoCard : Claim7 := { stood := { row := treeExtendsUptoRow, standIns := [], harness := (true, "265f835b154b156167d8227e0af4b57f9b7264fed4f6156f32e2dd0624db8fd8"), looks := false }, kinds := [], alts := [], laidByText := true, laidKinds := [.data, .data], laidTests := true, laidLooks := .later }
def TreeExtendsUptoCardSaid : Prop := Claim7.holds Tryd.pinned (.plain (OpenSpec.upto treeExtendsSpec)) treeExtendsUptoCard

/-- THE SECOND FORM's CARD OF 'dioramalaw39.TreeProved'. -/
def treeProvedUptoCard : Claim7 := { stood := { row := treeProvedUptoRow, standIns := [], harness := (true, "265f835b154b156167d8227e0af4b57f9b7264fed4f6156f32e2dd0624db8fd8"), looks := false }, kinds := [], alts := [], laidByText := true, laidKinds := [.data], laidTests := true, laidLooks := .later }
def TreeProvedUptoCardSaid : Prop := Claim7.holds Tryd.pinned (.plain (OpenSpec.upto treeProvedSpec)) treeProvedUptoCard

/-- THE SECOND FORM's CARD OF 'dioramalaw39.TreeParts'. -/
def treePartsUptoCard : Claim7 := { stood := { row := treePartsUptoRow, standIns := [], harness := (true, "265f835b154b156167d8227e0af4b57f9b7264fed4f6156f32e2dd0624db8fd8"), looks := false }, kinds := [], alts := [], laidByText := true, laidKinds := [.data], laidTests := true, laidLooks := .later }
def TreePartsUptoCardSaid : Prop := Claim7.holds Tryd.pinned (.plain (OpenSpec.upto treePartsSpec)) treePartsUptoCard

/-- THE SECOND FORM's CARD OF 'dioramalaw39.TreeWhole'. -/
def treeWholeUptoCard : Claim7 := { stood := { row := treeWholeUptoRow, standIns := [], harness := (true, "265f835b154b156167d8227e0af4b57f9b7264fed4f6156f32e2dd0624db8fd8"), looks := false }, kinds := [], alts := [], laidByText := true, laidKinds := [.data], laidTests := true, laidLooks := .later }
def TreeWholeUptoCardSaid : Prop := Claim7.holds Tryd.pinned (.plain (OpenSpec.upto treeWholeSpec)) treeWholeUptoCard

/-- THE SECOND FORM's CARD OF 'dioramalaw03.SignDigitsMatchSpec'. -/
def signDigitsMatchSpecUptoCard : Claim7 := { stood := { row := signDigitsMatchSpecUptoRow, standIns := [], harness := (true, "265f835b154b156167d8227e0af4b57f9b7264fed4f6156f32e2dd0624db8fd8"), looks := false }, kinds := [], alts := [], laidByText := true, laidKinds := [.data], laidTests := true, laidLooks := .later }
def SignDigitsMatchSpecUptoCardSaid : Prop := Claim7.holds Tryd.pinned (.plain (OpenSpec.upto signDigitsMatchSpecSpec)) signDigitsMatchSpecUptoCard

/-- THE SECOND FORM's CARD OF 'dioramalaw03.SignMakesAsSpecified'. -/
def signMakesAsSpecifiedUptoCard : Claim7 := { stood := { row := signMakesAsSpecifiedUptoRow, standIns := [], harness := (true, "265f835b154b156167d8227e0af4b57f9b7264fed4f6156f32e2dd0624db8fd8"), looks := false }, kinds := [], alts := [], laidByText := true, laidKinds := [.data, .data], laidTests := true, laidLooks := .later }
def SignMakesAsSpecifiedUptoCardSaid : Prop := Claim7.holds Tryd.pinned (.plain (OpenSpec.upto signMakesAsSpecifiedSpec)) signMakesAsSpecifiedUptoCard

/-- THE SECOND FORM's CARD OF 'dioramalaw03.SignVerifiesAsSpecified'. -/
def signVerifiesAsSpecifiedUptoCard : Claim7 := { stood := { row := signVerifiesAsSpecifiedUptoRow, standIns := [], harness := (true, "265f835b154b156167d8227e0af4b57f9b7264fed4f6156f32e2dd0624db8fd8"), looks := false }, kinds := [], alts := [], laidByText := true, laidKinds := [.data, .data], laidTests := true, laidLooks := .later }
def SignVerifiesAsSpecifiedUptoCardSaid : Prop := Claim7.holds Tryd.pinned (.plain (OpenSpec.upto signVerifiesAsSpecifiedSpec)) signVerifiesAsSpecifiedUptoCard

/-- THE SECOND FORM's CARD OF 'dioramalaw03.SignIsAccepted'. -/
def signIsAcceptedUptoCard : Claim7 := { stood := { row := signIsAcceptedUptoRow, standIns := [], harness := (true, "265f835b154b156167d8227e0af4b57f9b7264fed4f6156f32e2dd0624db8fd8"), looks := false }, kinds := [], alts := [], laidByText := true, laidKinds := [.data], laidTests := true, laidLooks := .later }
def SignIsAcceptedUptoCardSaid : Prop := Claim7.holds Tryd.pinned (.plain (OpenSpec.upto signIsAcceptedSpec)) signIsAcceptedUptoCard
end Rows
end Go.Proofs.YtidfbboalbchiaaDoor
