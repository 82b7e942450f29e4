/-
  DERIVED. GIVEN WITH THE SEED: THE CARDS: each row of YtlkmnfdipiielaaGreatDoorRows.lean that lists a variable, with what it lists TIED to the program's text (the seventh form; the later family's looks); each row that meets fmt, with fmt's text TOLD by the authors' own Lean function (tested against real Go, not proved from fmt's source: count such statements apart). THE CARD IS WHAT COUNTS. Prove the row's statement (the work); the ties are given (YtlkmnfdipiielaaGreatDoorTie.lean); close each card by the builder's one call (the guide's Derived/Test/ToyasCard.lean, 'card_holds'). Laid BY PROGRAM, IN A SANDBOX (cutbox-door.mjs). By AI agents, Wed Nov 11 2026. No macro, syntax, notation, axiom, sorry.
-/
import Derived.Test.YtlkmnfdipiielaaGreatDoorRows
import GoSem.ClaimSeven
namespace Go.Proofs.YtlkmnfdipiielaaGreatDoor
namespace Rows

/-- THE TIED CARD OF 'laganlaw01.BearingTrue'. -/
def bearingTrueCard : Claim7 := { stood := { row := bearingTrueRow, standIns := [], harness := (true, "6da441031df1273c87b994104071112c0d6d76e328f9edd428a3df0ab3bd48e1"), looks := true }, kinds := [], alts := [], goes := true, laidByText := true, laidKinds := [.funcs], laidTests := true, laidLooks := .later }
def BearingTrueCardSaid : Prop := Claim7.holds Tryz.pinned (.plain (OpenSpec.ofChange bearingTrueSpec)) bearingTrueCard

/-- THE TIED CARD OF 'laganlaw01.BearingCases'. -/
def bearingCasesCard : Claim7 := { stood := { row := bearingCasesRow, standIns := [], harness := (true, "6da441031df1273c87b994104071112c0d6d76e328f9edd428a3df0ab3bd48e1"), looks := true }, kinds := [], alts := [], goes := true, laidByText := true, laidKinds := [.funcs], laidTests := true, laidLooks := .later }
def BearingCasesCardSaid : Prop := Claim7.holds Tryz.pinned (.plain (OpenSpec.ofChange bearingCasesSpec)) bearingCasesCard

/-- THE TIED CARD OF 'laganlaw01.BearingNews'. -/
def bearingNewsCard : Claim7 := { stood := { row := bearingNewsRow, standIns := [], harness := (true, "6da441031df1273c87b994104071112c0d6d76e328f9edd428a3df0ab3bd48e1"), looks := true }, kinds := [], alts := [], goes := true, laidByText := true, laidKinds := [.funcs], laidTests := true, laidLooks := .later }
def BearingNewsCardSaid : Prop := Claim7.holds Tryz.pinned (.plain (OpenSpec.ofChange bearingNewsSpec)) bearingNewsCard

/-- THE TIED CARD OF 'laganlaw01.BearingReal'. -/
def bearingRealCard : Claim7 := { stood := { row := bearingRealRow, standIns := [], harness := (true, "6da441031df1273c87b994104071112c0d6d76e328f9edd428a3df0ab3bd48e1"), looks := true }, kinds := [], alts := [], goes := true, laidByText := true, laidKinds := [.funcs], laidTests := true, laidLooks := .later }
def BearingRealCardSaid : Prop := Claim7.holds Tryz.pinned (.plain (OpenSpec.ofChange bearingRealSpec)) bearingRealCard

/-- THE TIED CARD OF 'laganlaw01.BearingReached'. -/
def bearingReachedCard : Claim7 := { stood := { row := bearingReachedRow, standIns := [], harness := (true, "6da441031df1273c87b994104071112c0d6d76e328f9edd428a3df0ab3bd48e1"), looks := true }, kinds := [], alts := [], goes := true, laidByText := true, laidKinds := [.funcs], laidTests := true, laidLooks := .later }
def BearingReachedCardSaid : Prop := Claim7.holds Tryz.pinned (.plain (OpenSpec.ofChange bearingReachedSpec)) bearingReachedCard

/-- THE TIED CARD OF 'laganlaw01.BearingTurned'. -/
def bearingTurnedCard : Claim7 := { stood := { row := bearingTurnedRow, standIns := [], harness := (true, "6da441031df1273c87b994104071112c0d6d76e328f9edd428a3df0ab3bd48e1"), looks := true }, kinds := [], alts := [], goes := true, laidByText := true, laidKinds := [.funcs], laidTests := true, laidLooks := .later }
def BearingTurnedCardSaid : Prop := Claim7.holds Tryz.pinned (.plain (OpenSpec.ofChange bearingTurnedSpec)) bearingTurnedCard

/-- THE TIED CARD OF 'laganlaw01.BearingAsked'. -/
def bearingAskedCard : Claim7 := { stood := { row := bearingAskedRow, standIns := [], harness := (true, "6da441031df1273c87b994104071112c0d6d76e328f9edd428a3df0ab3bd48e1"), looks := true }, kinds := [], alts := [], goes := true, laidByText := true, laidKinds := [.funcs], laidTests := true, laidLooks := .later }
def BearingAskedCardSaid : Prop := Claim7.holds Tryz.pinned (.plain (OpenSpec.ofChange bearingAskedSpec)) bearingAskedCard

/-- THE TIED CARD OF 'laganlaw01.BearingLearnt'. -/
def bearingLearntCard : Claim7 := { stood := { row := bearingLearntRow, standIns := [], harness := (true, "6da441031df1273c87b994104071112c0d6d76e328f9edd428a3df0ab3bd48e1"), looks := true }, kinds := [], alts := [], goes := true, laidByText := true, laidKinds := [.funcs], laidTests := true, laidLooks := .later }
def BearingLearntCardSaid : Prop := Claim7.holds Tryz.pinned (.plain (OpenSpec.ofChange bearingLearntSpec)) bearingLearntCard

/-- THE TIED CARD OF 'laganlaw01.BearingMoved'. -/
def bearingMovedCard : Claim7 := { stood := { row := bearingMovedRow, standIns := [], harness := (true, "6da441031df1273c87b994104071112c0d6d76e328f9edd428a3df0ab3bd48e1"), looks := true }, kinds := [], alts := [], goes := true, laidByText := true, laidKinds := [.funcs], laidTests := true, laidLooks := .later }
def BearingMovedCardSaid : Prop := Claim7.holds Tryz.pinned (.plain (OpenSpec.ofChange bearingMovedSpec)) bearingMovedCard

/-- THE TIED CARD OF 'laganlaw01.BearingAnyOrder'. -/
def bearingAnyOrderCard : Claim7 := { stood := { row := bearingAnyOrderRow, standIns := [], harness := (true, "6da441031df1273c87b994104071112c0d6d76e328f9edd428a3df0ab3bd48e1"), looks := true }, kinds := [], alts := [], goes := true, laidByText := true, laidKinds := [.funcs], laidTests := true, laidLooks := .later }
def BearingAnyOrderCardSaid : Prop := Claim7.holds Tryz.pinned (.plain (OpenSpec.ofChange bearingAnyOrderSpec)) bearingAnyOrderCard

/-- THE TIED CARD OF 'laganlaw01.BearingWitnesses'. -/
def bearingWitnessesCard : Claim7 := { stood := { row := bearingWitnessesRow, standIns := [], harness := (true, "6da441031df1273c87b994104071112c0d6d76e328f9edd428a3df0ab3bd48e1"), looks := true }, kinds := [], alts := [], goes := true, laidByText := true, laidKinds := [.funcs], laidTests := true, laidLooks := .later }
def BearingWitnessesCardSaid : Prop := Claim7.holds Tryz.pinned (.plain (OpenSpec.ofChange bearingWitnessesSpec)) bearingWitnessesCard

/-- THE TIED CARD OF 'laganlaw01.BearingFewest'. -/
def bearingFewestCard : Claim7 := { stood := { row := bearingFewestRow, standIns := [], harness := (true, "6da441031df1273c87b994104071112c0d6d76e328f9edd428a3df0ab3bd48e1"), looks := true }, kinds := [], alts := [], goes := true, laidByText := true, laidKinds := [.funcs], laidTests := true, laidLooks := .later }
def BearingFewestCardSaid : Prop := Claim7.holds Tryz.pinned (.plain (OpenSpec.ofChange bearingFewestSpec)) bearingFewestCard

/-- THE TIED CARD OF 'laganlaw01.BearingClashes'. -/
def bearingClashesCard : Claim7 := { stood := { row := bearingClashesRow, standIns := [], harness := (true, "6da441031df1273c87b994104071112c0d6d76e328f9edd428a3df0ab3bd48e1"), looks := true }, kinds := [], alts := [], goes := true, laidByText := true, laidKinds := [.funcs], laidTests := true, laidLooks := .later }
def BearingClashesCardSaid : Prop := Claim7.holds Tryz.pinned (.plain (OpenSpec.ofChange bearingClashesSpec)) bearingClashesCard

/-- THE TIED CARD OF 'laganlaw01.BearingTexts'. -/
def bearingTextsCard : Claim7 := { stood := { row := bearingTextsRow, standIns := [], harness := (true, "6da441031df1273c87b994104071112c0d6d76e328f9edd428a3df0ab3bd48e1"), looks := true }, kinds := [], alts := [], goes := true, laidByText := true, laidKinds := [.data, .data, .data, .data, .handle, .sentinel, .sentinel, .funcs, .widerDeep, .pinned], laidTests := true, laidLooks := .later }
def BearingTextsCardSaid : Prop := Claim7.holds Tryz.pinned (.plain (OpenSpec.ofChange bearingTextsSpec)) bearingTextsCard

/-- THE TIED CARD OF 'laganlaw01.BearingBack'. -/
def bearingBackCard : Claim7 := { stood := { row := bearingBackRow, standIns := [], harness := (true, "6da441031df1273c87b994104071112c0d6d76e328f9edd428a3df0ab3bd48e1"), looks := true }, kinds := [], alts := [], goes := true, laidByText := true, laidKinds := [.data, .data, .data, .data, .handle, .sentinel, .sentinel, .funcs, .widerDeep, .pinned], laidTests := true, laidLooks := .later }
def BearingBackCardSaid : Prop := Claim7.holds Tryz.pinned (.plain (OpenSpec.ofChange bearingBackSpec)) bearingBackCard

/-- THE SECOND FORM's CARD OF 'laganlaw01.BearingTrue'. -/
def bearingTrueUptoCard : Claim7 := { stood := { row := bearingTrueUptoRow, standIns := [], harness := (true, "6da441031df1273c87b994104071112c0d6d76e328f9edd428a3df0ab3bd48e1"), looks := true }, kinds := [], alts := [], goes := true, laidByText := true, laidKinds := [.funcs], laidTests := true, laidLooks := .later }
def BearingTrueUptoCardSaid : Prop := Claim7.holds Tryz.pinned (.plain (OpenSpec.upto bearingTrueSpec)) bearingTrueUptoCard

/-- THE SECOND FORM's CARD OF 'laganlaw01.BearingCases'. -/
def bearingCasesUptoCard : Claim7 := { stood := { row := bearingCasesUptoRow, standIns := [], harness := (true, "6da441031df1273c87b994104071112c0d6d76e328f9edd428a3df0ab3bd48e1"), looks := true }, kinds := [], alts := [], goes := true, laidByText := true, laidKinds := [.funcs], laidTests := true, laidLooks := .later }
def BearingCasesUptoCardSaid : Prop := Claim7.holds Tryz.pinned (.plain (OpenSpec.upto bearingCasesSpec)) bearingCasesUptoCard

/-- THE SECOND FORM's CARD OF 'laganlaw01.BearingNews'. -/
def bearingNewsUptoCard : Claim7 := { stood := { row := bearingNewsUptoRow, standIns := [], harness := (true, "6da441031df1273c87b994104071112c0d6d76e328f9edd428a3df0ab3bd48e1"), looks := true }, kinds := [], alts := [], goes := true, laidByText := true, laidKinds := [.funcs], laidTests := true, laidLooks := .later }
def BearingNewsUptoCardSaid : Prop := Claim7.holds Tryz.pinned (.plain (OpenSpec.upto bearingNewsSpec)) bearingNewsUptoCard

/-- THE SECOND FORM's CARD OF 'laganlaw01.BearingReal'. -/
def bearingRealUptoCard : Claim7 := { stood := { row := bearingRealUptoRow, standIns := [], harness := (true, "6da441031df1273c87b994104071112c0d6d76e328f9edd428a3df0ab3bd48e1"), looks := true }, kinds := [], alts := [], goes := true, laidByText := true, laidKinds := [.funcs], laidTests := true, laidLooks := .later }
def BearingRealUptoCardSaid : Prop := Claim7.holds Tryz.pinned (.plain (OpenSpec.upto bearingRealSpec)) bearingRealUptoCard

/-- THE SECOND FORM's CARD OF 'laganlaw01.BearingReached'. -/
def bearingReachedUptoCard : Claim7 := { stood := { row := bearingReachedUptoRow, standIns := [], harness := (true, "6da441031df1273c87b994104071112c0d6d76e328f9edd428a3df0ab3bd48e1"), looks := true }, kinds := [], alts := [], goes := true, laidByText := true, laidKinds := [.funcs], laidTests := true, laidLooks := .later }
def BearingReachedUptoCardSaid : Prop := Claim7.holds Tryz.pinned (.plain (OpenSpec.upto bearingReachedSpec)) bearingReachedUptoCard

/-- THE SECOND FORM's CARD OF 'laganlaw01.BearingTurned'. -/
def bearingTurnedUptoCard : Claim7 := { stood := { row := bearingTurnedUptoRow, standIns := [], harness := (true, "6da441031df1273c87b994104071112c0d6d76e328f9edd428a3df0ab3bd48e1"), looks := true }, kinds := [], alts := [], goes := true, laidByText := true, laidKinds := [.funcs], laidTests := true, laidLooks := .later }
def BearingTurnedUptoCardSaid : Prop := Claim7.holds Tryz.pinned (.plain (OpenSpec.upto bearingTurnedSpec)) bearingTurnedUptoCard

/-- THE SECOND FORM's CARD OF 'laganlaw01.BearingAsked'. -/
def bearingAskedUptoCard : Claim7 := { stood := { row := bearingAskedUptoRow, standIns := [], harness := (true, "6da441031df1273c87b994104071112c0d6d76e328f9edd428a3df0ab3bd48e1"), looks := true }, kinds := [], alts := [], goes := true, laidByText := true, laidKinds := [.funcs], laidTests := true, laidLooks := .later }
def BearingAskedUptoCardSaid : Prop := Claim7.holds Tryz.pinned (.plain (OpenSpec.upto bearingAskedSpec)) bearingAskedUptoCard

/-- THE SECOND FORM's CARD OF 'laganlaw01.BearingLearnt'. -/
def bearingLearntUptoCard : Claim7 := { stood := { row := bearingLearntUptoRow, standIns := [], harness := (true, "6da441031df1273c87b994104071112c0d6d76e328f9edd428a3df0ab3bd48e1"), looks := true }, kinds := [], alts := [], goes := true, laidByText := true, laidKinds := [.funcs], laidTests := true, laidLooks := .later }
def BearingLearntUptoCardSaid : Prop := Claim7.holds Tryz.pinned (.plain (OpenSpec.upto bearingLearntSpec)) bearingLearntUptoCard

/-- THE SECOND FORM's CARD OF 'laganlaw01.BearingMoved'. -/
def bearingMovedUptoCard : Claim7 := { stood := { row := bearingMovedUptoRow, standIns := [], harness := (true, "6da441031df1273c87b994104071112c0d6d76e328f9edd428a3df0ab3bd48e1"), looks := true }, kinds := [], alts := [], goes := true, laidByText := true, laidKinds := [.funcs], laidTests := true, laidLooks := .later }
def BearingMovedUptoCardSaid : Prop := Claim7.holds Tryz.pinned (.plain (OpenSpec.upto bearingMovedSpec)) bearingMovedUptoCard

/-- THE SECOND FORM's CARD OF 'laganlaw01.BearingAnyOrder'. -/
def bearingAnyOrderUptoCard : Claim7 := { stood := { row := bearingAnyOrderUptoRow, standIns := [], harness := (true, "6da441031df1273c87b994104071112c0d6d76e328f9edd428a3df0ab3bd48e1"), looks := true }, kinds := [], alts := [], goes := true, laidByText := true, laidKinds := [.funcs], laidTests := true, laidLooks := .later }
def BearingAnyOrderUptoCardSaid : Prop := Claim7.holds Tryz.pinned (.plain (OpenSpec.upto bearingAnyOrderSpec)) bearingAnyOrderUptoCard

/-- THE SECOND FORM's CARD OF 'laganlaw01.BearingWitnesses'. -/
def bearingWitnessesUptoCard : Claim7 := { stood := { row := bearingWitnessesUptoRow, standIns := [], harness := (true, "6da441031df1273c87b994104071112c0d6d76e328f9edd428a3df0ab3bd48e1"), looks := true }, kinds := [], alts := [], goes := true, laidByText := true, laidKinds := [.funcs], laidTests := true, laidLooks := .later }
def BearingWitnessesUptoCardSaid : Prop := Claim7.holds Tryz.pinned (.plain (OpenSpec.upto bearingWitnessesSpec)) bearingWitnessesUptoCard

/-- THE SECOND FORM's CARD OF 'laganlaw01.BearingFewest'. -/
def bearingFewestUptoCard : Claim7 := { stood := { row := bearingFewestUptoRow, standIns := [], harness := (true, "6da441031df1273c87b994104071112c0d6d76e328f9edd428a3df0ab3bd48e1"), looks := true }, kinds := [], alts := [], goes := true, laidByText := true, laidKinds := [.funcs], laidTests := true, laidLooks := .later }
def BearingFewestUptoCardSaid : Prop := Claim7.holds Tryz.pinned (.plain (OpenSpec.upto bearingFewestSpec)) bearingFewestUptoCard

/-- THE SECOND FORM's CARD OF 'laganlaw01.BearingClashes'. -/
def bearingClashesUptoCard : Claim7 := { stood := { row := bearingClashesUptoRow, standIns := [], harness := (true, "6da441031df1273c87b994104071112c0d6d76e328f9edd428a3df0ab3bd48e1"), looks := true }, kinds := [], alts := [], goes := true, laidByText := true, laidKinds := [.funcs], laidTests := true, laidLooks := .later }
def BearingClashesUptoCardSaid : Prop := Claim7.holds Tryz.pinned (.plain (OpenSpec.upto bearingClashesSpec)) bearingClashesUptoCard

/-- THE SECOND FORM's CARD OF 'laganlaw01.BearingTexts'. -/
def bearingTextsUptoCard : Claim7 := { stood := { row := bearingTextsUptoRow, standIns := [], harness := (true, "6da441031df1273c87b994104071112c0d6d76e328f9edd428a3df0ab3bd48e1"), looks := true }, kinds := [], alts := [], goes := true, laidByText := true, laidKinds := [.data, .data, .data, .data, .handle, .sentinel, .sentinel, .funcs, .widerDeep, .pinned], laidTests := true, laidLooks := .later }
def BearingTextsUptoCardSaid : Prop := Claim7.holds Tryz.pinned (.plain (OpenSpec.upto bearingTextsSpec)) bearingTextsUptoCard

/-- THE SECOND FORM's CARD OF 'laganlaw01.BearingBack'. -/
def bearingBackUptoCard : Claim7 := { stood := { row := bearingBackUptoRow, standIns := [], harness := (true, "6da441031df1273c87b994104071112c0d6d76e328f9edd428a3df0ab3bd48e1"), looks := true }, kinds := [], alts := [], goes := true, laidByText := true, laidKinds := [.data, .data, .data, .data, .handle, .sentinel, .sentinel, .funcs, .widerDeep, .pinned], laidTests := true, laidLooks := .later }
def BearingBackUptoCardSaid : Prop := Claim7.holds Tryz.pinned (.plain (OpenSpec.upto bearingBackSpec)) bearingBackUptoCard
end Rows
end Go.Proofs.YtlkmnfdipiielaaGreatDoor
