/-
  DERIVED. GIVEN WITH THE SEED: THE CARDS: each row of YtchjgmkeemdhlaaGreatDoorRows.lean that lists a variable, with what it lists TIED to the program's text (the seventh form; the later family's looks); each row that meets fmt, with fmt's text TOLD by the authors' own Lean function (tested against real Go, not proved from fmt's source: count such statements apart). THE CARD IS WHAT COUNTS. Prove the row's statement (the work); the ties are given (YtchjgmkeemdhlaaGreatDoorTie.lean); close each card by the builder's one call (the guide's Derived/Test/ToyasCard.lean, 'card_holds'). Laid BY PROGRAM, IN A SANDBOX (cutbox-door.mjs). By AI agents, Wed Nov 11 2026. No macro, syntax, notation, axiom, sorry.
-/
import Derived.Test.YtchjgmkeemdhlaaGreatDoorRows
import GoSem.ClaimSeven
namespace Go.Proofs.YtchjgmkeemdhlaaGreatDoor
namespace Rows

/-- THE TIED CARD OF 'laganlaw07.TacklePulls'. -/
def tacklePullsCard : Claim7 := { stood := { row := tacklePullsRow, standIns := [], harness := (true, "6ec45924a9ef3528b91853e2f3d4ce9a8ac3f7423f5bdc8d9ecf7c969235976f"), looks := true }, kinds := [], alts := [], goes := true, laidByText := true, laidKinds := [.funcs], laidTests := true, laidLooks := .later }
def TacklePullsCardSaid : Prop := Claim7.holds Tryz.pinned (.plain (OpenSpec.ofChange tacklePullsSpec)) tacklePullsCard

/-- THE TIED CARD OF 'laganlaw07.TackleCases'. -/
def tackleCasesCard : Claim7 := { stood := { row := tackleCasesRow, standIns := [], harness := (true, "6ec45924a9ef3528b91853e2f3d4ce9a8ac3f7423f5bdc8d9ecf7c969235976f"), looks := true }, kinds := [], alts := [], goes := true, laidByText := true, laidKinds := [.funcs], laidTests := true, laidLooks := .later }
def TackleCasesCardSaid : Prop := Claim7.holds Tryz.pinned (.plain (OpenSpec.ofChange tackleCasesSpec)) tackleCasesCard

/-- THE TIED CARD OF 'laganlaw07.TackleGears'. -/
def tackleGearsCard : Claim7 := { stood := { row := tackleGearsRow, standIns := [], harness := (true, "6ec45924a9ef3528b91853e2f3d4ce9a8ac3f7423f5bdc8d9ecf7c969235976f"), looks := true }, kinds := [], alts := [], goes := true, laidByText := true, laidKinds := [.funcs], laidTests := true, laidLooks := .later }
def TackleGearsCardSaid : Prop := Claim7.holds Tryz.pinned (.plain (OpenSpec.ofChange tackleGearsSpec)) tackleGearsCard

/-- THE TIED CARD OF 'laganlaw07.TackleReal'. -/
def tackleRealCard : Claim7 := { stood := { row := tackleRealRow, standIns := [], harness := (true, "6ec45924a9ef3528b91853e2f3d4ce9a8ac3f7423f5bdc8d9ecf7c969235976f"), looks := true }, kinds := [], alts := [], goes := true, laidByText := true, laidKinds := [.funcs], laidTests := true, laidLooks := .later }
def TackleRealCardSaid : Prop := Claim7.holds Tryz.pinned (.plain (OpenSpec.ofChange tackleRealSpec)) tackleRealCard

/-- THE TIED CARD OF 'laganlaw07.TacklePulled'. -/
def tacklePulledCard : Claim7 := { stood := { row := tacklePulledRow, standIns := [], harness := (true, "6ec45924a9ef3528b91853e2f3d4ce9a8ac3f7423f5bdc8d9ecf7c969235976f"), looks := true }, kinds := [], alts := [], goes := true, laidByText := true, laidKinds := [.funcs], laidTests := true, laidLooks := .later }
def TacklePulledCardSaid : Prop := Claim7.holds Tryz.pinned (.plain (OpenSpec.ofChange tacklePulledSpec)) tacklePulledCard

/-- THE TIED CARD OF 'laganlaw07.TackleCut'. -/
def tackleCutCard : Claim7 := { stood := { row := tackleCutRow, standIns := [], harness := (true, "6ec45924a9ef3528b91853e2f3d4ce9a8ac3f7423f5bdc8d9ecf7c969235976f"), looks := true }, kinds := [], alts := [], goes := true, laidByText := true, laidKinds := [.funcs], laidTests := true, laidLooks := .later }
def TackleCutCardSaid : Prop := Claim7.holds Tryz.pinned (.plain (OpenSpec.ofChange tackleCutSpec)) tackleCutCard

/-- THE TIED CARD OF 'laganlaw07.TackleClashes'. -/
def tackleClashesCard : Claim7 := { stood := { row := tackleClashesRow, standIns := [], harness := (true, "6ec45924a9ef3528b91853e2f3d4ce9a8ac3f7423f5bdc8d9ecf7c969235976f"), looks := true }, kinds := [], alts := [], goes := true, laidByText := true, laidKinds := [.funcs], laidTests := true, laidLooks := .later }
def TackleClashesCardSaid : Prop := Claim7.holds Tryz.pinned (.plain (OpenSpec.ofChange tackleClashesSpec)) tackleClashesCard

/-- THE TIED CARD OF 'laganlaw07.TackleAsked'. -/
def tackleAskedCard : Claim7 := { stood := { row := tackleAskedRow, standIns := [], harness := (true, "6ec45924a9ef3528b91853e2f3d4ce9a8ac3f7423f5bdc8d9ecf7c969235976f"), looks := true }, kinds := [], alts := [], goes := true, laidByText := true, laidKinds := [.funcs], laidTests := true, laidLooks := .later }
def TackleAskedCardSaid : Prop := Claim7.holds Tryz.pinned (.plain (OpenSpec.ofChange tackleAskedSpec)) tackleAskedCard

/-- THE TIED CARD OF 'laganlaw07.TackleMost'. -/
def tackleMostCard : Claim7 := { stood := { row := tackleMostRow, standIns := [], harness := (true, "6ec45924a9ef3528b91853e2f3d4ce9a8ac3f7423f5bdc8d9ecf7c969235976f"), looks := true }, kinds := [], alts := [], goes := true, laidByText := true, laidKinds := [.funcs], laidTests := true, laidLooks := .later }
def TackleMostCardSaid : Prop := Claim7.holds Tryz.pinned (.plain (OpenSpec.ofChange tackleMostSpec)) tackleMostCard

/-- THE TIED CARD OF 'laganlaw07.TackleFewest'. -/
def tackleFewestCard : Claim7 := { stood := { row := tackleFewestRow, standIns := [], harness := (true, "6ec45924a9ef3528b91853e2f3d4ce9a8ac3f7423f5bdc8d9ecf7c969235976f"), looks := true }, kinds := [], alts := [], goes := true, laidByText := true, laidKinds := [.funcs], laidTests := true, laidLooks := .later }
def TackleFewestCardSaid : Prop := Claim7.holds Tryz.pinned (.plain (OpenSpec.ofChange tackleFewestSpec)) tackleFewestCard

/-- THE TIED CARD OF 'laganlaw07.TackleShared'. -/
def tackleSharedCard : Claim7 := { stood := { row := tackleSharedRow, standIns := [], harness := (true, "6ec45924a9ef3528b91853e2f3d4ce9a8ac3f7423f5bdc8d9ecf7c969235976f"), looks := true }, kinds := [], alts := [], goes := true, laidByText := true, laidKinds := [.funcs], laidTests := true, laidLooks := .later }
def TackleSharedCardSaid : Prop := Claim7.holds Tryz.pinned (.plain (OpenSpec.ofChange tackleSharedSpec)) tackleSharedCard

/-- THE TIED CARD OF 'laganlaw07.TackleRenewed'. -/
def tackleRenewedCard : Claim7 := { stood := { row := tackleRenewedRow, standIns := [], harness := (true, "6ec45924a9ef3528b91853e2f3d4ce9a8ac3f7423f5bdc8d9ecf7c969235976f"), looks := true }, kinds := [], alts := [], goes := true, laidByText := true, laidKinds := [.funcs], laidTests := true, laidLooks := .later }
def TackleRenewedCardSaid : Prop := Claim7.holds Tryz.pinned (.plain (OpenSpec.ofChange tackleRenewedSpec)) tackleRenewedCard

/-- THE TIED CARD OF 'laganlaw07.TackleStronger'. -/
def tackleStrongerCard : Claim7 := { stood := { row := tackleStrongerRow, standIns := [], harness := (true, "6ec45924a9ef3528b91853e2f3d4ce9a8ac3f7423f5bdc8d9ecf7c969235976f"), looks := true }, kinds := [], alts := [], goes := true, laidByText := true, laidKinds := [.funcs], laidTests := true, laidLooks := .later }
def TackleStrongerCardSaid : Prop := Claim7.holds Tryz.pinned (.plain (OpenSpec.ofChange tackleStrongerSpec)) tackleStrongerCard

/-- THE TIED CARD OF 'laganlaw07.TackleAnyOrder'. -/
def tackleAnyOrderCard : Claim7 := { stood := { row := tackleAnyOrderRow, standIns := [], harness := (true, "6ec45924a9ef3528b91853e2f3d4ce9a8ac3f7423f5bdc8d9ecf7c969235976f"), looks := true }, kinds := [], alts := [], goes := true, laidByText := true, laidKinds := [.funcs], laidTests := true, laidLooks := .later }
def TackleAnyOrderCardSaid : Prop := Claim7.holds Tryz.pinned (.plain (OpenSpec.ofChange tackleAnyOrderSpec)) tackleAnyOrderCard

/-- THE TIED CARD OF 'laganlaw07.TackleReached'. -/
def tackleReachedCard : Claim7 := { stood := { row := tackleReachedRow, standIns := [], harness := (true, "6ec45924a9ef3528b91853e2f3d4ce9a8ac3f7423f5bdc8d9ecf7c969235976f"), looks := true }, kinds := [], alts := [], goes := true, laidByText := true, laidKinds := [.funcs], laidTests := true, laidLooks := .later }
def TackleReachedCardSaid : Prop := Claim7.holds Tryz.pinned (.plain (OpenSpec.ofChange tackleReachedSpec)) tackleReachedCard

/-- THE TIED CARD OF 'laganlaw07.TackleNews'. -/
def tackleNewsCard : Claim7 := { stood := { row := tackleNewsRow, standIns := [], harness := (true, "6ec45924a9ef3528b91853e2f3d4ce9a8ac3f7423f5bdc8d9ecf7c969235976f"), looks := true }, kinds := [], alts := [], goes := true, laidByText := true, laidKinds := [.funcs], laidTests := true, laidLooks := .later }
def TackleNewsCardSaid : Prop := Claim7.holds Tryz.pinned (.plain (OpenSpec.ofChange tackleNewsSpec)) tackleNewsCard

/-- THE TIED CARD OF 'laganlaw07.TackleLearnt'. -/
def tackleLearntCard : Claim7 := { stood := { row := tackleLearntRow, standIns := [], harness := (true, "6ec45924a9ef3528b91853e2f3d4ce9a8ac3f7423f5bdc8d9ecf7c969235976f"), looks := true }, kinds := [], alts := [], goes := true, laidByText := true, laidKinds := [.funcs], laidTests := true, laidLooks := .later }
def TackleLearntCardSaid : Prop := Claim7.holds Tryz.pinned (.plain (OpenSpec.ofChange tackleLearntSpec)) tackleLearntCard

/-- THE TIED CARD OF 'laganlaw07.TackleTexts'. -/
def tackleTextsCard : Claim7 := { stood := { row := tackleTextsRow, standIns := [], harness := (true, "6ec45924a9ef3528b91853e2f3d4ce9a8ac3f7423f5bdc8d9ecf7c969235976f"), looks := true }, kinds := [], alts := [], goes := true, laidByText := true, laidKinds := [.data, .data, .data, .data, .handle, .sentinel, .sentinel, .widerDeep, .funcs, .pinned], laidTests := true, laidLooks := .later }
def TackleTextsCardSaid : Prop := Claim7.holds Tryz.pinned (.plain (OpenSpec.ofChange tackleTextsSpec)) tackleTextsCard

/-- THE TIED CARD OF 'laganlaw07.TackleBack'. -/
def tackleBackCard : Claim7 := { stood := { row := tackleBackRow, standIns := [], harness := (true, "6ec45924a9ef3528b91853e2f3d4ce9a8ac3f7423f5bdc8d9ecf7c969235976f"), looks := true }, kinds := [], alts := [], goes := true, laidByText := true, laidKinds := [.data, .data, .data, .data, .handle, .sentinel, .sentinel, .widerDeep, .funcs, .pinned], laidTests := true, laidLooks := .later }
def TackleBackCardSaid : Prop := Claim7.holds Tryz.pinned (.plain (OpenSpec.ofChange tackleBackSpec)) tackleBackCard

/-- THE SECOND FORM's CARD OF 'laganlaw07.TacklePulls'. -/
def tacklePullsUptoCard : Claim7 := { stood := { row := tacklePullsUptoRow, standIns := [], harness := (true, "6ec45924a9ef3528b91853e2f3d4ce9a8ac3f7423f5bdc8d9ecf7c969235976f"), looks := true }, kinds := [], alts := [], goes := true, laidByText := true, laidKinds := [.funcs], laidTests := true, laidLooks := .later }
def TacklePullsUptoCardSaid : Prop := Claim7.holds Tryz.pinned (.plain (OpenSpec.upto tacklePullsSpec)) tacklePullsUptoCard

/-- THE SECOND FORM's CARD OF 'laganlaw07.TackleCases'. -/
def tackleCasesUptoCard : Claim7 := { stood := { row := tackleCasesUptoRow, standIns := [], harness := (true, "6ec45924a9ef3528b91853e2f3d4ce9a8ac3f7423f5bdc8d9ecf7c969235976f"), looks := true }, kinds := [], alts := [], goes := true, laidByText := true, laidKinds := [.funcs], laidTests := true, laidLooks := .later }
def TackleCasesUptoCardSaid : Prop := Claim7.holds Tryz.pinned (.plain (OpenSpec.upto tackleCasesSpec)) tackleCasesUptoCard

/-- THE SECOND FORM's CARD OF 'laganlaw07.TackleGears'. -/
def tackleGearsUptoCard : Claim7 := { stood := { row := tackleGearsUptoRow, standIns := [], harness := (true, "6ec45924a9ef3528b91853e2f3d4ce9a8ac3f7423f5bdc8d9ecf7c969235976f"), looks := true }, kinds := [], alts := [], goes := true, laidByText := true, laidKinds := [.funcs], laidTests := true, laidLooks := .later }
def TackleGearsUptoCardSaid : Prop := Claim7.holds Tryz.pinned (.plain (OpenSpec.upto tackleGearsSpec)) tackleGearsUptoCard

/-- THE SECOND FORM's CARD OF 'laganlaw07.TackleReal'. -/
def tackleRealUptoCard : Claim7 := { stood := { row := tackleRealUptoRow, standIns := [], harness := (true, "6ec45924a9ef3528b91853e2f3d4ce9a8ac3f7423f5bdc8d9ecf7c969235976f"), looks := true }, kinds := [], alts := [], goes := true, laidByText := true, laidKinds := [.funcs], laidTests := true, laidLooks := .later }
def TackleRealUptoCardSaid : Prop := Claim7.holds Tryz.pinned (.plain (OpenSpec.upto tackleRealSpec)) tackleRealUptoCard

/-- THE SECOND FORM's CARD OF 'laganlaw07.TacklePulled'. -/
def tacklePulledUptoCard : Claim7 := { stood := { row := tacklePulledUptoRow, standIns := [], harness := (true, "6ec45924a9ef3528b91853e2f3d4ce9a8ac3f7423f5bdc8d9ecf7c969235976f"), looks := true }, kinds := [], alts := [], goes := true, laidByText := true, laidKinds := [.funcs], laidTests := true, laidLooks := .later }
def TacklePulledUptoCardSaid : Prop := Claim7.holds Tryz.pinned (.plain (OpenSpec.upto tacklePulledSpec)) tacklePulledUptoCard

/-- THE SECOND FORM's CARD OF 'laganlaw07.TackleCut'. -/
def tackleCutUptoCard : Claim7 := { stood := { row := tackleCutUptoRow, standIns := [], harness := (true, "6ec45924a9ef3528b91853e2f3d4ce9a8ac3f7423f5bdc8d9ecf7c969235976f"), looks := true }, kinds := [], alts := [], goes := true, laidByText := true, laidKinds := [.funcs], laidTests := true, laidLooks := .later }
def TackleCutUptoCardSaid : Prop := Claim7.holds Tryz.pinned (.plain (OpenSpec.upto tackleCutSpec)) tackleCutUptoCard

/-- THE SECOND FORM's CARD OF 'laganlaw07.TackleClashes'. -/
def tackleClashesUptoCard : Claim7 := { stood := { row := tackleClashesUptoRow, standIns := [], harness := (true, "6ec45924a9ef3528b91853e2f3d4ce9a8ac3f7423f5bdc8d9ecf7c969235976f"), looks := true }, kinds := [], alts := [], goes := true, laidByText := true, laidKinds := [.funcs], laidTests := true, laidLooks := .later }
def TackleClashesUptoCardSaid : Prop := Claim7.holds Tryz.pinned (.plain (OpenSpec.upto tackleClashesSpec)) tackleClashesUptoCard

/-- THE SECOND FORM's CARD OF 'laganlaw07.TackleAsked'. -/
def tackleAskedUptoCard : Claim7 := { stood := { row := tackleAskedUptoRow, standIns := [], harness := (true, "6ec45924a9ef3528b91853e2f3d4ce9a8ac3f7423f5bdc8d9ecf7c969235976f"), looks := true }, kinds := [], alts := [], goes := true, laidByText := true, laidKinds := [.funcs], laidTests := true, laidLooks := .later }
def TackleAskedUptoCardSaid : Prop := Claim7.holds Tryz.pinned (.plain (OpenSpec.upto tackleAskedSpec)) tackleAskedUptoCard

/-- THE SECOND FORM's CARD OF 'laganlaw07.TackleMost'. -/
def tackleMostUptoCard : Claim7 := { stood := { row := tackleMostUptoRow, standIns := [], harness := (true, "6ec45924a9ef3528b91853e2f3d4ce9a8ac3f7423f5bdc8d9ecf7c969235976f"), looks := true }, kinds := [], alts := [], goes := true, laidByText := true, laidKinds := [.funcs], laidTests := true, laidLooks := .later }
def TackleMostUptoCardSaid : Prop := Claim7.holds Tryz.pinned (.plain (OpenSpec.upto tackleMostSpec)) tackleMostUptoCard

/-- THE SECOND FORM's CARD OF 'laganlaw07.TackleFewest'. -/
def tackleFewestUptoCard : Claim7 := { stood := { row := tackleFewestUptoRow, standIns := [], harness := (true, "6ec45924a9ef3528b91853e2f3d4ce9a8ac3f7423f5bdc8d9ecf7c969235976f"), looks := true }, kinds := [], alts := [], goes := true, laidByText := true, laidKinds := [.funcs], laidTests := true, laidLooks := .later }
def TackleFewestUptoCardSaid : Prop := Claim7.holds Tryz.pinned (.plain (OpenSpec.upto tackleFewestSpec)) tackleFewestUptoCard

/-- THE SECOND FORM's CARD OF 'laganlaw07.TackleShared'. -/
def tackleSharedUptoCard : Claim7 := { stood := { row := tackleSharedUptoRow, standIns := [], harness := (true, "6ec45924a9ef3528b91853e2f3d4ce9a8ac3f7423f5bdc8d9ecf7c969235976f"), looks := true }, kinds := [], alts := [], goes := true, laidByText := true, laidKinds := [.funcs], laidTests := true, laidLooks := .later }
def TackleSharedUptoCardSaid : Prop := Claim7.holds Tryz.pinned (.plain (OpenSpec.upto tackleSharedSpec)) tackleSharedUptoCard

/-- THE SECOND FORM's CARD OF 'laganlaw07.TackleRenewed'. -/
def tackleRenewedUptoCard : Claim7 := { stood := { row := tackleRenewedUptoRow, standIns := [], harness := (true, "6ec45924a9ef3528b91853e2f3d4ce9a8ac3f7423f5bdc8d9ecf7c969235976f"), looks := true }, kinds := [], alts := [], goes := true, laidByText := true, laidKinds := [.funcs], laidTests := true, laidLooks := .later }
def TackleRenewedUptoCardSaid : Prop := Claim7.holds Tryz.pinned (.plain (OpenSpec.upto tackleRenewedSpec)) tackleRenewedUptoCard

/-- THE SECOND FORM's CARD OF 'laganlaw07.TackleStronger'. -/
def tackleStrongerUptoCard : Claim7 := { stood := { row := tackleStrongerUptoRow, standIns := [], harness := (true, "6ec45924a9ef3528b91853e2f3d4ce9a8ac3f7423f5bdc8d9ecf7c969235976f"), looks := true }, kinds := [], alts := [], goes := true, laidByText := true, laidKinds := [.funcs], laidTests := true, laidLooks := .later }
def TackleStrongerUptoCardSaid : Prop := Claim7.holds Tryz.pinned (.plain (OpenSpec.upto tackleStrongerSpec)) tackleStrongerUptoCard

/-- THE SECOND FORM's CARD OF 'laganlaw07.TackleAnyOrder'. -/
def tackleAnyOrderUptoCard : Claim7 := { stood := { row := tackleAnyOrderUptoRow, standIns := [], harness := (true, "6ec45924a9ef3528b91853e2f3d4ce9a8ac3f7423f5bdc8d9ecf7c969235976f"), looks := true }, kinds := [], alts := [], goes := true, laidByText := true, laidKinds := [.funcs], laidTests := true, laidLooks := .later }
def TackleAnyOrderUptoCardSaid : Prop := Claim7.holds Tryz.pinned (.plain (OpenSpec.upto tackleAnyOrderSpec)) tackleAnyOrderUptoCard

/-- THE SECOND FORM's CARD OF 'laganlaw07.TackleReached'. -/
def tackleReachedUptoCard : Claim7 := { stood := { row := tackleReachedUptoRow, standIns := [], harness := (true, "6ec45924a9ef3528b91853e2f3d4ce9a8ac3f7423f5bdc8d9ecf7c969235976f"), looks := true }, kinds := [], alts := [], goes := true, laidByText := true, laidKinds := [.funcs], laidTests := true, laidLooks := .later }
def TackleReachedUptoCardSaid : Prop := Claim7.holds Tryz.pinned (.plain (OpenSpec.upto tackleReachedSpec)) tackleReachedUptoCard

/-- THE SECOND FORM's CARD OF 'laganlaw07.TackleNews'. -/
def tackleNewsUptoCard : Claim7 := { stood := { row := tackleNewsUptoRow, standIns := [], harness := (true, "6ec45924a9ef3528b91853e2f3d4ce9a8ac3f7423f5bdc8d9ecf7c969235976f"), looks := true }, kinds := [], alts := [], goes := true, laidByText := true, laidKinds := [.funcs], laidTests := true, laidLooks := .later }
def TackleNewsUptoCardSaid : Prop := Claim7.holds Tryz.pinned (.plain (OpenSpec.upto tackleNewsSpec)) tackleNewsUptoCard

/-- THE SECOND FORM's CARD OF 'laganlaw07.TackleLearnt'. -/
def tackleLearntUptoCard : Claim7 := { stood := { row := tackleLearntUptoRow, standIns := [], harness := (true, "6ec45924a9ef3528b91853e2f3d4ce9a8ac3f7423f5bdc8d9ecf7c969235976f"), looks := true }, kinds := [], alts := [], goes := true, laidByText := true, laidKinds := [.funcs], laidTests := true, laidLooks := .later }
def TackleLearntUptoCardSaid : Prop := Claim7.holds Tryz.pinned (.plain (OpenSpec.upto tackleLearntSpec)) tackleLearntUptoCard

/-- THE SECOND FORM's CARD OF 'laganlaw07.TackleTexts'. -/
def tackleTextsUptoCard : Claim7 := { stood := { row := tackleTextsUptoRow, standIns := [], harness := (true, "6ec45924a9ef3528b91853e2f3d4ce9a8ac3f7423f5bdc8d9ecf7c969235976f"), looks := true }, kinds := [], alts := [], goes := true, laidByText := true, laidKinds := [.data, .data, .data, .data, .handle, .sentinel, .sentinel, .widerDeep, .funcs, .pinned], laidTests := true, laidLooks := .later }
def TackleTextsUptoCardSaid : Prop := Claim7.holds Tryz.pinned (.plain (OpenSpec.upto tackleTextsSpec)) tackleTextsUptoCard

/-- THE SECOND FORM's CARD OF 'laganlaw07.TackleBack'. -/
def tackleBackUptoCard : Claim7 := { stood := { row := tackleBackUptoRow, standIns := [], harness := (true, "6ec45924a9ef3528b91853e2f3d4ce9a8ac3f7423f5bdc8d9ecf7c969235976f"), looks := true }, kinds := [], alts := [], goes := true, laidByText := true, laidKinds := [.data, .data, .data, .data, .handle, .sentinel, .sentinel, .widerDeep, .funcs, .pinned], laidTests := true, laidLooks := .later }
def TackleBackUptoCardSaid : Prop := Claim7.holds Tryz.pinned (.plain (OpenSpec.upto tackleBackSpec)) tackleBackUptoCard
end Rows
end Go.Proofs.YtchjgmkeemdhlaaGreatDoor
