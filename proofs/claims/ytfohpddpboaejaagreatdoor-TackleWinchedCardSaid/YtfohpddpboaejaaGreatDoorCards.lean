/-
  DERIVED. GIVEN WITH THE SEED: THE CARDS: each row of YtfohpddpboaejaaGreatDoorRows.lean that lists a variable, with what it lists TIED to the program's text (the seventh form; the later family's looks); each row that meets fmt, with fmt's text TOLD by the authors' own Lean function (tested against real Go, not proved from fmt's source: count such statements apart). THE CARD IS WHAT COUNTS. Prove the row's statement (the work); the ties are given (YtfohpddpboaejaaGreatDoorTie.lean); close each card by the builder's one call (the guide's Derived/Test/ToyasCard.lean, 'card_holds'). Laid BY PROGRAM, IN A SANDBOX (cutbox-door.mjs). By AI agents, Wed Nov 11 2026. No macro, syntax, notation, axiom, sorry.
-/
import Derived.Test.YtfohpddpboaejaaGreatDoorRows
import GoSem.ClaimSeven
namespace Go.Proofs.YtfohpddpboaejaaGreatDoor
namespace Rows

/-- THE TIED CARD OF 'laganlaw07.TackleManned'. -/
def tackleMannedCard : Claim7 := { stood := { row := tackleMannedRow, standIns := [], harness := (true, "7268d481d5cd4890fc3e51dc004ed55463d6f3c1cbd9cf0add1e476a9c0c0c57"), looks := false }, kinds := [], alts := [], goes := true, laidByText := true, laidKinds := [.funcs, .funcs], laidTests := true, laidLooks := .later }
def TackleMannedCardSaid : Prop := Claim7.holds Tryz.pinned (.plain (OpenSpec.ofChange tackleMannedSpec)) tackleMannedCard

/-- THE TIED CARD OF 'laganlaw07.TackleSwung'. -/
def tackleSwungCard : Claim7 := { stood := { row := tackleSwungRow, standIns := [], harness := (true, "7268d481d5cd4890fc3e51dc004ed55463d6f3c1cbd9cf0add1e476a9c0c0c57"), looks := false }, kinds := [], alts := [], goes := true, laidByText := true, laidKinds := [.funcs, .funcs], laidTests := true, laidLooks := .later }
def TackleSwungCardSaid : Prop := Claim7.holds Tryz.pinned (.plain (OpenSpec.ofChange tackleSwungSpec)) tackleSwungCard

/-- THE TIED CARD OF 'laganlaw07.TackleHulled'. -/
def tackleHulledCard : Claim7 := { stood := { row := tackleHulledRow, standIns := [], harness := (true, "7268d481d5cd4890fc3e51dc004ed55463d6f3c1cbd9cf0add1e476a9c0c0c57"), looks := false }, kinds := [], alts := [], goes := true, laidByText := true, laidKinds := [.funcs, .funcs], laidTests := true, laidLooks := .later }
def TackleHulledCardSaid : Prop := Claim7.holds Tryz.pinned (.plain (OpenSpec.ofChange tackleHulledSpec)) tackleHulledCard

/-- THE TIED CARD OF 'laganlaw07.TackleWinched'. -/
def tackleWinchedCard : Claim7 := { stood := { row := tackleWinchedRow, standIns := [], harness := (true, "7268d481d5cd4890fc3e51dc004ed55463d6f3c1cbd9cf0add1e476a9c0c0c57"), looks := false }, kinds := [], alts := [], goes := true, laidByText := true, laidKinds := [.funcs, .funcs], laidTests := true, laidLooks := .later }
def TackleWinchedCardSaid : Prop := Claim7.holds Tryz.pinned (.plain (OpenSpec.ofChange tackleWinchedSpec)) tackleWinchedCard

/-- THE TIED CARD OF 'laganlaw07.TackleLifted'. -/
def tackleLiftedCard : Claim7 := { stood := { row := tackleLiftedRow, standIns := [], harness := (true, "7268d481d5cd4890fc3e51dc004ed55463d6f3c1cbd9cf0add1e476a9c0c0c57"), looks := false }, kinds := [], alts := [], goes := true, laidByText := true, laidKinds := [.funcs, .funcs], laidTests := true, laidLooks := .later }
def TackleLiftedCardSaid : Prop := Claim7.holds Tryz.pinned (.plain (OpenSpec.ofChange tackleLiftedSpec)) tackleLiftedCard

/-- THE SECOND FORM's CARD OF 'laganlaw07.TackleManned'. -/
def tackleMannedUptoCard : Claim7 := { stood := { row := tackleMannedUptoRow, standIns := [], harness := (true, "7268d481d5cd4890fc3e51dc004ed55463d6f3c1cbd9cf0add1e476a9c0c0c57"), looks := false }, kinds := [], alts := [], goes := true, laidByText := true, laidKinds := [.funcs, .funcs], laidTests := true, laidLooks := .later }
def TackleMannedUptoCardSaid : Prop := Claim7.holds Tryz.pinned (.plain (OpenSpec.upto tackleMannedSpec)) tackleMannedUptoCard

/-- THE SECOND FORM's CARD OF 'laganlaw07.TackleSwung'. -/
def tackleSwungUptoCard : Claim7 := { stood := { row := tackleSwungUptoRow, standIns := [], harness := (true, "7268d481d5cd4890fc3e51dc004ed55463d6f3c1cbd9cf0add1e476a9c0c0c57"), looks := false }, kinds := [], alts := [], goes := true, laidByText := true, laidKinds := [.funcs, .funcs], laidTests := true, laidLooks := .later }
def TackleSwungUptoCardSaid : Prop := Claim7.holds Tryz.pinned (.plain (OpenSpec.upto tackleSwungSpec)) tackleSwungUptoCard

/-- THE SECOND FORM's CARD OF 'laganlaw07.TackleHulled'. -/
def tackleHulledUptoCard : Claim7 := { stood := { row := tackleHulledUptoRow, standIns := [], harness := (true, "7268d481d5cd4890fc3e51dc004ed55463d6f3c1cbd9cf0add1e476a9c0c0c57"), looks := false }, kinds := [], alts := [], goes := true, laidByText := true, laidKinds := [.funcs, .funcs], laidTests := true, laidLooks := .later }
def TackleHulledUptoCardSaid : Prop := Claim7.holds Tryz.pinned (.plain (OpenSpec.upto tackleHulledSpec)) tackleHulledUptoCard

/-- THE SECOND FORM's CARD OF 'laganlaw07.TackleWinched'. -/
def tackleWinchedUptoCard : Claim7 := { stood := { row := tackleWinchedUptoRow, standIns := [], harness := (true, "7268d481d5cd4890fc3e51dc004ed55463d6f3c1cbd9cf0add1e476a9c0c0c57"), looks := false }, kinds := [], alts := [], goes := true, laidByText := true, laidKinds := [.funcs, .funcs], laidTests := true, laidLooks := .later }
def TackleWinchedUptoCardSaid : Prop := Claim7.holds Tryz.pinned (.plain (OpenSpec.upto tackleWinchedSpec)) tackleWinchedUptoCard

/-- THE SECOND FORM's CARD OF 'laganlaw07.TackleLifted'. -/
def tackleLiftedUptoCard : Claim7 := { stood := { row := tackleLiftedUptoRow, standIns := [], harness := (true, "7268d481d5cd4890fc3e51dc004ed55463d6f3c1cbd9cf0add1e476a9c0c0c57"), looks := false }, kinds := [], alts := [], goes := true, laidByText := true, laidKinds := [.funcs, .funcs], laidTests := true, laidLooks := .later }
def TackleLiftedUptoCardSaid : Prop := Claim7.holds Tryz.pinned (.plain (OpenSpec.upto tackleLiftedSpec)) tackleLiftedUptoCard
end Rows
end Go.Proofs.YtfohpddpboaejaaGreatDoor
