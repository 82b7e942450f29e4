/-
  DERIVED. GIVEN WITH THE SEED: THE PROGRAM's TIES (one call each: nine closed facts by the kernel) AND EACH ROW's TIE, after the 31st guide's Derived/Test/Toyas{Tie, Card}.lean. No idea stands in it: it is a product of the set-up. Laid BY PROGRAM, IN A SANDBOX (cutbox-door.mjs). By AI agents, Wed Nov 11 2026. No macro, syntax, notation, axiom, sorry.
-/
import Derived.Test.YtfohpddpboaejaaGreatDoorRows
import Derived.LaidByTextLater
import Derived.SevenTiedAt
import Derived.LaidSub
import Derived.LaidOnce
namespace Go.Proofs.YtfohpddpboaejaaGreatDoor
open Go
set_option maxRecDepth 100000
theorem seatTie1 : Tryz.prog.laidByTextLater [("lagan/bearing.checks", Rows.laid_lagan_bearing_checks), ("lagan/bell.checks", Rows.laid_lagan_bell_checks), ("lagan/hull.checks", Rows.laid_lagan_hull_checks), ("lagan/stint.checks", Rows.laid_lagan_stint_checks), ("lagan/tackle.checks", Rows.laid_lagan_tackle_checks)] [.funcs, .funcs, .funcs, .funcs, .funcs] true :=
  Program.laidByTextLater_by_one 39 8 2 (by kernel_rfl) (by kernel_rfl) (by kernel_rfl) (by kernel_rfl) (by kernel_rfl) (by kernel_rfl) (fun _ _ => by kernel_rfl)
theorem noOwnUnsafe : Tryz.pinned.checked.prog.headLifts.contains "ownunsafe" = false := by kernel_rfl
theorem tie : Tryz.prog.laidByTextLater [("lagan/stint.checks", Rows.laid_lagan_stint_checks), ("lagan/tackle.checks", Rows.laid_lagan_tackle_checks)] [.funcs, .funcs] true :=
  Program.laidByTextLater.sub seatTie1 ["lagan/stint.checks", "lagan/tackle.checks"] (by kernel_rfl) (by kernel_rfl)
theorem tackleManned_row_tie : Rows.tackleMannedRow.laidByTextAt .later Tryz.pinned [.funcs, .funcs] true :=
  OpenClaim.laidByTextAt_later rfl rfl tie noOwnUnsafe
theorem tie2 : Tryz.prog.laidByTextLater [("lagan/bearing.checks", Rows.laid_lagan_bearing_checks), ("lagan/tackle.checks", Rows.laid_lagan_tackle_checks)] [.funcs, .funcs] true :=
  Program.laidByTextLater.sub seatTie1 ["lagan/bearing.checks", "lagan/tackle.checks"] (by kernel_rfl) (by kernel_rfl)
theorem tackleSwung_row_tie : Rows.tackleSwungRow.laidByTextAt .later Tryz.pinned [.funcs, .funcs] true :=
  OpenClaim.laidByTextAt_later rfl rfl tie2 noOwnUnsafe
theorem tie3 : Tryz.prog.laidByTextLater [("lagan/hull.checks", Rows.laid_lagan_hull_checks), ("lagan/tackle.checks", Rows.laid_lagan_tackle_checks)] [.funcs, .funcs] true :=
  Program.laidByTextLater.sub seatTie1 ["lagan/hull.checks", "lagan/tackle.checks"] (by kernel_rfl) (by kernel_rfl)
theorem tackleHulled_row_tie : Rows.tackleHulledRow.laidByTextAt .later Tryz.pinned [.funcs, .funcs] true :=
  OpenClaim.laidByTextAt_later rfl rfl tie3 noOwnUnsafe
theorem tackleLifted_row_tie : Rows.tackleLiftedRow.laidByTextAt .later Tryz.pinned [.funcs, .funcs] true :=
  OpenClaim.laidByTextAt_later rfl rfl tie3 noOwnUnsafe
theorem tie4 : Tryz.prog.laidByTextLater [("lagan/bell.checks", Rows.laid_lagan_bell_checks), ("lagan/tackle.checks", Rows.laid_lagan_tackle_checks)] [.funcs, .funcs] true :=
  Program.laidByTextLater.sub seatTie1 ["lagan/bell.checks", "lagan/tackle.checks"] (by kernel_rfl) (by kernel_rfl)
theorem tackleWinched_row_tie : Rows.tackleWinchedRow.laidByTextAt .later Tryz.pinned [.funcs, .funcs] true :=
  OpenClaim.laidByTextAt_later rfl rfl tie4 noOwnUnsafe
theorem tackleMannedUpto_row_tie : Rows.tackleMannedUptoRow.laidByTextAt .later Tryz.pinned [.funcs, .funcs] true :=
  OpenClaim.laidByTextAt_later rfl rfl tie noOwnUnsafe
theorem tackleSwungUpto_row_tie : Rows.tackleSwungUptoRow.laidByTextAt .later Tryz.pinned [.funcs, .funcs] true :=
  OpenClaim.laidByTextAt_later rfl rfl tie2 noOwnUnsafe
theorem tackleHulledUpto_row_tie : Rows.tackleHulledUptoRow.laidByTextAt .later Tryz.pinned [.funcs, .funcs] true :=
  OpenClaim.laidByTextAt_later rfl rfl tie3 noOwnUnsafe
theorem tackleWinchedUpto_row_tie : Rows.tackleWinchedUptoRow.laidByTextAt .later Tryz.pinned [.funcs, .funcs] true :=
  OpenClaim.laidByTextAt_later rfl rfl tie4 noOwnUnsafe
theorem tackleLiftedUpto_row_tie : Rows.tackleLiftedUptoRow.laidByTextAt .later Tryz.pinned [.funcs, .funcs] true :=
  OpenClaim.laidByTextAt_later rfl rfl tie3 noOwnUnsafe
end Go.Proofs.YtfohpddpboaejaaGreatDoor
