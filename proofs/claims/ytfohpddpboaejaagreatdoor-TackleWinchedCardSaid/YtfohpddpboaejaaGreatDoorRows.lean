/-
  NARROWER THAN 'FOR EVERY INPUT', by the rows' own cells (each row's printed sentence says how): TackleManned: laid · TackleSwung: laid · TackleHulled: laid · TackleWinched: laid · TackleLifted: laid.
  DERIVED. THE GIVEN ROWS OF THIS SEAT. 5 by the template 'for every input the law returns true; each argument reads behind the call as it read before'; 0 by the template 'total and deterministic' (their statements: YtfohpddpboaejaaGreatDoorTotals.lean).
  GIVEN WITH THE SEED: the statements are not yours to turn. If you find one false, say at which input.
  Laid BY PROGRAM, IN A SANDBOX (cutbox-rows.mjs): the forced cells as the released guide's own fill.sh prints them over the translation ad015a8adb86769b… (all of the seat's roots in one cut). By AI agents, Wed Nov 11 2026. No macro, syntax, notation, axiom, sorry.
-/
import Derived.Test.YtfohpddpboaejaaGreatDoorChecked
import GoSem.Claim
import GoSem.ClaimJoined
import GoSem.ClaimMapViews
import Derived.JoinedTies
import Derived.KernelRfl
namespace Go.Proofs.YtfohpddpboaejaaGreatDoor
/- THE CELL 'sum', in the pinned program and in every row, IS THE sha256 OF THE DUMP (.gsa) THAT YtfohpddpboaejaaGreatDoorProg.lean LOADS. Nothing in Lean hashes anything: it is a label: what it is worth is what the hold of that sum in a sandbox is worth. -/
noncomputable def Tryz.pinned : Pinned := { name := "ytfohpddpboaejaagreatdoor", sum := "ad015a8adb86769bc7fb34590826e6e753f8d5d954c321226c9e8123d4c683d0", checked := Tryz.checked }
namespace Rows
def none {H : Type} : Left H := { results := [], args := [] }

/- WHAT THE LISTED PACKAGE-LEVEL VARIABLES READ AS WHEN THE CALL BEGINS. Each datum BY PROGRAM (the guide's laid-datum.mjs) off the statement by which the dump's own 'gosem.cut.vars' lays the variable. In a bare row this is a premise. The card (YtfohpddpboaejaaGreatDoorCards.lean) ties it to the program's text. -/
def laid_lagan_stint_checks {H : Type} : DataW H := .iface "func table" (.agg [.iface "func" (.lit (.string [40, 108, 97, 103, 97, 110, 47, 115, 116, 105, 110, 116, 46, 98, 111, 111, 107, 41, 46, 114, 101, 115, 116])), .iface "func" (.lit (.string [40, 108, 97, 103, 97, 110, 47, 115, 116, 105, 110, 116, 46, 98, 111, 111, 107, 41, 46, 116, 97, 98, 108, 101])), .iface "func" (.lit (.string [40, 108, 97, 103, 97, 110, 47, 115, 116, 105, 110, 116, 46, 98, 111, 111, 107, 41, 46, 112, 108, 97, 99, 101, 115])), .iface "func" (.lit (.string [40, 108, 97, 103, 97, 110, 47, 115, 116, 105, 110, 116, 46, 98, 111, 111, 107, 41, 46, 109, 101, 110])), .iface "func" (.lit (.string [40, 108, 97, 103, 97, 110, 47, 115, 116, 105, 110, 116, 46, 98, 111, 111, 107, 41, 46, 100, 105, 118, 101, 115])), .iface "func" (.lit (.string [40, 108, 97, 103, 97, 110, 47, 115, 116, 105, 110, 116, 46, 98, 111, 111, 107, 41, 46, 115, 111, 117, 110, 100, 105, 110, 103, 115]))])
def laid_lagan_tackle_checks {H : Type} : DataW H := .iface "func table" (.agg [.iface "func" (.lit (.string [40, 108, 97, 103, 97, 110, 47, 116, 97, 99, 107, 108, 101, 46, 98, 111, 111, 107, 41, 46, 119, 105, 110, 99, 104])), .iface "func" (.lit (.string [40, 108, 97, 103, 97, 110, 47, 116, 97, 99, 107, 108, 101, 46, 98, 111, 111, 107, 41, 46, 112, 97, 114, 116, 115])), .iface "func" (.lit (.string [40, 108, 97, 103, 97, 110, 47, 116, 97, 99, 107, 108, 101, 46, 98, 111, 111, 107, 41, 46, 103, 101, 97, 114, 115])), .iface "func" (.lit (.string [40, 108, 97, 103, 97, 110, 47, 116, 97, 99, 107, 108, 101, 46, 98, 111, 111, 107, 41, 46, 112, 105, 101, 99, 101, 115])), .iface "func" (.lit (.string [40, 108, 97, 103, 97, 110, 47, 116, 97, 99, 107, 108, 101, 46, 98, 111, 111, 107, 41, 46, 116, 101, 115, 116, 115]))])
def laid_lagan_bearing_checks {H : Type} : DataW H := .iface "func table" (.agg [.iface "func" (.lit (.string [40, 108, 97, 103, 97, 110, 47, 98, 101, 97, 114, 105, 110, 103, 46, 98, 111, 111, 107, 41, 46, 99, 104, 97, 114, 116])), .iface "func" (.lit (.string [40, 108, 97, 103, 97, 110, 47, 98, 101, 97, 114, 105, 110, 103, 46, 98, 111, 111, 107, 41, 46, 99, 111, 109, 112, 97, 115, 115, 101, 115])), .iface "func" (.lit (.string [40, 108, 97, 103, 97, 110, 47, 98, 101, 97, 114, 105, 110, 103, 46, 98, 111, 111, 107, 41, 46, 119, 105, 116, 110, 101, 115, 115, 101, 115]))])
def laid_lagan_hull_checks {H : Type} : DataW H := .iface "func table" (.agg [.iface "func" (.lit (.string [40, 108, 97, 103, 97, 110, 47, 104, 117, 108, 108, 46, 98, 111, 111, 107, 41, 46, 104, 117, 108, 108])), .iface "func" (.lit (.string [40, 108, 97, 103, 97, 110, 47, 104, 117, 108, 108, 46, 98, 111, 111, 107, 41, 46, 112, 105, 101, 99, 101, 115])), .iface "func" (.lit (.string [40, 108, 97, 103, 97, 110, 47, 104, 117, 108, 108, 46, 98, 111, 111, 107, 41, 46, 111, 117, 116])), .iface "func" (.lit (.string [40, 108, 97, 103, 97, 110, 47, 104, 117, 108, 108, 46, 98, 111, 111, 107, 41, 46, 104, 101, 101, 108, 115]))])
def laid_lagan_bell_checks {H : Type} : DataW H := .iface "func table" (.agg [.agg [.iface "func" (.lit (.string [40, 108, 97, 103, 97, 110, 47, 98, 101, 108, 108, 46, 98, 111, 111, 107, 41, 46, 98, 101, 108, 108]))], .agg [.iface "func" (.lit (.string [40, 108, 97, 103, 97, 110, 47, 98, 101, 108, 108, 46, 98, 111, 111, 107, 41, 46, 117, 115, 101, 115]))], .agg [.iface "func" (.lit (.string [40, 108, 97, 103, 97, 110, 47, 98, 101, 108, 108, 46, 98, 111, 111, 107, 41, 46, 109, 101, 110]))], .agg [.iface "func" (.lit (.string [40, 108, 97, 103, 97, 110, 47, 98, 101, 108, 108, 46, 98, 111, 111, 107, 41, 46, 115, 101, 110, 116]))], .agg [.iface "func" (.lit (.string [40, 108, 97, 103, 97, 110, 47, 98, 101, 108, 108, 46, 98, 111, 111, 107, 41, 46, 109, 97, 114, 107, 115]))]])

/-- 'laganlaw07.TackleManned': WHATEVER THE INPUT: true; the input reads as it did. -/
def tackleMannedSpec : ChangeSpec := { name := "tackleManned", fn := fun _ => fun
  | [d1, d2, d3, d4, d5, d6] => { results := [.lit (.bool true)], args := [d1, d2, d3, d4, d5, d6] }
  | _ => none }
def tackleMannedRow : OpenClaim := { program := "ytfohpddpboaejaagreatdoor", sum := "ad015a8adb86769bc7fb34590826e6e753f8d5d954c321226c9e8123d4c683d0", func := "lagan/laganlaw07.TackleManned", spec := "tackleManned", inPlace := ["(*sync.WaitGroup).Add", "internal/race.ReleaseMerge", "internal/race.Disable", "internal/race.Enable", "internal/synctest.IsInBubble", "internal/synctest.Associate[sync.WaitGroup]", "sync.fatal", "sync/atomic.OrUint64", "sync/atomic.AddUint64", "internal/race.Read", "sync/atomic.LoadUint64", "sync/atomic.StoreUint64", "internal/synctest.Disassociate[sync.WaitGroup]", "sync.runtime_Semrelease", "(*sync.WaitGroup).Done", "(*sync.WaitGroup).Wait", "internal/race.Acquire", "internal/synctest.IsAssociated[sync.WaitGroup]", "sync/atomic.CompareAndSwapUint64", "internal/race.Write", "sync.runtime_SemacquireWaitGroup"], unfollowed := true, recurses := true, named := ["lagan/tackle.checks", "lagan/stint.checks"], plainKeys := false, leaving := true, apart := false, laid := [("lagan/stint.checks", laid_lagan_stint_checks), ("lagan/tackle.checks", laid_lagan_tackle_checks)] }
def TackleMannedSaid : Prop := tackleMannedRow.holds Tryz.pinned (OpenSpec.ofChange tackleMannedSpec)

/-- ITS FALSE NEIGHBOUR: 'it returns false'. Refute it at one input. -/
def tackleMannedWrong : ChangeSpec := { name := "tackleManned", fn := fun _ => fun
  | [d1, d2, d3, d4, d5, d6] => { results := [.lit (.bool false)], args := [d1, d2, d3, d4, d5, d6] }
  | _ => none }
def TackleMannedWrongFalsely : Prop := tackleMannedRow.holds Tryz.pinned (OpenSpec.ofChange tackleMannedWrong)

/-- 'laganlaw07.TackleSwung': WHATEVER THE INPUT: true; the input reads as it did. -/
def tackleSwungSpec : ChangeSpec := { name := "tackleSwung", fn := fun _ => fun
  | [d1, d2, d3, d4, d5, d6, d7, d8, d9] => { results := [.lit (.bool true)], args := [d1, d2, d3, d4, d5, d6, d7, d8, d9] }
  | _ => none }
def tackleSwungRow : OpenClaim := { program := "ytfohpddpboaejaagreatdoor", sum := "ad015a8adb86769bc7fb34590826e6e753f8d5d954c321226c9e8123d4c683d0", func := "lagan/laganlaw07.TackleSwung", spec := "tackleSwung", inPlace := ["(*sync.WaitGroup).Add", "internal/race.ReleaseMerge", "internal/race.Disable", "internal/race.Enable", "internal/synctest.IsInBubble", "internal/synctest.Associate[sync.WaitGroup]", "sync.fatal", "sync/atomic.OrUint64", "sync/atomic.AddUint64", "internal/race.Read", "sync/atomic.LoadUint64", "sync/atomic.StoreUint64", "internal/synctest.Disassociate[sync.WaitGroup]", "sync.runtime_Semrelease", "(*sync.WaitGroup).Done", "(*sync.WaitGroup).Wait", "internal/race.Acquire", "internal/synctest.IsAssociated[sync.WaitGroup]", "sync/atomic.CompareAndSwapUint64", "internal/race.Write", "sync.runtime_SemacquireWaitGroup"], unfollowed := true, recurses := true, named := ["lagan/tackle.checks", "lagan/bearing.checks"], plainKeys := false, leaving := true, apart := false, laid := [("lagan/bearing.checks", laid_lagan_bearing_checks), ("lagan/tackle.checks", laid_lagan_tackle_checks)] }
def TackleSwungSaid : Prop := tackleSwungRow.holds Tryz.pinned (OpenSpec.ofChange tackleSwungSpec)

/-- ITS FALSE NEIGHBOUR: 'it returns false'. Refute it at one input. -/
def tackleSwungWrong : ChangeSpec := { name := "tackleSwung", fn := fun _ => fun
  | [d1, d2, d3, d4, d5, d6, d7, d8, d9] => { results := [.lit (.bool false)], args := [d1, d2, d3, d4, d5, d6, d7, d8, d9] }
  | _ => none }
def TackleSwungWrongFalsely : Prop := tackleSwungRow.holds Tryz.pinned (OpenSpec.ofChange tackleSwungWrong)

/-- 'laganlaw07.TackleHulled': WHATEVER THE INPUT: true; the input reads as it did. -/
def tackleHulledSpec : ChangeSpec := { name := "tackleHulled", fn := fun _ => fun
  | [d1, d2, d3, d4, d5, d6, d7, d8] => { results := [.lit (.bool true)], args := [d1, d2, d3, d4, d5, d6, d7, d8] }
  | _ => none }
def tackleHulledRow : OpenClaim := { program := "ytfohpddpboaejaagreatdoor", sum := "ad015a8adb86769bc7fb34590826e6e753f8d5d954c321226c9e8123d4c683d0", func := "lagan/laganlaw07.TackleHulled", spec := "tackleHulled", inPlace := ["(*sync.WaitGroup).Add", "internal/race.ReleaseMerge", "internal/race.Disable", "internal/race.Enable", "internal/synctest.IsInBubble", "internal/synctest.Associate[sync.WaitGroup]", "sync.fatal", "sync/atomic.OrUint64", "sync/atomic.AddUint64", "internal/race.Read", "sync/atomic.LoadUint64", "sync/atomic.StoreUint64", "internal/synctest.Disassociate[sync.WaitGroup]", "sync.runtime_Semrelease", "(*sync.WaitGroup).Done", "(*sync.WaitGroup).Wait", "internal/race.Acquire", "internal/synctest.IsAssociated[sync.WaitGroup]", "sync/atomic.CompareAndSwapUint64", "internal/race.Write", "sync.runtime_SemacquireWaitGroup"], unfollowed := true, recurses := true, named := ["lagan/tackle.checks", "lagan/hull.checks"], plainKeys := false, leaving := true, apart := false, laid := [("lagan/hull.checks", laid_lagan_hull_checks), ("lagan/tackle.checks", laid_lagan_tackle_checks)] }
def TackleHulledSaid : Prop := tackleHulledRow.holds Tryz.pinned (OpenSpec.ofChange tackleHulledSpec)

/-- ITS FALSE NEIGHBOUR: 'it returns false'. Refute it at one input. -/
def tackleHulledWrong : ChangeSpec := { name := "tackleHulled", fn := fun _ => fun
  | [d1, d2, d3, d4, d5, d6, d7, d8] => { results := [.lit (.bool false)], args := [d1, d2, d3, d4, d5, d6, d7, d8] }
  | _ => none }
def TackleHulledWrongFalsely : Prop := tackleHulledRow.holds Tryz.pinned (OpenSpec.ofChange tackleHulledWrong)

/-- 'laganlaw07.TackleWinched': WHATEVER THE INPUT: true; the input reads as it did. -/
def tackleWinchedSpec : ChangeSpec := { name := "tackleWinched", fn := fun _ => fun
  | [d1, d2, d3, d4, d5, d6] => { results := [.lit (.bool true)], args := [d1, d2, d3, d4, d5, d6] }
  | _ => none }
def tackleWinchedRow : OpenClaim := { program := "ytfohpddpboaejaagreatdoor", sum := "ad015a8adb86769bc7fb34590826e6e753f8d5d954c321226c9e8123d4c683d0", func := "lagan/laganlaw07.TackleWinched", spec := "tackleWinched", inPlace := ["(*sync.WaitGroup).Add", "internal/race.ReleaseMerge", "internal/race.Disable", "internal/race.Enable", "internal/synctest.IsInBubble", "internal/synctest.Associate[sync.WaitGroup]", "sync.fatal", "sync/atomic.OrUint64", "sync/atomic.AddUint64", "internal/race.Read", "sync/atomic.LoadUint64", "sync/atomic.StoreUint64", "internal/synctest.Disassociate[sync.WaitGroup]", "sync.runtime_Semrelease", "(*sync.WaitGroup).Done", "(*sync.WaitGroup).Wait", "internal/race.Acquire", "internal/synctest.IsAssociated[sync.WaitGroup]", "sync/atomic.CompareAndSwapUint64", "internal/race.Write", "sync.runtime_SemacquireWaitGroup"], unfollowed := true, recurses := true, named := ["lagan/tackle.checks", "lagan/bell.checks"], plainKeys := false, leaving := true, apart := false, laid := [("lagan/bell.checks", laid_lagan_bell_checks), ("lagan/tackle.checks", laid_lagan_tackle_checks)] }
def TackleWinchedSaid : Prop := tackleWinchedRow.holds Tryz.pinned (OpenSpec.ofChange tackleWinchedSpec)

/-- ITS FALSE NEIGHBOUR: 'it returns false'. Refute it at one input. -/
def tackleWinchedWrong : ChangeSpec := { name := "tackleWinched", fn := fun _ => fun
  | [d1, d2, d3, d4, d5, d6] => { results := [.lit (.bool false)], args := [d1, d2, d3, d4, d5, d6] }
  | _ => none }
def TackleWinchedWrongFalsely : Prop := tackleWinchedRow.holds Tryz.pinned (OpenSpec.ofChange tackleWinchedWrong)

/-- 'laganlaw07.TackleLifted': WHATEVER THE INPUT: true; the input reads as it did. -/
def tackleLiftedSpec : ChangeSpec := { name := "tackleLifted", fn := fun _ => fun
  | [d1, d2, d3] => { results := [.lit (.bool true)], args := [d1, d2, d3] }
  | _ => none }
def tackleLiftedRow : OpenClaim := { program := "ytfohpddpboaejaagreatdoor", sum := "ad015a8adb86769bc7fb34590826e6e753f8d5d954c321226c9e8123d4c683d0", func := "lagan/laganlaw07.TackleLifted", spec := "tackleLifted", inPlace := ["(*sync.WaitGroup).Add", "internal/race.ReleaseMerge", "internal/race.Disable", "internal/race.Enable", "internal/synctest.IsInBubble", "internal/synctest.Associate[sync.WaitGroup]", "sync.fatal", "sync/atomic.OrUint64", "sync/atomic.AddUint64", "internal/race.Read", "sync/atomic.LoadUint64", "sync/atomic.StoreUint64", "internal/synctest.Disassociate[sync.WaitGroup]", "sync.runtime_Semrelease", "(*sync.WaitGroup).Done", "(*sync.WaitGroup).Wait", "internal/race.Acquire", "internal/synctest.IsAssociated[sync.WaitGroup]", "sync/atomic.CompareAndSwapUint64", "internal/race.Write", "sync.runtime_SemacquireWaitGroup"], unfollowed := true, recurses := true, named := ["lagan/tackle.checks", "lagan/hull.checks"], plainKeys := false, leaving := true, apart := false, laid := [("lagan/hull.checks", laid_lagan_hull_checks), ("lagan/tackle.checks", laid_lagan_tackle_checks)] }
def TackleLiftedSaid : Prop := tackleLiftedRow.holds Tryz.pinned (OpenSpec.ofChange tackleLiftedSpec)

/-- ITS FALSE NEIGHBOUR: 'it returns false'. Refute it at one input. -/
def tackleLiftedWrong : ChangeSpec := { name := "tackleLifted", fn := fun _ => fun
  | [d1, d2, d3] => { results := [.lit (.bool false)], args := [d1, d2, d3] }
  | _ => none }
def TackleLiftedWrongFalsely : Prop := tackleLiftedRow.holds Tryz.pinned (OpenSpec.ofChange tackleLiftedWrong)

/- THE SECOND FORM. 'bulk': how many values and letters a reading holds, each counted each time it is reached (what is shared counts as often as it is met; a slice's spare places count too). A statement '..UptoSaid' is the law's where the arguments, and the package variables that the reading takes, are together of bulk at most 1048576: NARROWER than '..Said'. Prove '..Said' where nothing that the law and all that it calls make is longer than what came in: it says more and counts as full. Else prove '..UptoSaid'. A law counts once. -/
mutual
def uptoBulk {H : Type} : DataW H → Nat
  | .lit (.string bytes) => bytes.length + 1
  | .lit _ => 1
  | .nil => 1
  | .ptr d => uptoBulk d + 1
  | .slice elems spare => uptoBulkAll elems + uptoBulkAll spare + 1
  | .agg parts => uptoBulkAll parts + 1
  | .iface _ d => uptoBulk d + 1
  | .map entries => uptoBulkEntries entries + 1
  | .held _ => 1
def uptoBulkAll {H : Type} : List (DataW H) → Nat
  | [] => 0
  | d :: r => uptoBulk d + uptoBulkAll r
def uptoBulkEntries {H : Type} : List (Lit × DataW H) → Nat
  | [] => 0
  | x :: r => uptoBulkEntry x + uptoBulkEntries r
def uptoBulkEntry {H : Type} : Lit × DataW H → Nat
  | (.string bytes, d) => bytes.length + uptoBulk d + 1
  | (_, d) => uptoBulk d + 1
 end
def uptoSmall : (H : Type) → List (DataW H) → Bool := fun _ ds => decide (uptoBulkAll ds ≤ 1048576)
def OpenSpec.upto (s : _root_.Go.ChangeSpec) : _root_.Go.OpenSpec := { _root_.Go.OpenSpec.ofChange s with cond := some uptoSmall }

/-- 'laganlaw07.TackleManned', WHERE WHAT IT READS IS OF BULK AT MOST 1048576: true; the input reads as it did. -/
def tackleMannedUptoRow : OpenClaim := { program := "ytfohpddpboaejaagreatdoor", sum := "ad015a8adb86769bc7fb34590826e6e753f8d5d954c321226c9e8123d4c683d0", func := "lagan/laganlaw07.TackleManned", spec := "tackleManned", inPlace := ["(*sync.WaitGroup).Add", "internal/race.ReleaseMerge", "internal/race.Disable", "internal/race.Enable", "internal/synctest.IsInBubble", "internal/synctest.Associate[sync.WaitGroup]", "sync.fatal", "sync/atomic.OrUint64", "sync/atomic.AddUint64", "internal/race.Read", "sync/atomic.LoadUint64", "sync/atomic.StoreUint64", "internal/synctest.Disassociate[sync.WaitGroup]", "sync.runtime_Semrelease", "(*sync.WaitGroup).Done", "(*sync.WaitGroup).Wait", "internal/race.Acquire", "internal/synctest.IsAssociated[sync.WaitGroup]", "sync/atomic.CompareAndSwapUint64", "internal/race.Write", "sync.runtime_SemacquireWaitGroup"], unfollowed := true, recurses := true, named := ["lagan/tackle.checks", "lagan/stint.checks"], plainKeys := false, leaving := true, apart := false, laid := [("lagan/stint.checks", laid_lagan_stint_checks), ("lagan/tackle.checks", laid_lagan_tackle_checks)], narrowed := true }
def TackleMannedUptoSaid : Prop := tackleMannedUptoRow.holds Tryz.pinned (OpenSpec.upto tackleMannedSpec)

/-- 'laganlaw07.TackleSwung', WHERE WHAT IT READS IS OF BULK AT MOST 1048576: true; the input reads as it did. -/
def tackleSwungUptoRow : OpenClaim := { program := "ytfohpddpboaejaagreatdoor", sum := "ad015a8adb86769bc7fb34590826e6e753f8d5d954c321226c9e8123d4c683d0", func := "lagan/laganlaw07.TackleSwung", spec := "tackleSwung", inPlace := ["(*sync.WaitGroup).Add", "internal/race.ReleaseMerge", "internal/race.Disable", "internal/race.Enable", "internal/synctest.IsInBubble", "internal/synctest.Associate[sync.WaitGroup]", "sync.fatal", "sync/atomic.OrUint64", "sync/atomic.AddUint64", "internal/race.Read", "sync/atomic.LoadUint64", "sync/atomic.StoreUint64", "internal/synctest.Disassociate[sync.WaitGroup]", "sync.runtime_Semrelease", "(*sync.WaitGroup).Done", "(*sync.WaitGroup).Wait", "internal/race.Acquire", "internal/synctest.IsAssociated[sync.WaitGroup]", "sync/atomic.CompareAndSwapUint64", "internal/race.Write", "sync.runtime_SemacquireWaitGroup"], unfollowed := true, recurses := true, named := ["lagan/tackle.checks", "lagan/bearing.checks"], plainKeys := false, leaving := true, apart := false, laid := [("lagan/bearing.checks", laid_lagan_bearing_checks), ("lagan/tackle.checks", laid_lagan_tackle_checks)], narrowed := true }
def TackleSwungUptoSaid : Prop := tackleSwungUptoRow.holds Tryz.pinned (OpenSpec.upto tackleSwungSpec)

/-- 'laganlaw07.TackleHulled', WHERE WHAT IT READS IS OF BULK AT MOST 1048576: true; the input reads as it did. -/
def tackleHulledUptoRow : OpenClaim := { program := "ytfohpddpboaejaagreatdoor", sum := "ad015a8adb86769bc7fb34590826e6e753f8d5d954c321226c9e8123d4c683d0", func := "lagan/laganlaw07.TackleHulled", spec := "tackleHulled", inPlace := ["(*sync.WaitGroup).Add", "internal/race.ReleaseMerge", "internal/race.Disable", "internal/race.Enable", "internal/synctest.IsInBubble", "internal/synctest.Associate[sync.WaitGroup]", "sync.fatal", "sync/atomic.OrUint64", "sync/atomic.AddUint64", "internal/race.Read", "sync/atomic.LoadUint64", "sync/atomic.StoreUint64", "internal/synctest.Disassociate[sync.WaitGroup]", "sync.runtime_Semrelease", "(*sync.WaitGroup).Done", "(*sync.WaitGroup).Wait", "internal/race.Acquire", "internal/synctest.IsAssociated[sync.WaitGroup]", "sync/atomic.CompareAndSwapUint64", "internal/race.Write", "sync.runtime_SemacquireWaitGroup"], unfollowed := true, recurses := true, named := ["lagan/tackle.checks", "lagan/hull.checks"], plainKeys := false, leaving := true, apart := false, laid := [("lagan/hull.checks", laid_lagan_hull_checks), ("lagan/tackle.checks", laid_lagan_tackle_checks)], narrowed := true }
def TackleHulledUptoSaid : Prop := tackleHulledUptoRow.holds Tryz.pinned (OpenSpec.upto tackleHulledSpec)

/-- 'laganlaw07.TackleWinched', WHERE WHAT IT READS IS OF BULK AT MOST 1048576: true; the input reads as it did. -/
def tackleWinchedUptoRow : OpenClaim := { program := "ytfohpddpboaejaagreatdoor", sum := "ad015a8adb86769bc7fb34590826e6e753f8d5d954c321226c9e8123d4c683d0", func := "lagan/laganlaw07.TackleWinched", spec := "tackleWinched", inPlace := ["(*sync.WaitGroup).Add", "internal/race.ReleaseMerge", "internal/race.Disable", "internal/race.Enable", "internal/synctest.IsInBubble", "internal/synctest.Associate[sync.WaitGroup]", "sync.fatal", "sync/atomic.OrUint64", "sync/atomic.AddUint64", "internal/race.Read", "sync/atomic.LoadUint64", "sync/atomic.StoreUint64", "internal/synctest.Disassociate[sync.WaitGroup]", "sync.runtime_Semrelease", "(*sync.WaitGroup).Done", "(*sync.WaitGroup).Wait", "internal/race.Acquire", "internal/synctest.IsAssociated[sync.WaitGroup]", "sync/atomic.CompareAndSwapUint64", "internal/race.Write", "sync.runtime_SemacquireWaitGroup"], unfollowed := true, recurses := true, named := ["lagan/tackle.checks", "lagan/bell.checks"], plainKeys := false, leaving := true, apart := false, laid := [("lagan/bell.checks", laid_lagan_bell_checks), ("lagan/tackle.checks", laid_lagan_tackle_checks)], narrowed := true }
def TackleWinchedUptoSaid : Prop := tackleWinchedUptoRow.holds Tryz.pinned (OpenSpec.upto tackleWinchedSpec)

/-- 'laganlaw07.TackleLifted', WHERE WHAT IT READS IS OF BULK AT MOST 1048576: true; the input reads as it did. -/
def tackleLiftedUptoRow : OpenClaim := { program := "ytfohpddpboaejaagreatdoor", sum := "ad015a8adb86769bc7fb34590826e6e753f8d5d954c321226c9e8123d4c683d0", func := "lagan/laganlaw07.TackleLifted", spec := "tackleLifted", inPlace := ["(*sync.WaitGroup).Add", "internal/race.ReleaseMerge", "internal/race.Disable", "internal/race.Enable", "internal/synctest.IsInBubble", "internal/synctest.Associate[sync.WaitGroup]", "sync.fatal", "sync/atomic.OrUint64", "sync/atomic.AddUint64", "internal/race.Read", "sync/atomic.LoadUint64", "sync/atomic.StoreUint64", "internal/synctest.Disassociate[sync.WaitGroup]", "sync.runtime_Semrelease", "(*sync.WaitGroup).Done", "(*sync.WaitGroup).Wait", "internal/race.Acquire", "internal/synctest.IsAssociated[sync.WaitGroup]", "sync/atomic.CompareAndSwapUint64", "internal/race.Write", "sync.runtime_SemacquireWaitGroup"], unfollowed := true, recurses := true, named := ["lagan/tackle.checks", "lagan/hull.checks"], plainKeys := false, leaving := true, apart := false, laid := [("lagan/hull.checks", laid_lagan_hull_checks), ("lagan/tackle.checks", laid_lagan_tackle_checks)], narrowed := true }
def TackleLiftedUptoSaid : Prop := tackleLiftedUptoRow.holds Tryz.pinned (OpenSpec.upto tackleLiftedSpec)

end Rows
end Go.Proofs.YtfohpddpboaejaaGreatDoor
