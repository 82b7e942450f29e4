/-
  NARROWER THAN 'FOR EVERY INPUT', by the rows' own cells (each row's printed sentence says how): TacklePulls: laid · TackleCases: laid · TackleGears: laid · TackleReal: laid · TacklePulled: laid · TackleCut: laid · TackleClashes: laid · TackleAsked: laid · TackleMost: laid · TackleFewest: laid · TackleShared: laid · TackleRenewed: laid · TackleStronger: laid · TackleAnyOrder: laid · TackleReached: laid · TackleNews: laid · TackleLearnt: laid · TackleTexts: laid · TackleBack: laid.
  DERIVED. THE GIVEN ROWS OF THIS SEAT. 19 by the template 'for every input the law returns true; each argument reads behind the call as it read before'; 0 by the template 'total and deterministic' (their statements: YtchjgmkeemdhlaaGreatDoorTotals.lean).
  GIVEN WITH THE SEED: the statements are not yours to turn. If you find one false, say at which input.
  Laid BY PROGRAM, IN A SANDBOX (cutbox-rows.mjs): the forced cells as the released guide's own fill.sh prints them over the translation 1157249373264674… (all of the seat's roots in one cut). By AI agents, Wed Nov 11 2026. No macro, syntax, notation, axiom, sorry.
-/
import Derived.Test.YtchjgmkeemdhlaaGreatDoorChecked
import GoSem.PinnedTables
import GoSem.Claim
import GoSem.ClaimJoined
import GoSem.ClaimMapViews
import Derived.JoinedTies
import Derived.KernelRfl
namespace Go.Proofs.YtchjgmkeemdhlaaGreatDoor
/- THE CELL 'sum', in the pinned program and in every row, IS THE sha256 OF THE DUMP (.gsa) THAT YtchjgmkeemdhlaaGreatDoorProg.lean LOADS. Nothing in Lean hashes anything: it is a label: what it is worth is what the hold of that sum in a sandbox is worth. -/
noncomputable def Tryz.pinned : Pinned := { name := "ytchjgmkeemdhlaagreatdoor", sum := "1157249373264674b328bcd1e74b9ee806bf380a99c90601671a35e557592292", checked := Tryz.checked }
namespace Rows
def none {H : Type} : Left H := { results := [], args := [] }

/- WHAT THE LISTED PACKAGE-LEVEL VARIABLES READ AS WHEN THE CALL BEGINS. Each datum BY PROGRAM (the guide's laid-datum.mjs) off the statement by which the dump's own 'gosem.cut.vars' lays the variable. In a bare row this is a premise. The card (YtchjgmkeemdhlaaGreatDoorCards.lean) ties it to the program's text. -/
def laid_lagan_tackle_checks {H : Type} : DataW H := .iface "func table" (.agg [.iface "func" (.lit (.string [40, 108, 97, 103, 97, 110, 47, 116, 97, 99, 107, 108, 101, 46, 98, 111, 111, 107, 41, 46, 119, 105, 110, 99, 104])), .iface "func" (.lit (.string [40, 108, 97, 103, 97, 110, 47, 116, 97, 99, 107, 108, 101, 46, 98, 111, 111, 107, 41, 46, 112, 97, 114, 116, 115])), .iface "func" (.lit (.string [40, 108, 97, 103, 97, 110, 47, 116, 97, 99, 107, 108, 101, 46, 98, 111, 111, 107, 41, 46, 103, 101, 97, 114, 115])), .iface "func" (.lit (.string [40, 108, 97, 103, 97, 110, 47, 116, 97, 99, 107, 108, 101, 46, 98, 111, 111, 107, 41, 46, 112, 105, 101, 99, 101, 115])), .iface "func" (.lit (.string [40, 108, 97, 103, 97, 110, 47, 116, 97, 99, 107, 108, 101, 46, 98, 111, 111, 107, 41, 46, 116, 101, 115, 116, 115]))])
def laid_math_bits_deBruijn32tab {H : Type} : DataW H := .agg [.lit (.int .u8 0), .lit (.int .u8 1), .lit (.int .u8 28), .lit (.int .u8 2), .lit (.int .u8 29), .lit (.int .u8 14), .lit (.int .u8 24), .lit (.int .u8 3), .lit (.int .u8 30), .lit (.int .u8 22), .lit (.int .u8 20), .lit (.int .u8 15), .lit (.int .u8 25), .lit (.int .u8 17), .lit (.int .u8 4), .lit (.int .u8 8), .lit (.int .u8 31), .lit (.int .u8 27), .lit (.int .u8 13), .lit (.int .u8 23), .lit (.int .u8 21), .lit (.int .u8 19), .lit (.int .u8 16), .lit (.int .u8 7), .lit (.int .u8 26), .lit (.int .u8 12), .lit (.int .u8 18), .lit (.int .u8 6), .lit (.int .u8 11), .lit (.int .u8 5), .lit (.int .u8 10), .lit (.int .u8 9)]
def laid_math_bits_deBruijn64tab {H : Type} : DataW H := .agg [.lit (.int .u8 0), .lit (.int .u8 1), .lit (.int .u8 56), .lit (.int .u8 2), .lit (.int .u8 57), .lit (.int .u8 49), .lit (.int .u8 28), .lit (.int .u8 3), .lit (.int .u8 61), .lit (.int .u8 58), .lit (.int .u8 42), .lit (.int .u8 50), .lit (.int .u8 38), .lit (.int .u8 29), .lit (.int .u8 17), .lit (.int .u8 4), .lit (.int .u8 62), .lit (.int .u8 47), .lit (.int .u8 59), .lit (.int .u8 36), .lit (.int .u8 45), .lit (.int .u8 43), .lit (.int .u8 51), .lit (.int .u8 22), .lit (.int .u8 53), .lit (.int .u8 39), .lit (.int .u8 33), .lit (.int .u8 30), .lit (.int .u8 24), .lit (.int .u8 18), .lit (.int .u8 12), .lit (.int .u8 5), .lit (.int .u8 63), .lit (.int .u8 55), .lit (.int .u8 48), .lit (.int .u8 27), .lit (.int .u8 60), .lit (.int .u8 41), .lit (.int .u8 37), .lit (.int .u8 16), .lit (.int .u8 46), .lit (.int .u8 35), .lit (.int .u8 44), .lit (.int .u8 21), .lit (.int .u8 52), .lit (.int .u8 32), .lit (.int .u8 23), .lit (.int .u8 11), .lit (.int .u8 54), .lit (.int .u8 26), .lit (.int .u8 40), .lit (.int .u8 15), .lit (.int .u8 34), .lit (.int .u8 20), .lit (.int .u8 31), .lit (.int .u8 10), .lit (.int .u8 25), .lit (.int .u8 14), .lit (.int .u8 19), .lit (.int .u8 9), .lit (.int .u8 13), .lit (.int .u8 8), .lit (.int .u8 7), .lit (.int .u8 6)]
def laid_internal_strconv_uint64pow10 {H : Type} : DataW H := .agg [.lit (.int .u64 1), .lit (.int .u64 10), .lit (.int .u64 100), .lit (.int .u64 1000), .lit (.int .u64 10000), .lit (.int .u64 100000), .lit (.int .u64 1000000), .lit (.int .u64 10000000), .lit (.int .u64 100000000), .lit (.int .u64 1000000000), .lit (.int .u64 10000000000), .lit (.int .u64 100000000000), .lit (.int .u64 1000000000000), .lit (.int .u64 10000000000000), .lit (.int .u64 100000000000000), .lit (.int .u64 1000000000000000), .lit (.int .u64 10000000000000000), .lit (.int .u64 100000000000000000), .lit (.int .u64 1000000000000000000), .lit (.int .u64 10000000000000000000)]
def laid_unicode_utf8_acceptRanges {H : Type} : DataW H := .agg [.agg [.lit (.int .u8 128), .lit (.int .u8 191)], .agg [.lit (.int .u8 160), .lit (.int .u8 191)], .agg [.lit (.int .u8 128), .lit (.int .u8 159)], .agg [.lit (.int .u8 144), .lit (.int .u8 191)], .agg [.lit (.int .u8 128), .lit (.int .u8 143)], .agg [.lit (.int .u8 0), .lit (.int .u8 0)], .agg [.lit (.int .u8 0), .lit (.int .u8 0)], .agg [.lit (.int .u8 0), .lit (.int .u8 0)], .agg [.lit (.int .u8 0), .lit (.int .u8 0)], .agg [.lit (.int .u8 0), .lit (.int .u8 0)], .agg [.lit (.int .u8 0), .lit (.int .u8 0)], .agg [.lit (.int .u8 0), .lit (.int .u8 0)], .agg [.lit (.int .u8 0), .lit (.int .u8 0)], .agg [.lit (.int .u8 0), .lit (.int .u8 0)], .agg [.lit (.int .u8 0), .lit (.int .u8 0)], .agg [.lit (.int .u8 0), .lit (.int .u8 0)]]
def laid_errors_errorType {H : Type} : DataW H := .iface "internal/reflectlite.rtype" (.agg [.ptr (.lit (.string [101, 114, 114, 111, 114]))])
def laid_strconv_ErrRange {H : Type} : DataW H := .iface "*errors.errorString" (.ptr (.agg [.lit (.string [118, 97, 108, 117, 101, 32, 111, 117, 116, 32, 111, 102, 32, 114, 97, 110, 103, 101])]))
def laid_strconv_ErrSyntax {H : Type} : DataW H := .iface "*errors.errorString" (.ptr (.agg [.lit (.string [105, 110, 118, 97, 108, 105, 100, 32, 115, 121, 110, 116, 97, 120])]))
def laid_lagan_tackle_words {H : Type} : DataW H := .agg [.lit (.string [116, 97, 99, 107, 108, 101]), .lit (.string [112, 97, 114, 116]), .lit (.string [103, 101, 97, 114]), .lit (.string [112, 105, 101, 99, 101]), .lit (.string [116, 101, 115, 116])]
/-- One of Go's own tables, pinned by name: the form's constant. -/
def laid_unicode_utf8_first : DataW Unit := Go.Pinned.utf8First

/-- 'laganlaw07.TacklePulls': WHATEVER THE INPUT: true; the input reads as it did. -/
def tacklePullsSpec : ChangeSpec := { name := "tacklePulls", fn := fun _ => fun
  | [d1, d2, d3, d4, d5] => { results := [.lit (.bool true)], args := [d1, d2, d3, d4, d5] }
  | _ => none }
def tacklePullsRow : OpenClaim := { program := "ytchjgmkeemdhlaagreatdoor", sum := "1157249373264674b328bcd1e74b9ee806bf380a99c90601671a35e557592292", func := "lagan/laganlaw07.TacklePulls", spec := "tacklePulls", inPlace := ["(*sync.WaitGroup).Add", "internal/race.ReleaseMerge", "internal/race.Disable", "internal/race.Enable", "internal/synctest.IsInBubble", "internal/synctest.Associate[sync.WaitGroup]", "sync.fatal", "sync/atomic.OrUint64", "sync/atomic.AddUint64", "internal/race.Read", "sync/atomic.LoadUint64", "sync/atomic.StoreUint64", "internal/synctest.Disassociate[sync.WaitGroup]", "sync.runtime_Semrelease", "(*sync.WaitGroup).Done", "(*sync.WaitGroup).Wait", "internal/race.Acquire", "internal/synctest.IsAssociated[sync.WaitGroup]", "sync/atomic.CompareAndSwapUint64", "internal/race.Write", "sync.runtime_SemacquireWaitGroup"], unfollowed := true, recurses := true, named := ["lagan/tackle.checks"], plainKeys := false, leaving := true, apart := false, laid := [("lagan/tackle.checks", laid_lagan_tackle_checks)] }
def TacklePullsSaid : Prop := tacklePullsRow.holds Tryz.pinned (OpenSpec.ofChange tacklePullsSpec)

/-- ITS FALSE NEIGHBOUR: 'it returns false'. Refute it at one input. -/
def tacklePullsWrong : ChangeSpec := { name := "tacklePulls", fn := fun _ => fun
  | [d1, d2, d3, d4, d5] => { results := [.lit (.bool false)], args := [d1, d2, d3, d4, d5] }
  | _ => none }
def TacklePullsWrongFalsely : Prop := tacklePullsRow.holds Tryz.pinned (OpenSpec.ofChange tacklePullsWrong)

/-- 'laganlaw07.TackleCases': WHATEVER THE INPUT: true; the input reads as it did. -/
def tackleCasesSpec : ChangeSpec := { name := "tackleCases", fn := fun _ => fun
  | [d1, d2, d3, d4, d5] => { results := [.lit (.bool true)], args := [d1, d2, d3, d4, d5] }
  | _ => none }
def tackleCasesRow : OpenClaim := { program := "ytchjgmkeemdhlaagreatdoor", sum := "1157249373264674b328bcd1e74b9ee806bf380a99c90601671a35e557592292", func := "lagan/laganlaw07.TackleCases", spec := "tackleCases", inPlace := ["(*sync.WaitGroup).Add", "internal/race.ReleaseMerge", "internal/race.Disable", "internal/race.Enable", "internal/synctest.IsInBubble", "internal/synctest.Associate[sync.WaitGroup]", "sync.fatal", "sync/atomic.OrUint64", "sync/atomic.AddUint64", "internal/race.Read", "sync/atomic.LoadUint64", "sync/atomic.StoreUint64", "internal/synctest.Disassociate[sync.WaitGroup]", "sync.runtime_Semrelease", "(*sync.WaitGroup).Done", "(*sync.WaitGroup).Wait", "internal/race.Acquire", "internal/synctest.IsAssociated[sync.WaitGroup]", "sync/atomic.CompareAndSwapUint64", "internal/race.Write", "sync.runtime_SemacquireWaitGroup"], unfollowed := true, recurses := true, named := ["lagan/tackle.checks"], plainKeys := false, leaving := true, apart := false, laid := [("lagan/tackle.checks", laid_lagan_tackle_checks)] }
def TackleCasesSaid : Prop := tackleCasesRow.holds Tryz.pinned (OpenSpec.ofChange tackleCasesSpec)

/-- ITS FALSE NEIGHBOUR: 'it returns false'. Refute it at one input. -/
def tackleCasesWrong : ChangeSpec := { name := "tackleCases", fn := fun _ => fun
  | [d1, d2, d3, d4, d5] => { results := [.lit (.bool false)], args := [d1, d2, d3, d4, d5] }
  | _ => none }
def TackleCasesWrongFalsely : Prop := tackleCasesRow.holds Tryz.pinned (OpenSpec.ofChange tackleCasesWrong)

/-- 'laganlaw07.TackleGears': WHATEVER THE INPUT: true; the input reads as it did. -/
def tackleGearsSpec : ChangeSpec := { name := "tackleGears", fn := fun _ => fun
  | [d] => { results := [.lit (.bool true)], args := [d] }
  | _ => none }
def tackleGearsRow : OpenClaim := { program := "ytchjgmkeemdhlaagreatdoor", sum := "1157249373264674b328bcd1e74b9ee806bf380a99c90601671a35e557592292", func := "lagan/laganlaw07.TackleGears", spec := "tackleGears", inPlace := ["(*sync.WaitGroup).Add", "internal/race.ReleaseMerge", "internal/race.Disable", "internal/race.Enable", "internal/synctest.IsInBubble", "internal/synctest.Associate[sync.WaitGroup]", "sync.fatal", "sync/atomic.OrUint64", "sync/atomic.AddUint64", "internal/race.Read", "sync/atomic.LoadUint64", "sync/atomic.StoreUint64", "internal/synctest.Disassociate[sync.WaitGroup]", "sync.runtime_Semrelease", "(*sync.WaitGroup).Done", "(*sync.WaitGroup).Wait", "internal/race.Acquire", "internal/synctest.IsAssociated[sync.WaitGroup]", "sync/atomic.CompareAndSwapUint64", "internal/race.Write", "sync.runtime_SemacquireWaitGroup"], unfollowed := true, recurses := true, named := ["lagan/tackle.checks"], plainKeys := false, leaving := true, apart := false, laid := [("lagan/tackle.checks", laid_lagan_tackle_checks)] }
def TackleGearsSaid : Prop := tackleGearsRow.holds Tryz.pinned (OpenSpec.ofChange tackleGearsSpec)

/-- ITS FALSE NEIGHBOUR: 'it returns false'. Refute it at one input. -/
def tackleGearsWrong : ChangeSpec := { name := "tackleGears", fn := fun _ => fun
  | [d] => { results := [.lit (.bool false)], args := [d] }
  | _ => none }
def TackleGearsWrongFalsely : Prop := tackleGearsRow.holds Tryz.pinned (OpenSpec.ofChange tackleGearsWrong)

/-- 'laganlaw07.TackleReal': WHATEVER THE INPUT: true; the input reads as it did. -/
def tackleRealSpec : ChangeSpec := { name := "tackleReal", fn := fun _ => fun
  | [d1, d2, d3, d4, d5, d6] => { results := [.lit (.bool true)], args := [d1, d2, d3, d4, d5, d6] }
  | _ => none }
def tackleRealRow : OpenClaim := { program := "ytchjgmkeemdhlaagreatdoor", sum := "1157249373264674b328bcd1e74b9ee806bf380a99c90601671a35e557592292", func := "lagan/laganlaw07.TackleReal", spec := "tackleReal", inPlace := ["(*sync.WaitGroup).Add", "internal/race.ReleaseMerge", "internal/race.Disable", "internal/race.Enable", "internal/synctest.IsInBubble", "internal/synctest.Associate[sync.WaitGroup]", "sync.fatal", "sync/atomic.OrUint64", "sync/atomic.AddUint64", "internal/race.Read", "sync/atomic.LoadUint64", "sync/atomic.StoreUint64", "internal/synctest.Disassociate[sync.WaitGroup]", "sync.runtime_Semrelease", "(*sync.WaitGroup).Done", "(*sync.WaitGroup).Wait", "internal/race.Acquire", "internal/synctest.IsAssociated[sync.WaitGroup]", "sync/atomic.CompareAndSwapUint64", "internal/race.Write", "sync.runtime_SemacquireWaitGroup"], unfollowed := true, recurses := true, named := ["lagan/tackle.checks"], plainKeys := false, leaving := true, apart := false, laid := [("lagan/tackle.checks", laid_lagan_tackle_checks)] }
def TackleRealSaid : Prop := tackleRealRow.holds Tryz.pinned (OpenSpec.ofChange tackleRealSpec)

/-- ITS FALSE NEIGHBOUR: 'it returns false'. Refute it at one input. -/
def tackleRealWrong : ChangeSpec := { name := "tackleReal", fn := fun _ => fun
  | [d1, d2, d3, d4, d5, d6] => { results := [.lit (.bool false)], args := [d1, d2, d3, d4, d5, d6] }
  | _ => none }
def TackleRealWrongFalsely : Prop := tackleRealRow.holds Tryz.pinned (OpenSpec.ofChange tackleRealWrong)

/-- 'laganlaw07.TacklePulled': WHATEVER THE INPUT: true; the input reads as it did. -/
def tacklePulledSpec : ChangeSpec := { name := "tacklePulled", fn := fun _ => fun
  | [d1, d2, d3, d4] => { results := [.lit (.bool true)], args := [d1, d2, d3, d4] }
  | _ => none }
def tacklePulledRow : OpenClaim := { program := "ytchjgmkeemdhlaagreatdoor", sum := "1157249373264674b328bcd1e74b9ee806bf380a99c90601671a35e557592292", func := "lagan/laganlaw07.TacklePulled", spec := "tacklePulled", inPlace := ["(*sync.WaitGroup).Add", "internal/race.ReleaseMerge", "internal/race.Disable", "internal/race.Enable", "internal/synctest.IsInBubble", "internal/synctest.Associate[sync.WaitGroup]", "sync.fatal", "sync/atomic.OrUint64", "sync/atomic.AddUint64", "internal/race.Read", "sync/atomic.LoadUint64", "sync/atomic.StoreUint64", "internal/synctest.Disassociate[sync.WaitGroup]", "sync.runtime_Semrelease", "(*sync.WaitGroup).Done", "(*sync.WaitGroup).Wait", "internal/race.Acquire", "internal/synctest.IsAssociated[sync.WaitGroup]", "sync/atomic.CompareAndSwapUint64", "internal/race.Write", "sync.runtime_SemacquireWaitGroup"], unfollowed := true, recurses := true, named := ["lagan/tackle.checks"], plainKeys := false, leaving := true, apart := false, laid := [("lagan/tackle.checks", laid_lagan_tackle_checks)] }
def TacklePulledSaid : Prop := tacklePulledRow.holds Tryz.pinned (OpenSpec.ofChange tacklePulledSpec)

/-- ITS FALSE NEIGHBOUR: 'it returns false'. Refute it at one input. -/
def tacklePulledWrong : ChangeSpec := { name := "tacklePulled", fn := fun _ => fun
  | [d1, d2, d3, d4] => { results := [.lit (.bool false)], args := [d1, d2, d3, d4] }
  | _ => none }
def TacklePulledWrongFalsely : Prop := tacklePulledRow.holds Tryz.pinned (OpenSpec.ofChange tacklePulledWrong)

/-- 'laganlaw07.TackleCut': WHATEVER THE INPUT: true; the input reads as it did. -/
def tackleCutSpec : ChangeSpec := { name := "tackleCut", fn := fun _ => fun
  | [d1, d2, d3, d4] => { results := [.lit (.bool true)], args := [d1, d2, d3, d4] }
  | _ => none }
def tackleCutRow : OpenClaim := { program := "ytchjgmkeemdhlaagreatdoor", sum := "1157249373264674b328bcd1e74b9ee806bf380a99c90601671a35e557592292", func := "lagan/laganlaw07.TackleCut", spec := "tackleCut", inPlace := ["(*sync.WaitGroup).Add", "internal/race.ReleaseMerge", "internal/race.Disable", "internal/race.Enable", "internal/synctest.IsInBubble", "internal/synctest.Associate[sync.WaitGroup]", "sync.fatal", "sync/atomic.OrUint64", "sync/atomic.AddUint64", "internal/race.Read", "sync/atomic.LoadUint64", "sync/atomic.StoreUint64", "internal/synctest.Disassociate[sync.WaitGroup]", "sync.runtime_Semrelease", "(*sync.WaitGroup).Done", "(*sync.WaitGroup).Wait", "internal/race.Acquire", "internal/synctest.IsAssociated[sync.WaitGroup]", "sync/atomic.CompareAndSwapUint64", "internal/race.Write", "sync.runtime_SemacquireWaitGroup"], unfollowed := true, recurses := true, named := ["lagan/tackle.checks"], plainKeys := false, leaving := true, apart := false, laid := [("lagan/tackle.checks", laid_lagan_tackle_checks)] }
def TackleCutSaid : Prop := tackleCutRow.holds Tryz.pinned (OpenSpec.ofChange tackleCutSpec)

/-- ITS FALSE NEIGHBOUR: 'it returns false'. Refute it at one input. -/
def tackleCutWrong : ChangeSpec := { name := "tackleCut", fn := fun _ => fun
  | [d1, d2, d3, d4] => { results := [.lit (.bool false)], args := [d1, d2, d3, d4] }
  | _ => none }
def TackleCutWrongFalsely : Prop := tackleCutRow.holds Tryz.pinned (OpenSpec.ofChange tackleCutWrong)

/-- 'laganlaw07.TackleClashes': WHATEVER THE INPUT: true; the input reads as it did. -/
def tackleClashesSpec : ChangeSpec := { name := "tackleClashes", fn := fun _ => fun
  | [d1, d2] => { results := [.lit (.bool true)], args := [d1, d2] }
  | _ => none }
def tackleClashesRow : OpenClaim := { program := "ytchjgmkeemdhlaagreatdoor", sum := "1157249373264674b328bcd1e74b9ee806bf380a99c90601671a35e557592292", func := "lagan/laganlaw07.TackleClashes", spec := "tackleClashes", inPlace := ["(*sync.WaitGroup).Add", "internal/race.ReleaseMerge", "internal/race.Disable", "internal/race.Enable", "internal/synctest.IsInBubble", "internal/synctest.Associate[sync.WaitGroup]", "sync.fatal", "sync/atomic.OrUint64", "sync/atomic.AddUint64", "internal/race.Read", "sync/atomic.LoadUint64", "sync/atomic.StoreUint64", "internal/synctest.Disassociate[sync.WaitGroup]", "sync.runtime_Semrelease", "(*sync.WaitGroup).Done", "(*sync.WaitGroup).Wait", "internal/race.Acquire", "internal/synctest.IsAssociated[sync.WaitGroup]", "sync/atomic.CompareAndSwapUint64", "internal/race.Write", "sync.runtime_SemacquireWaitGroup"], unfollowed := true, recurses := true, named := ["lagan/tackle.checks"], plainKeys := false, leaving := true, apart := false, laid := [("lagan/tackle.checks", laid_lagan_tackle_checks)] }
def TackleClashesSaid : Prop := tackleClashesRow.holds Tryz.pinned (OpenSpec.ofChange tackleClashesSpec)

/-- ITS FALSE NEIGHBOUR: 'it returns false'. Refute it at one input. -/
def tackleClashesWrong : ChangeSpec := { name := "tackleClashes", fn := fun _ => fun
  | [d1, d2] => { results := [.lit (.bool false)], args := [d1, d2] }
  | _ => none }
def TackleClashesWrongFalsely : Prop := tackleClashesRow.holds Tryz.pinned (OpenSpec.ofChange tackleClashesWrong)

/-- 'laganlaw07.TackleAsked': WHATEVER THE INPUT: true; the input reads as it did. -/
def tackleAskedSpec : ChangeSpec := { name := "tackleAsked", fn := fun _ => fun
  | [d1, d2, d3] => { results := [.lit (.bool true)], args := [d1, d2, d3] }
  | _ => none }
def tackleAskedRow : OpenClaim := { program := "ytchjgmkeemdhlaagreatdoor", sum := "1157249373264674b328bcd1e74b9ee806bf380a99c90601671a35e557592292", func := "lagan/laganlaw07.TackleAsked", spec := "tackleAsked", inPlace := ["(*sync.WaitGroup).Add", "internal/race.ReleaseMerge", "internal/race.Disable", "internal/race.Enable", "internal/synctest.IsInBubble", "internal/synctest.Associate[sync.WaitGroup]", "sync.fatal", "sync/atomic.OrUint64", "sync/atomic.AddUint64", "internal/race.Read", "sync/atomic.LoadUint64", "sync/atomic.StoreUint64", "internal/synctest.Disassociate[sync.WaitGroup]", "sync.runtime_Semrelease", "(*sync.WaitGroup).Done", "(*sync.WaitGroup).Wait", "internal/race.Acquire", "internal/synctest.IsAssociated[sync.WaitGroup]", "sync/atomic.CompareAndSwapUint64", "internal/race.Write", "sync.runtime_SemacquireWaitGroup"], unfollowed := true, recurses := true, named := ["lagan/tackle.checks"], plainKeys := false, leaving := true, apart := false, laid := [("lagan/tackle.checks", laid_lagan_tackle_checks)] }
def TackleAskedSaid : Prop := tackleAskedRow.holds Tryz.pinned (OpenSpec.ofChange tackleAskedSpec)

/-- ITS FALSE NEIGHBOUR: 'it returns false'. Refute it at one input. -/
def tackleAskedWrong : ChangeSpec := { name := "tackleAsked", fn := fun _ => fun
  | [d1, d2, d3] => { results := [.lit (.bool false)], args := [d1, d2, d3] }
  | _ => none }
def TackleAskedWrongFalsely : Prop := tackleAskedRow.holds Tryz.pinned (OpenSpec.ofChange tackleAskedWrong)

/-- 'laganlaw07.TackleMost': WHATEVER THE INPUT: true; the input reads as it did. -/
def tackleMostSpec : ChangeSpec := { name := "tackleMost", fn := fun _ => fun
  | [d1, d2, d3, d4, d5] => { results := [.lit (.bool true)], args := [d1, d2, d3, d4, d5] }
  | _ => none }
def tackleMostRow : OpenClaim := { program := "ytchjgmkeemdhlaagreatdoor", sum := "1157249373264674b328bcd1e74b9ee806bf380a99c90601671a35e557592292", func := "lagan/laganlaw07.TackleMost", spec := "tackleMost", inPlace := ["(*sync.WaitGroup).Add", "internal/race.ReleaseMerge", "internal/race.Disable", "internal/race.Enable", "internal/synctest.IsInBubble", "internal/synctest.Associate[sync.WaitGroup]", "sync.fatal", "sync/atomic.OrUint64", "sync/atomic.AddUint64", "internal/race.Read", "sync/atomic.LoadUint64", "sync/atomic.StoreUint64", "internal/synctest.Disassociate[sync.WaitGroup]", "sync.runtime_Semrelease", "(*sync.WaitGroup).Done", "(*sync.WaitGroup).Wait", "internal/race.Acquire", "internal/synctest.IsAssociated[sync.WaitGroup]", "sync/atomic.CompareAndSwapUint64", "internal/race.Write", "sync.runtime_SemacquireWaitGroup"], unfollowed := true, recurses := true, named := ["lagan/tackle.checks"], plainKeys := false, leaving := true, apart := false, laid := [("lagan/tackle.checks", laid_lagan_tackle_checks)] }
def TackleMostSaid : Prop := tackleMostRow.holds Tryz.pinned (OpenSpec.ofChange tackleMostSpec)

/-- ITS FALSE NEIGHBOUR: 'it returns false'. Refute it at one input. -/
def tackleMostWrong : ChangeSpec := { name := "tackleMost", fn := fun _ => fun
  | [d1, d2, d3, d4, d5] => { results := [.lit (.bool false)], args := [d1, d2, d3, d4, d5] }
  | _ => none }
def TackleMostWrongFalsely : Prop := tackleMostRow.holds Tryz.pinned (OpenSpec.ofChange tackleMostWrong)

/-- 'laganlaw07.TackleFewest': WHATEVER THE INPUT: true; the input reads as it did. -/
def tackleFewestSpec : ChangeSpec := { name := "tackleFewest", fn := fun _ => fun
  | [d1, d2] => { results := [.lit (.bool true)], args := [d1, d2] }
  | _ => none }
def tackleFewestRow : OpenClaim := { program := "ytchjgmkeemdhlaagreatdoor", sum := "1157249373264674b328bcd1e74b9ee806bf380a99c90601671a35e557592292", func := "lagan/laganlaw07.TackleFewest", spec := "tackleFewest", inPlace := ["(*sync.WaitGroup).Add", "internal/race.ReleaseMerge", "internal/race.Disable", "internal/race.Enable", "internal/synctest.IsInBubble", "internal/synctest.Associate[sync.WaitGroup]", "sync.fatal", "sync/atomic.OrUint64", "sync/atomic.AddUint64", "internal/race.Read", "sync/atomic.LoadUint64", "sync/atomic.StoreUint64", "internal/synctest.Disassociate[sync.WaitGroup]", "sync.runtime_Semrelease", "(*sync.WaitGroup).Done", "(*sync.WaitGroup).Wait", "internal/race.Acquire", "internal/synctest.IsAssociated[sync.WaitGroup]", "sync/atomic.CompareAndSwapUint64", "internal/race.Write", "sync.runtime_SemacquireWaitGroup"], unfollowed := true, recurses := true, named := ["lagan/tackle.checks"], plainKeys := false, leaving := true, apart := false, laid := [("lagan/tackle.checks", laid_lagan_tackle_checks)] }
def TackleFewestSaid : Prop := tackleFewestRow.holds Tryz.pinned (OpenSpec.ofChange tackleFewestSpec)

/-- ITS FALSE NEIGHBOUR: 'it returns false'. Refute it at one input. -/
def tackleFewestWrong : ChangeSpec := { name := "tackleFewest", fn := fun _ => fun
  | [d1, d2] => { results := [.lit (.bool false)], args := [d1, d2] }
  | _ => none }
def TackleFewestWrongFalsely : Prop := tackleFewestRow.holds Tryz.pinned (OpenSpec.ofChange tackleFewestWrong)

/-- 'laganlaw07.TackleShared': WHATEVER THE INPUT: true; the input reads as it did. -/
def tackleSharedSpec : ChangeSpec := { name := "tackleShared", fn := fun _ => fun
  | [d1, d2] => { results := [.lit (.bool true)], args := [d1, d2] }
  | _ => none }
def tackleSharedRow : OpenClaim := { program := "ytchjgmkeemdhlaagreatdoor", sum := "1157249373264674b328bcd1e74b9ee806bf380a99c90601671a35e557592292", func := "lagan/laganlaw07.TackleShared", spec := "tackleShared", inPlace := ["(*sync.WaitGroup).Add", "internal/race.ReleaseMerge", "internal/race.Disable", "internal/race.Enable", "internal/synctest.IsInBubble", "internal/synctest.Associate[sync.WaitGroup]", "sync.fatal", "sync/atomic.OrUint64", "sync/atomic.AddUint64", "internal/race.Read", "sync/atomic.LoadUint64", "sync/atomic.StoreUint64", "internal/synctest.Disassociate[sync.WaitGroup]", "sync.runtime_Semrelease", "(*sync.WaitGroup).Done", "(*sync.WaitGroup).Wait", "internal/race.Acquire", "internal/synctest.IsAssociated[sync.WaitGroup]", "sync/atomic.CompareAndSwapUint64", "internal/race.Write", "sync.runtime_SemacquireWaitGroup"], unfollowed := true, recurses := true, named := ["lagan/tackle.checks"], plainKeys := false, leaving := true, apart := false, laid := [("lagan/tackle.checks", laid_lagan_tackle_checks)] }
def TackleSharedSaid : Prop := tackleSharedRow.holds Tryz.pinned (OpenSpec.ofChange tackleSharedSpec)

/-- ITS FALSE NEIGHBOUR: 'it returns false'. Refute it at one input. -/
def tackleSharedWrong : ChangeSpec := { name := "tackleShared", fn := fun _ => fun
  | [d1, d2] => { results := [.lit (.bool false)], args := [d1, d2] }
  | _ => none }
def TackleSharedWrongFalsely : Prop := tackleSharedRow.holds Tryz.pinned (OpenSpec.ofChange tackleSharedWrong)

/-- 'laganlaw07.TackleRenewed': WHATEVER THE INPUT: true; the input reads as it did. -/
def tackleRenewedSpec : ChangeSpec := { name := "tackleRenewed", fn := fun _ => fun
  | [d1, d2] => { results := [.lit (.bool true)], args := [d1, d2] }
  | _ => none }
def tackleRenewedRow : OpenClaim := { program := "ytchjgmkeemdhlaagreatdoor", sum := "1157249373264674b328bcd1e74b9ee806bf380a99c90601671a35e557592292", func := "lagan/laganlaw07.TackleRenewed", spec := "tackleRenewed", inPlace := ["(*sync.WaitGroup).Add", "internal/race.ReleaseMerge", "internal/race.Disable", "internal/race.Enable", "internal/synctest.IsInBubble", "internal/synctest.Associate[sync.WaitGroup]", "sync.fatal", "sync/atomic.OrUint64", "sync/atomic.AddUint64", "internal/race.Read", "sync/atomic.LoadUint64", "sync/atomic.StoreUint64", "internal/synctest.Disassociate[sync.WaitGroup]", "sync.runtime_Semrelease", "(*sync.WaitGroup).Done", "(*sync.WaitGroup).Wait", "internal/race.Acquire", "internal/synctest.IsAssociated[sync.WaitGroup]", "sync/atomic.CompareAndSwapUint64", "internal/race.Write", "sync.runtime_SemacquireWaitGroup"], unfollowed := true, recurses := true, named := ["lagan/tackle.checks"], plainKeys := false, leaving := true, apart := false, laid := [("lagan/tackle.checks", laid_lagan_tackle_checks)] }
def TackleRenewedSaid : Prop := tackleRenewedRow.holds Tryz.pinned (OpenSpec.ofChange tackleRenewedSpec)

/-- ITS FALSE NEIGHBOUR: 'it returns false'. Refute it at one input. -/
def tackleRenewedWrong : ChangeSpec := { name := "tackleRenewed", fn := fun _ => fun
  | [d1, d2] => { results := [.lit (.bool false)], args := [d1, d2] }
  | _ => none }
def TackleRenewedWrongFalsely : Prop := tackleRenewedRow.holds Tryz.pinned (OpenSpec.ofChange tackleRenewedWrong)

/-- 'laganlaw07.TackleStronger': WHATEVER THE INPUT: true; the input reads as it did. -/
def tackleStrongerSpec : ChangeSpec := { name := "tackleStronger", fn := fun _ => fun
  | [d1, d2, d3, d4, d5, d6, d7, d8] => { results := [.lit (.bool true)], args := [d1, d2, d3, d4, d5, d6, d7, d8] }
  | _ => none }
def tackleStrongerRow : OpenClaim := { program := "ytchjgmkeemdhlaagreatdoor", sum := "1157249373264674b328bcd1e74b9ee806bf380a99c90601671a35e557592292", func := "lagan/laganlaw07.TackleStronger", spec := "tackleStronger", inPlace := ["(*sync.WaitGroup).Add", "internal/race.ReleaseMerge", "internal/race.Disable", "internal/race.Enable", "internal/synctest.IsInBubble", "internal/synctest.Associate[sync.WaitGroup]", "sync.fatal", "sync/atomic.OrUint64", "sync/atomic.AddUint64", "internal/race.Read", "sync/atomic.LoadUint64", "sync/atomic.StoreUint64", "internal/synctest.Disassociate[sync.WaitGroup]", "sync.runtime_Semrelease", "(*sync.WaitGroup).Done", "(*sync.WaitGroup).Wait", "internal/race.Acquire", "internal/synctest.IsAssociated[sync.WaitGroup]", "sync/atomic.CompareAndSwapUint64", "internal/race.Write", "sync.runtime_SemacquireWaitGroup"], unfollowed := true, recurses := true, named := ["lagan/tackle.checks"], plainKeys := false, leaving := true, apart := false, laid := [("lagan/tackle.checks", laid_lagan_tackle_checks)] }
def TackleStrongerSaid : Prop := tackleStrongerRow.holds Tryz.pinned (OpenSpec.ofChange tackleStrongerSpec)

/-- ITS FALSE NEIGHBOUR: 'it returns false'. Refute it at one input. -/
def tackleStrongerWrong : ChangeSpec := { name := "tackleStronger", fn := fun _ => fun
  | [d1, d2, d3, d4, d5, d6, d7, d8] => { results := [.lit (.bool false)], args := [d1, d2, d3, d4, d5, d6, d7, d8] }
  | _ => none }
def TackleStrongerWrongFalsely : Prop := tackleStrongerRow.holds Tryz.pinned (OpenSpec.ofChange tackleStrongerWrong)

/-- 'laganlaw07.TackleAnyOrder': WHATEVER THE INPUT: true; the input reads as it did. -/
def tackleAnyOrderSpec : ChangeSpec := { name := "tackleAnyOrder", fn := fun _ => fun
  | [d1, d2, d3] => { results := [.lit (.bool true)], args := [d1, d2, d3] }
  | _ => none }
def tackleAnyOrderRow : OpenClaim := { program := "ytchjgmkeemdhlaagreatdoor", sum := "1157249373264674b328bcd1e74b9ee806bf380a99c90601671a35e557592292", func := "lagan/laganlaw07.TackleAnyOrder", spec := "tackleAnyOrder", inPlace := ["(*sync.WaitGroup).Add", "internal/race.ReleaseMerge", "internal/race.Disable", "internal/race.Enable", "internal/synctest.IsInBubble", "internal/synctest.Associate[sync.WaitGroup]", "sync.fatal", "sync/atomic.OrUint64", "sync/atomic.AddUint64", "internal/race.Read", "sync/atomic.LoadUint64", "sync/atomic.StoreUint64", "internal/synctest.Disassociate[sync.WaitGroup]", "sync.runtime_Semrelease", "(*sync.WaitGroup).Done", "(*sync.WaitGroup).Wait", "internal/race.Acquire", "internal/synctest.IsAssociated[sync.WaitGroup]", "sync/atomic.CompareAndSwapUint64", "internal/race.Write", "sync.runtime_SemacquireWaitGroup"], unfollowed := true, recurses := true, named := ["lagan/tackle.checks"], plainKeys := false, leaving := true, apart := false, laid := [("lagan/tackle.checks", laid_lagan_tackle_checks)] }
def TackleAnyOrderSaid : Prop := tackleAnyOrderRow.holds Tryz.pinned (OpenSpec.ofChange tackleAnyOrderSpec)

/-- ITS FALSE NEIGHBOUR: 'it returns false'. Refute it at one input. -/
def tackleAnyOrderWrong : ChangeSpec := { name := "tackleAnyOrder", fn := fun _ => fun
  | [d1, d2, d3] => { results := [.lit (.bool false)], args := [d1, d2, d3] }
  | _ => none }
def TackleAnyOrderWrongFalsely : Prop := tackleAnyOrderRow.holds Tryz.pinned (OpenSpec.ofChange tackleAnyOrderWrong)

/-- 'laganlaw07.TackleReached': WHATEVER THE INPUT: true; the input reads as it did. -/
def tackleReachedSpec : ChangeSpec := { name := "tackleReached", fn := fun _ => fun
  | [d1, d2, d3] => { results := [.lit (.bool true)], args := [d1, d2, d3] }
  | _ => none }
def tackleReachedRow : OpenClaim := { program := "ytchjgmkeemdhlaagreatdoor", sum := "1157249373264674b328bcd1e74b9ee806bf380a99c90601671a35e557592292", func := "lagan/laganlaw07.TackleReached", spec := "tackleReached", inPlace := ["(*sync.WaitGroup).Add", "internal/race.ReleaseMerge", "internal/race.Disable", "internal/race.Enable", "internal/synctest.IsInBubble", "internal/synctest.Associate[sync.WaitGroup]", "sync.fatal", "sync/atomic.OrUint64", "sync/atomic.AddUint64", "internal/race.Read", "sync/atomic.LoadUint64", "sync/atomic.StoreUint64", "internal/synctest.Disassociate[sync.WaitGroup]", "sync.runtime_Semrelease", "(*sync.WaitGroup).Done", "(*sync.WaitGroup).Wait", "internal/race.Acquire", "internal/synctest.IsAssociated[sync.WaitGroup]", "sync/atomic.CompareAndSwapUint64", "internal/race.Write", "sync.runtime_SemacquireWaitGroup"], unfollowed := true, recurses := true, named := ["lagan/tackle.checks"], plainKeys := false, leaving := true, apart := false, laid := [("lagan/tackle.checks", laid_lagan_tackle_checks)] }
def TackleReachedSaid : Prop := tackleReachedRow.holds Tryz.pinned (OpenSpec.ofChange tackleReachedSpec)

/-- ITS FALSE NEIGHBOUR: 'it returns false'. Refute it at one input. -/
def tackleReachedWrong : ChangeSpec := { name := "tackleReached", fn := fun _ => fun
  | [d1, d2, d3] => { results := [.lit (.bool false)], args := [d1, d2, d3] }
  | _ => none }
def TackleReachedWrongFalsely : Prop := tackleReachedRow.holds Tryz.pinned (OpenSpec.ofChange tackleReachedWrong)

/-- 'laganlaw07.TackleNews': WHATEVER THE INPUT: true; the input reads as it did. -/
def tackleNewsSpec : ChangeSpec := { name := "tackleNews", fn := fun _ => fun
  | [d1, d2, d3, d4, d5] => { results := [.lit (.bool true)], args := [d1, d2, d3, d4, d5] }
  | _ => none }
def tackleNewsRow : OpenClaim := { program := "ytchjgmkeemdhlaagreatdoor", sum := "1157249373264674b328bcd1e74b9ee806bf380a99c90601671a35e557592292", func := "lagan/laganlaw07.TackleNews", spec := "tackleNews", inPlace := ["(*sync.WaitGroup).Add", "internal/race.ReleaseMerge", "internal/race.Disable", "internal/race.Enable", "internal/synctest.IsInBubble", "internal/synctest.Associate[sync.WaitGroup]", "sync.fatal", "sync/atomic.OrUint64", "sync/atomic.AddUint64", "internal/race.Read", "sync/atomic.LoadUint64", "sync/atomic.StoreUint64", "internal/synctest.Disassociate[sync.WaitGroup]", "sync.runtime_Semrelease", "(*sync.WaitGroup).Done", "(*sync.WaitGroup).Wait", "internal/race.Acquire", "internal/synctest.IsAssociated[sync.WaitGroup]", "sync/atomic.CompareAndSwapUint64", "internal/race.Write", "sync.runtime_SemacquireWaitGroup"], unfollowed := true, recurses := true, named := ["lagan/tackle.checks"], plainKeys := false, leaving := true, apart := false, laid := [("lagan/tackle.checks", laid_lagan_tackle_checks)] }
def TackleNewsSaid : Prop := tackleNewsRow.holds Tryz.pinned (OpenSpec.ofChange tackleNewsSpec)

/-- ITS FALSE NEIGHBOUR: 'it returns false'. Refute it at one input. -/
def tackleNewsWrong : ChangeSpec := { name := "tackleNews", fn := fun _ => fun
  | [d1, d2, d3, d4, d5] => { results := [.lit (.bool false)], args := [d1, d2, d3, d4, d5] }
  | _ => none }
def TackleNewsWrongFalsely : Prop := tackleNewsRow.holds Tryz.pinned (OpenSpec.ofChange tackleNewsWrong)

/-- 'laganlaw07.TackleLearnt': WHATEVER THE INPUT: true; the input reads as it did. -/
def tackleLearntSpec : ChangeSpec := { name := "tackleLearnt", fn := fun _ => fun
  | [d1, d2, d3, d4, d5, d6, d7, d8] => { results := [.lit (.bool true)], args := [d1, d2, d3, d4, d5, d6, d7, d8] }
  | _ => none }
def tackleLearntRow : OpenClaim := { program := "ytchjgmkeemdhlaagreatdoor", sum := "1157249373264674b328bcd1e74b9ee806bf380a99c90601671a35e557592292", func := "lagan/laganlaw07.TackleLearnt", spec := "tackleLearnt", inPlace := ["(*sync.WaitGroup).Add", "internal/race.ReleaseMerge", "internal/race.Disable", "internal/race.Enable", "internal/synctest.IsInBubble", "internal/synctest.Associate[sync.WaitGroup]", "sync.fatal", "sync/atomic.OrUint64", "sync/atomic.AddUint64", "internal/race.Read", "sync/atomic.LoadUint64", "sync/atomic.StoreUint64", "internal/synctest.Disassociate[sync.WaitGroup]", "sync.runtime_Semrelease", "(*sync.WaitGroup).Done", "(*sync.WaitGroup).Wait", "internal/race.Acquire", "internal/synctest.IsAssociated[sync.WaitGroup]", "sync/atomic.CompareAndSwapUint64", "internal/race.Write", "sync.runtime_SemacquireWaitGroup"], unfollowed := true, recurses := true, named := ["lagan/tackle.checks"], plainKeys := false, leaving := true, apart := false, laid := [("lagan/tackle.checks", laid_lagan_tackle_checks)] }
def TackleLearntSaid : Prop := tackleLearntRow.holds Tryz.pinned (OpenSpec.ofChange tackleLearntSpec)

/-- ITS FALSE NEIGHBOUR: 'it returns false'. Refute it at one input. -/
def tackleLearntWrong : ChangeSpec := { name := "tackleLearnt", fn := fun _ => fun
  | [d1, d2, d3, d4, d5, d6, d7, d8] => { results := [.lit (.bool false)], args := [d1, d2, d3, d4, d5, d6, d7, d8] }
  | _ => none }
def TackleLearntWrongFalsely : Prop := tackleLearntRow.holds Tryz.pinned (OpenSpec.ofChange tackleLearntWrong)

/-- 'laganlaw07.TackleTexts': WHATEVER THE INPUT: true; the input reads as it did. -/
def tackleTextsSpec : ChangeSpec := { name := "tackleTexts", fn := fun _ => fun
  | [d1, d2] => { results := [.lit (.bool true)], args := [d1, d2] }
  | _ => none }
def tackleTextsRow : OpenClaim := { program := "ytchjgmkeemdhlaagreatdoor", sum := "1157249373264674b328bcd1e74b9ee806bf380a99c90601671a35e557592292", func := "lagan/laganlaw07.TackleTexts", spec := "tackleTexts", inPlace := ["(*sync.WaitGroup).Add", "internal/race.ReleaseMerge", "internal/race.Disable", "internal/race.Enable", "internal/synctest.IsInBubble", "internal/synctest.Associate[sync.WaitGroup]", "sync.fatal", "sync/atomic.OrUint64", "sync/atomic.AddUint64", "internal/race.Read", "sync/atomic.LoadUint64", "sync/atomic.StoreUint64", "internal/synctest.Disassociate[sync.WaitGroup]", "sync.runtime_Semrelease", "(*sync.WaitGroup).Done", "(*sync.WaitGroup).Wait", "internal/race.Acquire", "internal/synctest.IsAssociated[sync.WaitGroup]", "sync/atomic.CompareAndSwapUint64", "internal/race.Write", "sync.runtime_SemacquireWaitGroup", "internal/abi.NoEscape", "internal/bytealg.MakeNoZero", "internal/bytealg.IndexByteString", "internal/bytealg.CountString", "internal/bytealg.IndexString", "internal/reflectlite.ValueOf", "(internal/reflectlite.Value).Type", "(internal/reflectlite.Value).IsNil", "internal/reflectlite.TypeOf", "(internal/reflectlite.Value).Elem", "(internal/reflectlite.Value).Set"], unfollowed := true, recurses := true, named := ["lagan/tackle.checks", "lagan/tackle.words", "internal/strconv.uint64pow10", "math/bits.deBruijn32tab", "math/bits.deBruijn64tab", "unicode/utf8.first", "unicode/utf8.acceptRanges", "internal/bytealg.MaxLen", "strconv.ErrSyntax", "strconv.ErrRange", "errors.errorType"], plainKeys := false, leaving := true, apart := false, laid := [("math/bits.deBruijn32tab", laid_math_bits_deBruijn32tab), ("math/bits.deBruijn64tab", laid_math_bits_deBruijn64tab), ("internal/strconv.uint64pow10", laid_internal_strconv_uint64pow10), ("unicode/utf8.acceptRanges", laid_unicode_utf8_acceptRanges), ("errors.errorType", laid_errors_errorType), ("strconv.ErrRange", laid_strconv_ErrRange), ("strconv.ErrSyntax", laid_strconv_ErrSyntax), ("lagan/tackle.words", laid_lagan_tackle_words), ("lagan/tackle.checks", laid_lagan_tackle_checks), ("unicode/utf8.first", laid_unicode_utf8_first)] }
def TackleTextsSaid : Prop := tackleTextsRow.holds Tryz.pinned (OpenSpec.ofChange tackleTextsSpec)

/-- ITS FALSE NEIGHBOUR: 'it returns false'. Refute it at one input. -/
def tackleTextsWrong : ChangeSpec := { name := "tackleTexts", fn := fun _ => fun
  | [d1, d2] => { results := [.lit (.bool false)], args := [d1, d2] }
  | _ => none }
def TackleTextsWrongFalsely : Prop := tackleTextsRow.holds Tryz.pinned (OpenSpec.ofChange tackleTextsWrong)

/-- 'laganlaw07.TackleBack': WHATEVER THE INPUT: true; the input reads as it did. -/
def tackleBackSpec : ChangeSpec := { name := "tackleBack", fn := fun _ => fun
  | [d] => { results := [.lit (.bool true)], args := [d] }
  | _ => none }
def tackleBackRow : OpenClaim := { program := "ytchjgmkeemdhlaagreatdoor", sum := "1157249373264674b328bcd1e74b9ee806bf380a99c90601671a35e557592292", func := "lagan/laganlaw07.TackleBack", spec := "tackleBack", inPlace := ["(*sync.WaitGroup).Add", "internal/race.ReleaseMerge", "internal/race.Disable", "internal/race.Enable", "internal/synctest.IsInBubble", "internal/synctest.Associate[sync.WaitGroup]", "sync.fatal", "sync/atomic.OrUint64", "sync/atomic.AddUint64", "internal/race.Read", "sync/atomic.LoadUint64", "sync/atomic.StoreUint64", "internal/synctest.Disassociate[sync.WaitGroup]", "sync.runtime_Semrelease", "(*sync.WaitGroup).Done", "(*sync.WaitGroup).Wait", "internal/race.Acquire", "internal/synctest.IsAssociated[sync.WaitGroup]", "sync/atomic.CompareAndSwapUint64", "internal/race.Write", "sync.runtime_SemacquireWaitGroup", "internal/abi.NoEscape", "internal/bytealg.MakeNoZero", "internal/bytealg.IndexByteString", "internal/bytealg.CountString", "internal/bytealg.IndexString", "internal/reflectlite.ValueOf", "(internal/reflectlite.Value).Type", "(internal/reflectlite.Value).IsNil", "internal/reflectlite.TypeOf", "(internal/reflectlite.Value).Elem", "(internal/reflectlite.Value).Set"], unfollowed := true, recurses := true, named := ["lagan/tackle.checks", "lagan/tackle.words", "internal/strconv.uint64pow10", "math/bits.deBruijn32tab", "math/bits.deBruijn64tab", "unicode/utf8.first", "unicode/utf8.acceptRanges", "internal/bytealg.MaxLen", "strconv.ErrSyntax", "strconv.ErrRange", "errors.errorType"], plainKeys := false, leaving := true, apart := false, laid := [("math/bits.deBruijn32tab", laid_math_bits_deBruijn32tab), ("math/bits.deBruijn64tab", laid_math_bits_deBruijn64tab), ("internal/strconv.uint64pow10", laid_internal_strconv_uint64pow10), ("unicode/utf8.acceptRanges", laid_unicode_utf8_acceptRanges), ("errors.errorType", laid_errors_errorType), ("strconv.ErrRange", laid_strconv_ErrRange), ("strconv.ErrSyntax", laid_strconv_ErrSyntax), ("lagan/tackle.words", laid_lagan_tackle_words), ("lagan/tackle.checks", laid_lagan_tackle_checks), ("unicode/utf8.first", laid_unicode_utf8_first)] }
def TackleBackSaid : Prop := tackleBackRow.holds Tryz.pinned (OpenSpec.ofChange tackleBackSpec)

/-- ITS FALSE NEIGHBOUR: 'it returns false'. Refute it at one input. -/
def tackleBackWrong : ChangeSpec := { name := "tackleBack", fn := fun _ => fun
  | [d] => { results := [.lit (.bool false)], args := [d] }
  | _ => none }
def TackleBackWrongFalsely : Prop := tackleBackRow.holds Tryz.pinned (OpenSpec.ofChange tackleBackWrong)

/- THE SECOND FORM. 'bulk': how many values and letters a reading holds, each counted each time it is reached (what is shared counts as often as it is met; a slice's spare places count too). A statement '..UptoSaid' is the law's where the arguments, and the package variables that the reading takes, are together of bulk at most 1048576: NARROWER than '..Said'. Prove '..Said' where nothing that the law and all that it calls make is longer than what came in: it says more and counts as full. Else prove '..UptoSaid'. A law counts once. -/
mutual
def uptoBulk {H : Type} : DataW H → Nat
  | .lit (.string bytes) => bytes.length + 1
  | .lit _ => 1
  | .nil => 1
  | .ptr d => uptoBulk d + 1
  | .slice elems spare => uptoBulkAll elems + uptoBulkAll spare + 1
  | .agg parts => uptoBulkAll parts + 1
  | .iface _ d => uptoBulk d + 1
  | .map entries => uptoBulkEntries entries + 1
  | .held _ => 1
def uptoBulkAll {H : Type} : List (DataW H) → Nat
  | [] => 0
  | d :: r => uptoBulk d + uptoBulkAll r
def uptoBulkEntries {H : Type} : List (Lit × DataW H) → Nat
  | [] => 0
  | x :: r => uptoBulkEntry x + uptoBulkEntries r
def uptoBulkEntry {H : Type} : Lit × DataW H → Nat
  | (.string bytes, d) => bytes.length + uptoBulk d + 1
  | (_, d) => uptoBulk d + 1
 end
def uptoSmall : (H : Type) → List (DataW H) → Bool := fun _ ds => decide (uptoBulkAll ds ≤ 1048576)
def OpenSpec.upto (s : _root_.Go.ChangeSpec) : _root_.Go.OpenSpec := { _root_.Go.OpenSpec.ofChange s with cond := some uptoSmall }

/-- 'laganlaw07.TacklePulls', WHERE WHAT IT READS IS OF BULK AT MOST 1048576: true; the input reads as it did. -/
def tacklePullsUptoRow : OpenClaim := { program := "ytchjgmkeemdhlaagreatdoor", sum := "1157249373264674b328bcd1e74b9ee806bf380a99c90601671a35e557592292", func := "lagan/laganlaw07.TacklePulls", spec := "tacklePulls", inPlace := ["(*sync.WaitGroup).Add", "internal/race.ReleaseMerge", "internal/race.Disable", "internal/race.Enable", "internal/synctest.IsInBubble", "internal/synctest.Associate[sync.WaitGroup]", "sync.fatal", "sync/atomic.OrUint64", "sync/atomic.AddUint64", "internal/race.Read", "sync/atomic.LoadUint64", "sync/atomic.StoreUint64", "internal/synctest.Disassociate[sync.WaitGroup]", "sync.runtime_Semrelease", "(*sync.WaitGroup).Done", "(*sync.WaitGroup).Wait", "internal/race.Acquire", "internal/synctest.IsAssociated[sync.WaitGroup]", "sync/atomic.CompareAndSwapUint64", "internal/race.Write", "sync.runtime_SemacquireWaitGroup"], unfollowed := true, recurses := true, named := ["lagan/tackle.checks"], plainKeys := false, leaving := true, apart := false, laid := [("lagan/tackle.checks", laid_lagan_tackle_checks)], narrowed := true }
def TacklePullsUptoSaid : Prop := tacklePullsUptoRow.holds Tryz.pinned (OpenSpec.upto tacklePullsSpec)

/-- 'laganlaw07.TackleCases', WHERE WHAT IT READS IS OF BULK AT MOST 1048576: true; the input reads as it did. -/
def tackleCasesUptoRow : OpenClaim := { program := "ytchjgmkeemdhlaagreatdoor", sum := "1157249373264674b328bcd1e74b9ee806bf380a99c90601671a35e557592292", func := "lagan/laganlaw07.TackleCases", spec := "tackleCases", inPlace := ["(*sync.WaitGroup).Add", "internal/race.ReleaseMerge", "internal/race.Disable", "internal/race.Enable", "internal/synctest.IsInBubble", "internal/synctest.Associate[sync.WaitGroup]", "sync.fatal", "sync/atomic.OrUint64", "sync/atomic.AddUint64", "internal/race.Read", "sync/atomic.LoadUint64", "sync/atomic.StoreUint64", "internal/synctest.Disassociate[sync.WaitGroup]", "sync.runtime_Semrelease", "(*sync.WaitGroup).Done", "(*sync.WaitGroup).Wait", "internal/race.Acquire", "internal/synctest.IsAssociated[sync.WaitGroup]", "sync/atomic.CompareAndSwapUint64", "internal/race.Write", "sync.runtime_SemacquireWaitGroup"], unfollowed := true, recurses := true, named := ["lagan/tackle.checks"], plainKeys := false, leaving := true, apart := false, laid := [("lagan/tackle.checks", laid_lagan_tackle_checks)], narrowed := true }
def TackleCasesUptoSaid : Prop := tackleCasesUptoRow.holds Tryz.pinned (OpenSpec.upto tackleCasesSpec)

/-- 'laganlaw07.TackleGears', WHERE WHAT IT READS IS OF BULK AT MOST 1048576: true; the input reads as it did. -/
def tackleGearsUptoRow : OpenClaim := { program := "ytchjgmkeemdhlaagreatdoor", sum := "1157249373264674b328bcd1e74b9ee806bf380a99c90601671a35e557592292", func := "lagan/laganlaw07.TackleGears", spec := "tackleGears", inPlace := ["(*sync.WaitGroup).Add", "internal/race.ReleaseMerge", "internal/race.Disable", "internal/race.Enable", "internal/synctest.IsInBubble", "internal/synctest.Associate[sync.WaitGroup]", "sync.fatal", "sync/atomic.OrUint64", "sync/atomic.AddUint64", "internal/race.Read", "sync/atomic.LoadUint64", "sync/atomic.StoreUint64", "internal/synctest.Disassociate[sync.WaitGroup]", "sync.runtime_Semrelease", "(*sync.WaitGroup).Done", "(*sync.WaitGroup).Wait", "internal/race.Acquire", "internal/synctest.IsAssociated[sync.WaitGroup]", "sync/atomic.CompareAndSwapUint64", "internal/race.Write", "sync.runtime_SemacquireWaitGroup"], unfollowed := true, recurses := true, named := ["lagan/tackle.checks"], plainKeys := false, leaving := true, apart := false, laid := [("lagan/tackle.checks", laid_lagan_tackle_checks)], narrowed := true }
def TackleGearsUptoSaid : Prop := tackleGearsUptoRow.holds Tryz.pinned (OpenSpec.upto tackleGearsSpec)

/-- 'laganlaw07.TackleReal', WHERE WHAT IT READS IS OF BULK AT MOST 1048576: true; the input reads as it did. -/
def tackleRealUptoRow : OpenClaim := { program := "ytchjgmkeemdhlaagreatdoor", sum := "1157249373264674b328bcd1e74b9ee806bf380a99c90601671a35e557592292", func := "lagan/laganlaw07.TackleReal", spec := "tackleReal", inPlace := ["(*sync.WaitGroup).Add", "internal/race.ReleaseMerge", "internal/race.Disable", "internal/race.Enable", "internal/synctest.IsInBubble", "internal/synctest.Associate[sync.WaitGroup]", "sync.fatal", "sync/atomic.OrUint64", "sync/atomic.AddUint64", "internal/race.Read", "sync/atomic.LoadUint64", "sync/atomic.StoreUint64", "internal/synctest.Disassociate[sync.WaitGroup]", "sync.runtime_Semrelease", "(*sync.WaitGroup).Done", "(*sync.WaitGroup).Wait", "internal/race.Acquire", "internal/synctest.IsAssociated[sync.WaitGroup]", "sync/atomic.CompareAndSwapUint64", "internal/race.Write", "sync.runtime_SemacquireWaitGroup"], unfollowed := true, recurses := true, named := ["lagan/tackle.checks"], plainKeys := false, leaving := true, apart := false, laid := [("lagan/tackle.checks", laid_lagan_tackle_checks)], narrowed := true }
def TackleRealUptoSaid : Prop := tackleRealUptoRow.holds Tryz.pinned (OpenSpec.upto tackleRealSpec)

/-- 'laganlaw07.TacklePulled', WHERE WHAT IT READS IS OF BULK AT MOST 1048576: true; the input reads as it did. -/
def tacklePulledUptoRow : OpenClaim := { program := "ytchjgmkeemdhlaagreatdoor", sum := "1157249373264674b328bcd1e74b9ee806bf380a99c90601671a35e557592292", func := "lagan/laganlaw07.TacklePulled", spec := "tacklePulled", inPlace := ["(*sync.WaitGroup).Add", "internal/race.ReleaseMerge", "internal/race.Disable", "internal/race.Enable", "internal/synctest.IsInBubble", "internal/synctest.Associate[sync.WaitGroup]", "sync.fatal", "sync/atomic.OrUint64", "sync/atomic.AddUint64", "internal/race.Read", "sync/atomic.LoadUint64", "sync/atomic.StoreUint64", "internal/synctest.Disassociate[sync.WaitGroup]", "sync.runtime_Semrelease", "(*sync.WaitGroup).Done", "(*sync.WaitGroup).Wait", "internal/race.Acquire", "internal/synctest.IsAssociated[sync.WaitGroup]", "sync/atomic.CompareAndSwapUint64", "internal/race.Write", "sync.runtime_SemacquireWaitGroup"], unfollowed := true, recurses := true, named := ["lagan/tackle.checks"], plainKeys := false, leaving := true, apart := false, laid := [("lagan/tackle.checks", laid_lagan_tackle_checks)], narrowed := true }
def TacklePulledUptoSaid : Prop := tacklePulledUptoRow.holds Tryz.pinned (OpenSpec.upto tacklePulledSpec)

/-- 'laganlaw07.TackleCut', WHERE WHAT IT READS IS OF BULK AT MOST 1048576: true; the input reads as it did. -/
def tackleCutUptoRow : OpenClaim := { program := "ytchjgmkeemdhlaagreatdoor", sum := "1157249373264674b328bcd1e74b9ee806bf380a99c90601671a35e557592292", func := "lagan/laganlaw07.TackleCut", spec := "tackleCut", inPlace := ["(*sync.WaitGroup).Add", "internal/race.ReleaseMerge", "internal/race.Disable", "internal/race.Enable", "internal/synctest.IsInBubble", "internal/synctest.Associate[sync.WaitGroup]", "sync.fatal", "sync/atomic.OrUint64", "sync/atomic.AddUint64", "internal/race.Read", "sync/atomic.LoadUint64", "sync/atomic.StoreUint64", "internal/synctest.Disassociate[sync.WaitGroup]", "sync.runtime_Semrelease", "(*sync.WaitGroup).Done", "(*sync.WaitGroup).Wait", "internal/race.Acquire", "internal/synctest.IsAssociated[sync.WaitGroup]", "sync/atomic.CompareAndSwapUint64", "internal/race.Write", "sync.runtime_SemacquireWaitGroup"], unfollowed := true, recurses := true, named := ["lagan/tackle.checks"], plainKeys := false, leaving := true, apart := false, laid := [("lagan/tackle.checks", laid_lagan_tackle_checks)], narrowed := true }
def TackleCutUptoSaid : Prop := tackleCutUptoRow.holds Tryz.pinned (OpenSpec.upto tackleCutSpec)

/-- 'laganlaw07.TackleClashes', WHERE WHAT IT READS IS OF BULK AT MOST 1048576: true; the input reads as it did. -/
def tackleClashesUptoRow : OpenClaim := { program := "ytchjgmkeemdhlaagreatdoor", sum := "1157249373264674b328bcd1e74b9ee806bf380a99c90601671a35e557592292", func := "lagan/laganlaw07.TackleClashes", spec := "tackleClashes", inPlace := ["(*sync.WaitGroup).Add", "internal/race.ReleaseMerge", "internal/race.Disable", "internal/race.Enable", "internal/synctest.IsInBubble", "internal/synctest.Associate[sync.WaitGroup]", "sync.fatal", "sync/atomic.OrUint64", "sync/atomic.AddUint64", "internal/race.Read", "sync/atomic.LoadUint64", "sync/atomic.StoreUint64", "internal/synctest.Disassociate[sync.WaitGroup]", "sync.runtime_Semrelease", "(*sync.WaitGroup).Done", "(*sync.WaitGroup).Wait", "internal/race.Acquire", "internal/synctest.IsAssociated[sync.WaitGroup]", "sync/atomic.CompareAndSwapUint64", "internal/race.Write", "sync.runtime_SemacquireWaitGroup"], unfollowed := true, recurses := true, named := ["lagan/tackle.checks"], plainKeys := false, leaving := true, apart := false, laid := [("lagan/tackle.checks", laid_lagan_tackle_checks)], narrowed := true }
def TackleClashesUptoSaid : Prop := tackleClashesUptoRow.holds Tryz.pinned (OpenSpec.upto tackleClashesSpec)

/-- 'laganlaw07.TackleAsked', WHERE WHAT IT READS IS OF BULK AT MOST 1048576: true; the input reads as it did. -/
def tackleAskedUptoRow : OpenClaim := { program := "ytchjgmkeemdhlaagreatdoor", sum := "1157249373264674b328bcd1e74b9ee806bf380a99c90601671a35e557592292", func := "lagan/laganlaw07.TackleAsked", spec := "tackleAsked", inPlace := ["(*sync.WaitGroup).Add", "internal/race.ReleaseMerge", "internal/race.Disable", "internal/race.Enable", "internal/synctest.IsInBubble", "internal/synctest.Associate[sync.WaitGroup]", "sync.fatal", "sync/atomic.OrUint64", "sync/atomic.AddUint64", "internal/race.Read", "sync/atomic.LoadUint64", "sync/atomic.StoreUint64", "internal/synctest.Disassociate[sync.WaitGroup]", "sync.runtime_Semrelease", "(*sync.WaitGroup).Done", "(*sync.WaitGroup).Wait", "internal/race.Acquire", "internal/synctest.IsAssociated[sync.WaitGroup]", "sync/atomic.CompareAndSwapUint64", "internal/race.Write", "sync.runtime_SemacquireWaitGroup"], unfollowed := true, recurses := true, named := ["lagan/tackle.checks"], plainKeys := false, leaving := true, apart := false, laid := [("lagan/tackle.checks", laid_lagan_tackle_checks)], narrowed := true }
def TackleAskedUptoSaid : Prop := tackleAskedUptoRow.holds Tryz.pinned (OpenSpec.upto tackleAskedSpec)

/-- 'laganlaw07.TackleMost', WHERE WHAT IT READS IS OF BULK AT MOST 1048576: true; the input reads as it did. -/
def tackleMostUptoRow : OpenClaim := { program := "ytchjgmkeemdhlaagreatdoor", sum := "1157249373264674b328bcd1e74b9ee806bf380a99c90601671a35e557592292", func := "lagan/laganlaw07.TackleMost", spec := "tackleMost", inPlace := ["(*sync.WaitGroup).Add", "internal/race.ReleaseMerge", "internal/race.Disable", "internal/race.Enable", "internal/synctest.IsInBubble", "internal/synctest.Associate[sync.WaitGroup]", "sync.fatal", "sync/atomic.OrUint64", "sync/atomic.AddUint64", "internal/race.Read", "sync/atomic.LoadUint64", "sync/atomic.StoreUint64", "internal/synctest.Disassociate[sync.WaitGroup]", "sync.runtime_Semrelease", "(*sync.WaitGroup).Done", "(*sync.WaitGroup).Wait", "internal/race.Acquire", "internal/synctest.IsAssociated[sync.WaitGroup]", "sync/atomic.CompareAndSwapUint64", "internal/race.Write", "sync.runtime_SemacquireWaitGroup"], unfollowed := true, recurses := true, named := ["lagan/tackle.checks"], plainKeys := false, leaving := true, apart := false, laid := [("lagan/tackle.checks", laid_lagan_tackle_checks)], narrowed := true }
def TackleMostUptoSaid : Prop := tackleMostUptoRow.holds Tryz.pinned (OpenSpec.upto tackleMostSpec)

/-- 'laganlaw07.TackleFewest', WHERE WHAT IT READS IS OF BULK AT MOST 1048576: true; the input reads as it did. -/
def tackleFewestUptoRow : OpenClaim := { program := "ytchjgmkeemdhlaagreatdoor", sum := "1157249373264674b328bcd1e74b9ee806bf380a99c90601671a35e557592292", func := "lagan/laganlaw07.TackleFewest", spec := "tackleFewest", inPlace := ["(*sync.WaitGroup).Add", "internal/race.ReleaseMerge", "internal/race.Disable", "internal/race.Enable", "internal/synctest.IsInBubble", "internal/synctest.Associate[sync.WaitGroup]", "sync.fatal", "sync/atomic.OrUint64", "sync/atomic.AddUint64", "internal/race.Read", "sync/atomic.LoadUint64", "sync/atomic.StoreUint64", "internal/synctest.Disassociate[sync.WaitGroup]", "sync.runtime_Semrelease", "(*sync.WaitGroup).Done", "(*sync.WaitGroup).Wait", "internal/race.Acquire", "internal/synctest.IsAssociated[sync.WaitGroup]", "sync/atomic.CompareAndSwapUint64", "internal/race.Write", "sync.runtime_SemacquireWaitGroup"], unfollowed := true, recurses := true, named := ["lagan/tackle.checks"], plainKeys := false, leaving := true, apart := false, laid := [("lagan/tackle.checks", laid_lagan_tackle_checks)], narrowed := true }
def TackleFewestUptoSaid : Prop := tackleFewestUptoRow.holds Tryz.pinned (OpenSpec.upto tackleFewestSpec)

/-- 'laganlaw07.TackleShared', WHERE WHAT IT READS IS OF BULK AT MOST 1048576: true; the input reads as it did. -/
def tackleSharedUptoRow : OpenClaim := { program := "ytchjgmkeemdhlaagreatdoor", sum := "1157249373264674b328bcd1e74b9ee806bf380a99c90601671a35e557592292", func := "lagan/laganlaw07.TackleShared", spec := "tackleShared", inPlace := ["(*sync.WaitGroup).Add", "internal/race.ReleaseMerge", "internal/race.Disable", "internal/race.Enable", "internal/synctest.IsInBubble", "internal/synctest.Associate[sync.WaitGroup]", "sync.fatal", "sync/atomic.OrUint64", "sync/atomic.AddUint64", "internal/race.Read", "sync/atomic.LoadUint64", "sync/atomic.StoreUint64", "internal/synctest.Disassociate[sync.WaitGroup]", "sync.runtime_Semrelease", "(*sync.WaitGroup).Done", "(*sync.WaitGroup).Wait", "internal/race.Acquire", "internal/synctest.IsAssociated[sync.WaitGroup]", "sync/atomic.CompareAndSwapUint64", "internal/race.Write", "sync.runtime_SemacquireWaitGroup"], unfollowed := true, recurses := true, named := ["lagan/tackle.checks"], plainKeys := false, leaving := true, apart := false, laid := [("lagan/tackle.checks", laid_lagan_tackle_checks)], narrowed := true }
def TackleSharedUptoSaid : Prop := tackleSharedUptoRow.holds Tryz.pinned (OpenSpec.upto tackleSharedSpec)

/-- 'laganlaw07.TackleRenewed', WHERE WHAT IT READS IS OF BULK AT MOST 1048576: true; the input reads as it did. -/
def tackleRenewedUptoRow : OpenClaim := { program := "ytchjgmkeemdhlaagreatdoor", sum := "1157249373264674b328bcd1e74b9ee806bf380a99c90601671a35e557592292", func := "lagan/laganlaw07.TackleRenewed", spec := "tackleRenewed", inPlace := ["(*sync.WaitGroup).Add", "internal/race.ReleaseMerge", "internal/race.Disable", "internal/race.Enable", "internal/synctest.IsInBubble", "internal/synctest.Associate[sync.WaitGroup]", "sync.fatal", "sync/atomic.OrUint64", "sync/atomic.AddUint64", "internal/race.Read", "sync/atomic.LoadUint64", "sync/atomic.StoreUint64", "internal/synctest.Disassociate[sync.WaitGroup]", "sync.runtime_Semrelease", "(*sync.WaitGroup).Done", "(*sync.WaitGroup).Wait", "internal/race.Acquire", "internal/synctest.IsAssociated[sync.WaitGroup]", "sync/atomic.CompareAndSwapUint64", "internal/race.Write", "sync.runtime_SemacquireWaitGroup"], unfollowed := true, recurses := true, named := ["lagan/tackle.checks"], plainKeys := false, leaving := true, apart := false, laid := [("lagan/tackle.checks", laid_lagan_tackle_checks)], narrowed := true }
def TackleRenewedUptoSaid : Prop := tackleRenewedUptoRow.holds Tryz.pinned (OpenSpec.upto tackleRenewedSpec)

/-- 'laganlaw07.TackleStronger', WHERE WHAT IT READS IS OF BULK AT MOST 1048576: true; the input reads as it did. -/
def tackleStrongerUptoRow : OpenClaim := { program := "ytchjgmkeemdhlaagreatdoor", sum := "1157249373264674b328bcd1e74b9ee806bf380a99c90601671a35e557592292", func := "lagan/laganlaw07.TackleStronger", spec := "tackleStronger", inPlace := ["(*sync.WaitGroup).Add", "internal/race.ReleaseMerge", "internal/race.Disable", "internal/race.Enable", "internal/synctest.IsInBubble", "internal/synctest.Associate[sync.WaitGroup]", "sync.fatal", "sync/atomic.OrUint64", "sync/atomic.AddUint64", "internal/race.Read", "sync/atomic.LoadUint64", "sync/atomic.StoreUint64", "internal/synctest.Disassociate[sync.WaitGroup]", "sync.runtime_Semrelease", "(*sync.WaitGroup).Done", "(*sync.WaitGroup).Wait", "internal/race.Acquire", "internal/synctest.IsAssociated[sync.WaitGroup]", "sync/atomic.CompareAndSwapUint64", "internal/race.Write", "sync.runtime_SemacquireWaitGroup"], unfollowed := true, recurses := true, named := ["lagan/tackle.checks"], plainKeys := false, leaving := true, apart := false, laid := [("lagan/tackle.checks", laid_lagan_tackle_checks)], narrowed := true }
def TackleStrongerUptoSaid : Prop := tackleStrongerUptoRow.holds Tryz.pinned (OpenSpec.upto tackleStrongerSpec)

/-- 'laganlaw07.TackleAnyOrder', WHERE WHAT IT READS IS OF BULK AT MOST 1048576: true; the input reads as it did. -/
def tackleAnyOrderUptoRow : OpenClaim := { program := "ytchjgmkeemdhlaagreatdoor", sum := "1157249373264674b328bcd1e74b9ee806bf380a99c90601671a35e557592292", func := "lagan/laganlaw07.TackleAnyOrder", spec := "tackleAnyOrder", inPlace := ["(*sync.WaitGroup).Add", "internal/race.ReleaseMerge", "internal/race.Disable", "internal/race.Enable", "internal/synctest.IsInBubble", "internal/synctest.Associate[sync.WaitGroup]", "sync.fatal", "sync/atomic.OrUint64", "sync/atomic.AddUint64", "internal/race.Read", "sync/atomic.LoadUint64", "sync/atomic.StoreUint64", "internal/synctest.Disassociate[sync.WaitGroup]", "sync.runtime_Semrelease", "(*sync.WaitGroup).Done", "(*sync.WaitGroup).Wait", "internal/race.Acquire", "internal/synctest.IsAssociated[sync.WaitGroup]", "sync/atomic.CompareAndSwapUint64", "internal/race.Write", "sync.runtime_SemacquireWaitGroup"], unfollowed := true, recurses := true, named := ["lagan/tackle.checks"], plainKeys := false, leaving := true, apart := false, laid := [("lagan/tackle.checks", laid_lagan_tackle_checks)], narrowed := true }
def TackleAnyOrderUptoSaid : Prop := tackleAnyOrderUptoRow.holds Tryz.pinned (OpenSpec.upto tackleAnyOrderSpec)

/-- 'laganlaw07.TackleReached', WHERE WHAT IT READS IS OF BULK AT MOST 1048576: true; the input reads as it did. -/
def tackleReachedUptoRow : OpenClaim := { program := "ytchjgmkeemdhlaagreatdoor", sum := "1157249373264674b328bcd1e74b9ee806bf380a99c90601671a35e557592292", func := "lagan/laganlaw07.TackleReached", spec := "tackleReached", inPlace := ["(*sync.WaitGroup).Add", "internal/race.ReleaseMerge", "internal/race.Disable", "internal/race.Enable", "internal/synctest.IsInBubble", "internal/synctest.Associate[sync.WaitGroup]", "sync.fatal", "sync/atomic.OrUint64", "sync/atomic.AddUint64", "internal/race.Read", "sync/atomic.LoadUint64", "sync/atomic.StoreUint64", "internal/synctest.Disassociate[sync.WaitGroup]", "sync.runtime_Semrelease", "(*sync.WaitGroup).Done", "(*sync.WaitGroup).Wait", "internal/race.Acquire", "internal/synctest.IsAssociated[sync.WaitGroup]", "sync/atomic.CompareAndSwapUint64", "internal/race.Write", "sync.runtime_SemacquireWaitGroup"], unfollowed := true, recurses := true, named := ["lagan/tackle.checks"], plainKeys := false, leaving := true, apart := false, laid := [("lagan/tackle.checks", laid_lagan_tackle_checks)], narrowed := true }
def TackleReachedUptoSaid : Prop := tackleReachedUptoRow.holds Tryz.pinned (OpenSpec.upto tackleReachedSpec)

/-- 'laganlaw07.TackleNews', WHERE WHAT IT READS IS OF BULK AT MOST 1048576: true; the input reads as it did. -/
def tackleNewsUptoRow : OpenClaim := { program := "ytchjgmkeemdhlaagreatdoor", sum := "1157249373264674b328bcd1e74b9ee806bf380a99c90601671a35e557592292", func := "lagan/laganlaw07.TackleNews", spec := "tackleNews", inPlace := ["(*sync.WaitGroup).Add", "internal/race.ReleaseMerge", "internal/race.Disable", "internal/race.Enable", "internal/synctest.IsInBubble", "internal/synctest.Associate[sync.WaitGroup]", "sync.fatal", "sync/atomic.OrUint64", "sync/atomic.AddUint64", "internal/race.Read", "sync/atomic.LoadUint64", "sync/atomic.StoreUint64", "internal/synctest.Disassociate[sync.WaitGroup]", "sync.runtime_Semrelease", "(*sync.WaitGroup).Done", "(*sync.WaitGroup).Wait", "internal/race.Acquire", "internal/synctest.IsAssociated[sync.WaitGroup]", "sync/atomic.CompareAndSwapUint64", "internal/race.Write", "sync.runtime_SemacquireWaitGroup"], unfollowed := true, recurses := true, named := ["lagan/tackle.checks"], plainKeys := false, leaving := true, apart := false, laid := [("lagan/tackle.checks", laid_lagan_tackle_checks)], narrowed := true }
def TackleNewsUptoSaid : Prop := tackleNewsUptoRow.holds Tryz.pinned (OpenSpec.upto tackleNewsSpec)

/-- 'laganlaw07.TackleLearnt', WHERE WHAT IT READS IS OF BULK AT MOST 1048576: true; the input reads as it did. -/
def tackleLearntUptoRow : OpenClaim := { program := "ytchjgmkeemdhlaagreatdoor", sum := "1157249373264674b328bcd1e74b9ee806bf380a99c90601671a35e557592292", func := "lagan/laganlaw07.TackleLearnt", spec := "tackleLearnt", inPlace := ["(*sync.WaitGroup).Add", "internal/race.ReleaseMerge", "internal/race.Disable", "internal/race.Enable", "internal/synctest.IsInBubble", "internal/synctest.Associate[sync.WaitGroup]", "sync.fatal", "sync/atomic.OrUint64", "sync/atomic.AddUint64", "internal/race.Read", "sync/atomic.LoadUint64", "sync/atomic.StoreUint64", "internal/synctest.Disassociate[sync.WaitGroup]", "sync.runtime_Semrelease", "(*sync.WaitGroup).Done", "(*sync.WaitGroup).Wait", "internal/race.Acquire", "internal/synctest.IsAssociated[sync.WaitGroup]", "sync/atomic.CompareAndSwapUint64", "internal/race.Write", "sync.runtime_SemacquireWaitGroup"], unfollowed := true, recurses := true, named := ["lagan/tackle.checks"], plainKeys := false, leaving := true, apart := false, laid := [("lagan/tackle.checks", laid_lagan_tackle_checks)], narrowed := true }
def TackleLearntUptoSaid : Prop := tackleLearntUptoRow.holds Tryz.pinned (OpenSpec.upto tackleLearntSpec)

/-- 'laganlaw07.TackleTexts', WHERE WHAT IT READS IS OF BULK AT MOST 1048576: true; the input reads as it did. -/
def tackleTextsUptoRow : OpenClaim := { program := "ytchjgmkeemdhlaagreatdoor", sum := "1157249373264674b328bcd1e74b9ee806bf380a99c90601671a35e557592292", func := "lagan/laganlaw07.TackleTexts", spec := "tackleTexts", inPlace := ["(*sync.WaitGroup).Add", "internal/race.ReleaseMerge", "internal/race.Disable", "internal/race.Enable", "internal/synctest.IsInBubble", "internal/synctest.Associate[sync.WaitGroup]", "sync.fatal", "sync/atomic.OrUint64", "sync/atomic.AddUint64", "internal/race.Read", "sync/atomic.LoadUint64", "sync/atomic.StoreUint64", "internal/synctest.Disassociate[sync.WaitGroup]", "sync.runtime_Semrelease", "(*sync.WaitGroup).Done", "(*sync.WaitGroup).Wait", "internal/race.Acquire", "internal/synctest.IsAssociated[sync.WaitGroup]", "sync/atomic.CompareAndSwapUint64", "internal/race.Write", "sync.runtime_SemacquireWaitGroup", "internal/abi.NoEscape", "internal/bytealg.MakeNoZero", "internal/bytealg.IndexByteString", "internal/bytealg.CountString", "internal/bytealg.IndexString", "internal/reflectlite.ValueOf", "(internal/reflectlite.Value).Type", "(internal/reflectlite.Value).IsNil", "internal/reflectlite.TypeOf", "(internal/reflectlite.Value).Elem", "(internal/reflectlite.Value).Set"], unfollowed := true, recurses := true, named := ["lagan/tackle.checks", "lagan/tackle.words", "internal/strconv.uint64pow10", "math/bits.deBruijn32tab", "math/bits.deBruijn64tab", "unicode/utf8.first", "unicode/utf8.acceptRanges", "internal/bytealg.MaxLen", "strconv.ErrSyntax", "strconv.ErrRange", "errors.errorType"], plainKeys := false, leaving := true, apart := false, laid := [("math/bits.deBruijn32tab", laid_math_bits_deBruijn32tab), ("math/bits.deBruijn64tab", laid_math_bits_deBruijn64tab), ("internal/strconv.uint64pow10", laid_internal_strconv_uint64pow10), ("unicode/utf8.acceptRanges", laid_unicode_utf8_acceptRanges), ("errors.errorType", laid_errors_errorType), ("strconv.ErrRange", laid_strconv_ErrRange), ("strconv.ErrSyntax", laid_strconv_ErrSyntax), ("lagan/tackle.words", laid_lagan_tackle_words), ("lagan/tackle.checks", laid_lagan_tackle_checks), ("unicode/utf8.first", laid_unicode_utf8_first)], narrowed := true }
def TackleTextsUptoSaid : Prop := tackleTextsUptoRow.holds Tryz.pinned (OpenSpec.upto tackleTextsSpec)

/-- 'laganlaw07.TackleBack', WHERE WHAT IT READS IS OF BULK AT MOST 1048576: true; the input reads as it did. -/
def tackleBackUptoRow : OpenClaim := { program := "ytchjgmkeemdhlaagreatdoor", sum := "1157249373264674b328bcd1e74b9ee806bf380a99c90601671a35e557592292", func := "lagan/laganlaw07.TackleBack", spec := "tackleBack", inPlace := ["(*sync.WaitGroup).Add", "internal/race.ReleaseMerge", "internal/race.Disable", "internal/race.Enable", "internal/synctest.IsInBubble", "internal/synctest.Associate[sync.WaitGroup]", "sync.fatal", "sync/atomic.OrUint64", "sync/atomic.AddUint64", "internal/race.Read", "sync/atomic.LoadUint64", "sync/atomic.StoreUint64", "internal/synctest.Disassociate[sync.WaitGroup]", "sync.runtime_Semrelease", "(*sync.WaitGroup).Done", "(*sync.WaitGroup).Wait", "internal/race.Acquire", "internal/synctest.IsAssociated[sync.WaitGroup]", "sync/atomic.CompareAndSwapUint64", "internal/race.Write", "sync.runtime_SemacquireWaitGroup", "internal/abi.NoEscape", "internal/bytealg.MakeNoZero", "internal/bytealg.IndexByteString", "internal/bytealg.CountString", "internal/bytealg.IndexString", "internal/reflectlite.ValueOf", "(internal/reflectlite.Value).Type", "(internal/reflectlite.Value).IsNil", "internal/reflectlite.TypeOf", "(internal/reflectlite.Value).Elem", "(internal/reflectlite.Value).Set"], unfollowed := true, recurses := true, named := ["lagan/tackle.checks", "lagan/tackle.words", "internal/strconv.uint64pow10", "math/bits.deBruijn32tab", "math/bits.deBruijn64tab", "unicode/utf8.first", "unicode/utf8.acceptRanges", "internal/bytealg.MaxLen", "strconv.ErrSyntax", "strconv.ErrRange", "errors.errorType"], plainKeys := false, leaving := true, apart := false, laid := [("math/bits.deBruijn32tab", laid_math_bits_deBruijn32tab), ("math/bits.deBruijn64tab", laid_math_bits_deBruijn64tab), ("internal/strconv.uint64pow10", laid_internal_strconv_uint64pow10), ("unicode/utf8.acceptRanges", laid_unicode_utf8_acceptRanges), ("errors.errorType", laid_errors_errorType), ("strconv.ErrRange", laid_strconv_ErrRange), ("strconv.ErrSyntax", laid_strconv_ErrSyntax), ("lagan/tackle.words", laid_lagan_tackle_words), ("lagan/tackle.checks", laid_lagan_tackle_checks), ("unicode/utf8.first", laid_unicode_utf8_first)], narrowed := true }
def TackleBackUptoSaid : Prop := tackleBackUptoRow.holds Tryz.pinned (OpenSpec.upto tackleBackSpec)

end Rows
end Go.Proofs.YtchjgmkeemdhlaaGreatDoor
