/-
  NARROWER THAN 'FOR EVERY INPUT', by the rows' own cells (each row's printed sentence says how): BearingTrue: laid · BearingCases: laid · BearingNews: laid · BearingReal: laid · BearingReached: laid · BearingTurned: laid · BearingAsked: laid · BearingLearnt: laid · BearingMoved: laid · BearingAnyOrder: laid · BearingWitnesses: laid · BearingFewest: laid · BearingClashes: laid · BearingTexts: laid · BearingBack: laid.
  DERIVED. THE GIVEN ROWS OF THIS SEAT. 15 by the template 'for every input the law returns true; each argument reads behind the call as it read before'; 0 by the template 'total and deterministic' (their statements: YtlkmnfdipiielaaGreatDoorTotals.lean).
  GIVEN WITH THE SEED: the statements are not yours to turn. If you find one false, say at which input.
  Laid BY PROGRAM, IN A SANDBOX (cutbox-rows.mjs): the forced cells as the released guide's own fill.sh prints them over the translation c241800f04b6c666… (all of the seat's roots in one cut). By AI agents, Wed Nov 11 2026. No macro, syntax, notation, axiom, sorry.
-/
import Derived.Test.YtlkmnfdipiielaaGreatDoorChecked
import GoSem.PinnedTables
import GoSem.Claim
import GoSem.ClaimJoined
import GoSem.ClaimMapViews
import Derived.JoinedTies
import Derived.KernelRfl
namespace Go.Proofs.YtlkmnfdipiielaaGreatDoor
/- THE CELL 'sum', in the pinned program and in every row, IS THE sha256 OF THE DUMP (.gsa) THAT YtlkmnfdipiielaaGreatDoorProg.lean LOADS. Nothing in Lean hashes anything: it is a label: what it is worth is what the hold of that sum in a sandbox is worth. -/
noncomputable def Tryz.pinned : Pinned := { name := "ytlkmnfdipiielaagreatdoor", sum := "c241800f04b6c666703b3a20476bfb387ee889f7a20bd04cc3197321b8b9ab2f", checked := Tryz.checked }
namespace Rows
def none {H : Type} : Left H := { results := [], args := [] }

/- WHAT THE LISTED PACKAGE-LEVEL VARIABLES READ AS WHEN THE CALL BEGINS. Each datum BY PROGRAM (the guide's laid-datum.mjs) off the statement by which the dump's own 'gosem.cut.vars' lays the variable. In a bare row this is a premise. The card (YtlkmnfdipiielaaGreatDoorCards.lean) ties it to the program's text. -/
def laid_lagan_bearing_checks {H : Type} : DataW H := .iface "func table" (.agg [.iface "func" (.lit (.string [40, 108, 97, 103, 97, 110, 47, 98, 101, 97, 114, 105, 110, 103, 46, 98, 111, 111, 107, 41, 46, 99, 104, 97, 114, 116])), .iface "func" (.lit (.string [40, 108, 97, 103, 97, 110, 47, 98, 101, 97, 114, 105, 110, 103, 46, 98, 111, 111, 107, 41, 46, 99, 111, 109, 112, 97, 115, 115, 101, 115])), .iface "func" (.lit (.string [40, 108, 97, 103, 97, 110, 47, 98, 101, 97, 114, 105, 110, 103, 46, 98, 111, 111, 107, 41, 46, 119, 105, 116, 110, 101, 115, 115, 101, 115]))])
def laid_math_bits_deBruijn32tab {H : Type} : DataW H := .agg [.lit (.int .u8 0), .lit (.int .u8 1), .lit (.int .u8 28), .lit (.int .u8 2), .lit (.int .u8 29), .lit (.int .u8 14), .lit (.int .u8 24), .lit (.int .u8 3), .lit (.int .u8 30), .lit (.int .u8 22), .lit (.int .u8 20), .lit (.int .u8 15), .lit (.int .u8 25), .lit (.int .u8 17), .lit (.int .u8 4), .lit (.int .u8 8), .lit (.int .u8 31), .lit (.int .u8 27), .lit (.int .u8 13), .lit (.int .u8 23), .lit (.int .u8 21), .lit (.int .u8 19), .lit (.int .u8 16), .lit (.int .u8 7), .lit (.int .u8 26), .lit (.int .u8 12), .lit (.int .u8 18), .lit (.int .u8 6), .lit (.int .u8 11), .lit (.int .u8 5), .lit (.int .u8 10), .lit (.int .u8 9)]
def laid_math_bits_deBruijn64tab {H : Type} : DataW H := .agg [.lit (.int .u8 0), .lit (.int .u8 1), .lit (.int .u8 56), .lit (.int .u8 2), .lit (.int .u8 57), .lit (.int .u8 49), .lit (.int .u8 28), .lit (.int .u8 3), .lit (.int .u8 61), .lit (.int .u8 58), .lit (.int .u8 42), .lit (.int .u8 50), .lit (.int .u8 38), .lit (.int .u8 29), .lit (.int .u8 17), .lit (.int .u8 4), .lit (.int .u8 62), .lit (.int .u8 47), .lit (.int .u8 59), .lit (.int .u8 36), .lit (.int .u8 45), .lit (.int .u8 43), .lit (.int .u8 51), .lit (.int .u8 22), .lit (.int .u8 53), .lit (.int .u8 39), .lit (.int .u8 33), .lit (.int .u8 30), .lit (.int .u8 24), .lit (.int .u8 18), .lit (.int .u8 12), .lit (.int .u8 5), .lit (.int .u8 63), .lit (.int .u8 55), .lit (.int .u8 48), .lit (.int .u8 27), .lit (.int .u8 60), .lit (.int .u8 41), .lit (.int .u8 37), .lit (.int .u8 16), .lit (.int .u8 46), .lit (.int .u8 35), .lit (.int .u8 44), .lit (.int .u8 21), .lit (.int .u8 52), .lit (.int .u8 32), .lit (.int .u8 23), .lit (.int .u8 11), .lit (.int .u8 54), .lit (.int .u8 26), .lit (.int .u8 40), .lit (.int .u8 15), .lit (.int .u8 34), .lit (.int .u8 20), .lit (.int .u8 31), .lit (.int .u8 10), .lit (.int .u8 25), .lit (.int .u8 14), .lit (.int .u8 19), .lit (.int .u8 9), .lit (.int .u8 13), .lit (.int .u8 8), .lit (.int .u8 7), .lit (.int .u8 6)]
def laid_internal_strconv_uint64pow10 {H : Type} : DataW H := .agg [.lit (.int .u64 1), .lit (.int .u64 10), .lit (.int .u64 100), .lit (.int .u64 1000), .lit (.int .u64 10000), .lit (.int .u64 100000), .lit (.int .u64 1000000), .lit (.int .u64 10000000), .lit (.int .u64 100000000), .lit (.int .u64 1000000000), .lit (.int .u64 10000000000), .lit (.int .u64 100000000000), .lit (.int .u64 1000000000000), .lit (.int .u64 10000000000000), .lit (.int .u64 100000000000000), .lit (.int .u64 1000000000000000), .lit (.int .u64 10000000000000000), .lit (.int .u64 100000000000000000), .lit (.int .u64 1000000000000000000), .lit (.int .u64 10000000000000000000)]
def laid_unicode_utf8_acceptRanges {H : Type} : DataW H := .agg [.agg [.lit (.int .u8 128), .lit (.int .u8 191)], .agg [.lit (.int .u8 160), .lit (.int .u8 191)], .agg [.lit (.int .u8 128), .lit (.int .u8 159)], .agg [.lit (.int .u8 144), .lit (.int .u8 191)], .agg [.lit (.int .u8 128), .lit (.int .u8 143)], .agg [.lit (.int .u8 0), .lit (.int .u8 0)], .agg [.lit (.int .u8 0), .lit (.int .u8 0)], .agg [.lit (.int .u8 0), .lit (.int .u8 0)], .agg [.lit (.int .u8 0), .lit (.int .u8 0)], .agg [.lit (.int .u8 0), .lit (.int .u8 0)], .agg [.lit (.int .u8 0), .lit (.int .u8 0)], .agg [.lit (.int .u8 0), .lit (.int .u8 0)], .agg [.lit (.int .u8 0), .lit (.int .u8 0)], .agg [.lit (.int .u8 0), .lit (.int .u8 0)], .agg [.lit (.int .u8 0), .lit (.int .u8 0)], .agg [.lit (.int .u8 0), .lit (.int .u8 0)]]
def laid_errors_errorType {H : Type} : DataW H := .iface "internal/reflectlite.rtype" (.agg [.ptr (.lit (.string [101, 114, 114, 111, 114]))])
def laid_strconv_ErrRange {H : Type} : DataW H := .iface "*errors.errorString" (.ptr (.agg [.lit (.string [118, 97, 108, 117, 101, 32, 111, 117, 116, 32, 111, 102, 32, 114, 97, 110, 103, 101])]))
def laid_strconv_ErrSyntax {H : Type} : DataW H := .iface "*errors.errorString" (.ptr (.agg [.lit (.string [105, 110, 118, 97, 108, 105, 100, 32, 115, 121, 110, 116, 97, 120])]))
def laid_lagan_bearing_words {H : Type} : DataW H := .agg [.lit (.string [110]), .lit (.string [110, 101]), .lit (.string [101]), .lit (.string [115, 101]), .lit (.string [115]), .lit (.string [115, 119]), .lit (.string [119]), .lit (.string [110, 119])]
/-- One of Go's own tables, pinned by name: the form's constant. -/
def laid_unicode_utf8_first : DataW Unit := Go.Pinned.utf8First

/-- 'laganlaw01.BearingTrue': WHATEVER THE INPUT: true; the input reads as it did. -/
def bearingTrueSpec : ChangeSpec := { name := "bearingTrue", fn := fun _ => fun
  | [d1, d2, d3, d4] => { results := [.lit (.bool true)], args := [d1, d2, d3, d4] }
  | _ => none }
def bearingTrueRow : OpenClaim := { program := "ytlkmnfdipiielaagreatdoor", sum := "c241800f04b6c666703b3a20476bfb387ee889f7a20bd04cc3197321b8b9ab2f", func := "lagan/laganlaw01.BearingTrue", spec := "bearingTrue", inPlace := ["(*sync.WaitGroup).Add", "internal/race.ReleaseMerge", "internal/race.Disable", "internal/race.Enable", "internal/synctest.IsInBubble", "internal/synctest.Associate[sync.WaitGroup]", "sync.fatal", "sync/atomic.OrUint64", "sync/atomic.AddUint64", "internal/race.Read", "sync/atomic.LoadUint64", "sync/atomic.StoreUint64", "internal/synctest.Disassociate[sync.WaitGroup]", "sync.runtime_Semrelease", "(*sync.WaitGroup).Done", "(*sync.WaitGroup).Wait", "internal/race.Acquire", "internal/synctest.IsAssociated[sync.WaitGroup]", "sync/atomic.CompareAndSwapUint64", "internal/race.Write", "sync.runtime_SemacquireWaitGroup"], unfollowed := true, recurses := true, named := ["lagan/bearing.checks"], plainKeys := false, leaving := true, apart := false, laid := [("lagan/bearing.checks", laid_lagan_bearing_checks)] }
def BearingTrueSaid : Prop := bearingTrueRow.holds Tryz.pinned (OpenSpec.ofChange bearingTrueSpec)

/-- ITS FALSE NEIGHBOUR: 'it returns false'. Refute it at one input. -/
def bearingTrueWrong : ChangeSpec := { name := "bearingTrue", fn := fun _ => fun
  | [d1, d2, d3, d4] => { results := [.lit (.bool false)], args := [d1, d2, d3, d4] }
  | _ => none }
def BearingTrueWrongFalsely : Prop := bearingTrueRow.holds Tryz.pinned (OpenSpec.ofChange bearingTrueWrong)

/-- 'laganlaw01.BearingCases': WHATEVER THE INPUT: true; the input reads as it did. -/
def bearingCasesSpec : ChangeSpec := { name := "bearingCases", fn := fun _ => fun
  | [d1, d2, d3, d4] => { results := [.lit (.bool true)], args := [d1, d2, d3, d4] }
  | _ => none }
def bearingCasesRow : OpenClaim := { program := "ytlkmnfdipiielaagreatdoor", sum := "c241800f04b6c666703b3a20476bfb387ee889f7a20bd04cc3197321b8b9ab2f", func := "lagan/laganlaw01.BearingCases", spec := "bearingCases", inPlace := ["(*sync.WaitGroup).Add", "internal/race.ReleaseMerge", "internal/race.Disable", "internal/race.Enable", "internal/synctest.IsInBubble", "internal/synctest.Associate[sync.WaitGroup]", "sync.fatal", "sync/atomic.OrUint64", "sync/atomic.AddUint64", "internal/race.Read", "sync/atomic.LoadUint64", "sync/atomic.StoreUint64", "internal/synctest.Disassociate[sync.WaitGroup]", "sync.runtime_Semrelease", "(*sync.WaitGroup).Done", "(*sync.WaitGroup).Wait", "internal/race.Acquire", "internal/synctest.IsAssociated[sync.WaitGroup]", "sync/atomic.CompareAndSwapUint64", "internal/race.Write", "sync.runtime_SemacquireWaitGroup"], unfollowed := true, recurses := true, named := ["lagan/bearing.checks"], plainKeys := false, leaving := true, apart := false, laid := [("lagan/bearing.checks", laid_lagan_bearing_checks)] }
def BearingCasesSaid : Prop := bearingCasesRow.holds Tryz.pinned (OpenSpec.ofChange bearingCasesSpec)

/-- ITS FALSE NEIGHBOUR: 'it returns false'. Refute it at one input. -/
def bearingCasesWrong : ChangeSpec := { name := "bearingCases", fn := fun _ => fun
  | [d1, d2, d3, d4] => { results := [.lit (.bool false)], args := [d1, d2, d3, d4] }
  | _ => none }
def BearingCasesWrongFalsely : Prop := bearingCasesRow.holds Tryz.pinned (OpenSpec.ofChange bearingCasesWrong)

/-- 'laganlaw01.BearingNews': WHATEVER THE INPUT: true; the input reads as it did. -/
def bearingNewsSpec : ChangeSpec := { name := "bearingNews", fn := fun _ => fun
  | [d1, d2, d3, d4, d5] => { results := [.lit (.bool true)], args := [d1, d2, d3, d4, d5] }
  | _ => none }
def bearingNewsRow : OpenClaim := { program := "ytlkmnfdipiielaagreatdoor", sum := "c241800f04b6c666703b3a20476bfb387ee889f7a20bd04cc3197321b8b9ab2f", func := "lagan/laganlaw01.BearingNews", spec := "bearingNews", inPlace := ["(*sync.WaitGroup).Add", "internal/race.ReleaseMerge", "internal/race.Disable", "internal/race.Enable", "internal/synctest.IsInBubble", "internal/synctest.Associate[sync.WaitGroup]", "sync.fatal", "sync/atomic.OrUint64", "sync/atomic.AddUint64", "internal/race.Read", "sync/atomic.LoadUint64", "sync/atomic.StoreUint64", "internal/synctest.Disassociate[sync.WaitGroup]", "sync.runtime_Semrelease", "(*sync.WaitGroup).Done", "(*sync.WaitGroup).Wait", "internal/race.Acquire", "internal/synctest.IsAssociated[sync.WaitGroup]", "sync/atomic.CompareAndSwapUint64", "internal/race.Write", "sync.runtime_SemacquireWaitGroup"], unfollowed := true, recurses := true, named := ["lagan/bearing.checks"], plainKeys := false, leaving := true, apart := false, laid := [("lagan/bearing.checks", laid_lagan_bearing_checks)] }
def BearingNewsSaid : Prop := bearingNewsRow.holds Tryz.pinned (OpenSpec.ofChange bearingNewsSpec)

/-- ITS FALSE NEIGHBOUR: 'it returns false'. Refute it at one input. -/
def bearingNewsWrong : ChangeSpec := { name := "bearingNews", fn := fun _ => fun
  | [d1, d2, d3, d4, d5] => { results := [.lit (.bool false)], args := [d1, d2, d3, d4, d5] }
  | _ => none }
def BearingNewsWrongFalsely : Prop := bearingNewsRow.holds Tryz.pinned (OpenSpec.ofChange bearingNewsWrong)

/-- 'laganlaw01.BearingReal': WHATEVER THE INPUT: true; the input reads as it did. -/
def bearingRealSpec : ChangeSpec := { name := "bearingReal", fn := fun _ => fun
  | [d1, d2, d3, d4, d5, d6] => { results := [.lit (.bool true)], args := [d1, d2, d3, d4, d5, d6] }
  | _ => none }
def bearingRealRow : OpenClaim := { program := "ytlkmnfdipiielaagreatdoor", sum := "c241800f04b6c666703b3a20476bfb387ee889f7a20bd04cc3197321b8b9ab2f", func := "lagan/laganlaw01.BearingReal", spec := "bearingReal", inPlace := ["(*sync.WaitGroup).Add", "internal/race.ReleaseMerge", "internal/race.Disable", "internal/race.Enable", "internal/synctest.IsInBubble", "internal/synctest.Associate[sync.WaitGroup]", "sync.fatal", "sync/atomic.OrUint64", "sync/atomic.AddUint64", "internal/race.Read", "sync/atomic.LoadUint64", "sync/atomic.StoreUint64", "internal/synctest.Disassociate[sync.WaitGroup]", "sync.runtime_Semrelease", "(*sync.WaitGroup).Done", "(*sync.WaitGroup).Wait", "internal/race.Acquire", "internal/synctest.IsAssociated[sync.WaitGroup]", "sync/atomic.CompareAndSwapUint64", "internal/race.Write", "sync.runtime_SemacquireWaitGroup"], unfollowed := true, recurses := true, named := ["lagan/bearing.checks"], plainKeys := false, leaving := true, apart := false, laid := [("lagan/bearing.checks", laid_lagan_bearing_checks)] }
def BearingRealSaid : Prop := bearingRealRow.holds Tryz.pinned (OpenSpec.ofChange bearingRealSpec)

/-- ITS FALSE NEIGHBOUR: 'it returns false'. Refute it at one input. -/
def bearingRealWrong : ChangeSpec := { name := "bearingReal", fn := fun _ => fun
  | [d1, d2, d3, d4, d5, d6] => { results := [.lit (.bool false)], args := [d1, d2, d3, d4, d5, d6] }
  | _ => none }
def BearingRealWrongFalsely : Prop := bearingRealRow.holds Tryz.pinned (OpenSpec.ofChange bearingRealWrong)

/-- 'laganlaw01.BearingReached': WHATEVER THE INPUT: true; the input reads as it did. -/
def bearingReachedSpec : ChangeSpec := { name := "bearingReached", fn := fun _ => fun
  | [d1, d2, d3] => { results := [.lit (.bool true)], args := [d1, d2, d3] }
  | _ => none }
def bearingReachedRow : OpenClaim := { program := "ytlkmnfdipiielaagreatdoor", sum := "c241800f04b6c666703b3a20476bfb387ee889f7a20bd04cc3197321b8b9ab2f", func := "lagan/laganlaw01.BearingReached", spec := "bearingReached", inPlace := ["(*sync.WaitGroup).Add", "internal/race.ReleaseMerge", "internal/race.Disable", "internal/race.Enable", "internal/synctest.IsInBubble", "internal/synctest.Associate[sync.WaitGroup]", "sync.fatal", "sync/atomic.OrUint64", "sync/atomic.AddUint64", "internal/race.Read", "sync/atomic.LoadUint64", "sync/atomic.StoreUint64", "internal/synctest.Disassociate[sync.WaitGroup]", "sync.runtime_Semrelease", "(*sync.WaitGroup).Done", "(*sync.WaitGroup).Wait", "internal/race.Acquire", "internal/synctest.IsAssociated[sync.WaitGroup]", "sync/atomic.CompareAndSwapUint64", "internal/race.Write", "sync.runtime_SemacquireWaitGroup"], unfollowed := true, recurses := true, named := ["lagan/bearing.checks"], plainKeys := false, leaving := true, apart := false, laid := [("lagan/bearing.checks", laid_lagan_bearing_checks)] }
def BearingReachedSaid : Prop := bearingReachedRow.holds Tryz.pinned (OpenSpec.ofChange bearingReachedSpec)

/-- ITS FALSE NEIGHBOUR: 'it returns false'. Refute it at one input. -/
def bearingReachedWrong : ChangeSpec := { name := "bearingReached", fn := fun _ => fun
  | [d1, d2, d3] => { results := [.lit (.bool false)], args := [d1, d2, d3] }
  | _ => none }
def BearingReachedWrongFalsely : Prop := bearingReachedRow.holds Tryz.pinned (OpenSpec.ofChange bearingReachedWrong)

/-- 'laganlaw01.BearingTurned': WHATEVER THE INPUT: true; the input reads as it did. -/
def bearingTurnedSpec : ChangeSpec := { name := "bearingTurned", fn := fun _ => fun
  | [d1, d2, d3, d4, d5] => { results := [.lit (.bool true)], args := [d1, d2, d3, d4, d5] }
  | _ => none }
def bearingTurnedRow : OpenClaim := { program := "ytlkmnfdipiielaagreatdoor", sum := "c241800f04b6c666703b3a20476bfb387ee889f7a20bd04cc3197321b8b9ab2f", func := "lagan/laganlaw01.BearingTurned", spec := "bearingTurned", inPlace := ["(*sync.WaitGroup).Add", "internal/race.ReleaseMerge", "internal/race.Disable", "internal/race.Enable", "internal/synctest.IsInBubble", "internal/synctest.Associate[sync.WaitGroup]", "sync.fatal", "sync/atomic.OrUint64", "sync/atomic.AddUint64", "internal/race.Read", "sync/atomic.LoadUint64", "sync/atomic.StoreUint64", "internal/synctest.Disassociate[sync.WaitGroup]", "sync.runtime_Semrelease", "(*sync.WaitGroup).Done", "(*sync.WaitGroup).Wait", "internal/race.Acquire", "internal/synctest.IsAssociated[sync.WaitGroup]", "sync/atomic.CompareAndSwapUint64", "internal/race.Write", "sync.runtime_SemacquireWaitGroup"], unfollowed := true, recurses := true, named := ["lagan/bearing.checks"], plainKeys := false, leaving := true, apart := false, laid := [("lagan/bearing.checks", laid_lagan_bearing_checks)] }
def BearingTurnedSaid : Prop := bearingTurnedRow.holds Tryz.pinned (OpenSpec.ofChange bearingTurnedSpec)

/-- ITS FALSE NEIGHBOUR: 'it returns false'. Refute it at one input. -/
def bearingTurnedWrong : ChangeSpec := { name := "bearingTurned", fn := fun _ => fun
  | [d1, d2, d3, d4, d5] => { results := [.lit (.bool false)], args := [d1, d2, d3, d4, d5] }
  | _ => none }
def BearingTurnedWrongFalsely : Prop := bearingTurnedRow.holds Tryz.pinned (OpenSpec.ofChange bearingTurnedWrong)

/-- 'laganlaw01.BearingAsked': WHATEVER THE INPUT: true; the input reads as it did. -/
def bearingAskedSpec : ChangeSpec := { name := "bearingAsked", fn := fun _ => fun
  | [d1, d2] => { results := [.lit (.bool true)], args := [d1, d2] }
  | _ => none }
def bearingAskedRow : OpenClaim := { program := "ytlkmnfdipiielaagreatdoor", sum := "c241800f04b6c666703b3a20476bfb387ee889f7a20bd04cc3197321b8b9ab2f", func := "lagan/laganlaw01.BearingAsked", spec := "bearingAsked", inPlace := ["(*sync.WaitGroup).Add", "internal/race.ReleaseMerge", "internal/race.Disable", "internal/race.Enable", "internal/synctest.IsInBubble", "internal/synctest.Associate[sync.WaitGroup]", "sync.fatal", "sync/atomic.OrUint64", "sync/atomic.AddUint64", "internal/race.Read", "sync/atomic.LoadUint64", "sync/atomic.StoreUint64", "internal/synctest.Disassociate[sync.WaitGroup]", "sync.runtime_Semrelease", "(*sync.WaitGroup).Done", "(*sync.WaitGroup).Wait", "internal/race.Acquire", "internal/synctest.IsAssociated[sync.WaitGroup]", "sync/atomic.CompareAndSwapUint64", "internal/race.Write", "sync.runtime_SemacquireWaitGroup"], unfollowed := true, recurses := true, named := ["lagan/bearing.checks"], plainKeys := false, leaving := true, apart := false, laid := [("lagan/bearing.checks", laid_lagan_bearing_checks)] }
def BearingAskedSaid : Prop := bearingAskedRow.holds Tryz.pinned (OpenSpec.ofChange bearingAskedSpec)

/-- ITS FALSE NEIGHBOUR: 'it returns false'. Refute it at one input. -/
def bearingAskedWrong : ChangeSpec := { name := "bearingAsked", fn := fun _ => fun
  | [d1, d2] => { results := [.lit (.bool false)], args := [d1, d2] }
  | _ => none }
def BearingAskedWrongFalsely : Prop := bearingAskedRow.holds Tryz.pinned (OpenSpec.ofChange bearingAskedWrong)

/-- 'laganlaw01.BearingLearnt': WHATEVER THE INPUT: true; the input reads as it did. -/
def bearingLearntSpec : ChangeSpec := { name := "bearingLearnt", fn := fun _ => fun
  | [d1, d2, d3, d4, d5, d6, d7] => { results := [.lit (.bool true)], args := [d1, d2, d3, d4, d5, d6, d7] }
  | _ => none }
def bearingLearntRow : OpenClaim := { program := "ytlkmnfdipiielaagreatdoor", sum := "c241800f04b6c666703b3a20476bfb387ee889f7a20bd04cc3197321b8b9ab2f", func := "lagan/laganlaw01.BearingLearnt", spec := "bearingLearnt", inPlace := ["(*sync.WaitGroup).Add", "internal/race.ReleaseMerge", "internal/race.Disable", "internal/race.Enable", "internal/synctest.IsInBubble", "internal/synctest.Associate[sync.WaitGroup]", "sync.fatal", "sync/atomic.OrUint64", "sync/atomic.AddUint64", "internal/race.Read", "sync/atomic.LoadUint64", "sync/atomic.StoreUint64", "internal/synctest.Disassociate[sync.WaitGroup]", "sync.runtime_Semrelease", "(*sync.WaitGroup).Done", "(*sync.WaitGroup).Wait", "internal/race.Acquire", "internal/synctest.IsAssociated[sync.WaitGroup]", "sync/atomic.CompareAndSwapUint64", "internal/race.Write", "sync.runtime_SemacquireWaitGroup"], unfollowed := true, recurses := true, named := ["lagan/bearing.checks"], plainKeys := false, leaving := true, apart := false, laid := [("lagan/bearing.checks", laid_lagan_bearing_checks)] }
def BearingLearntSaid : Prop := bearingLearntRow.holds Tryz.pinned (OpenSpec.ofChange bearingLearntSpec)

/-- ITS FALSE NEIGHBOUR: 'it returns false'. Refute it at one input. -/
def bearingLearntWrong : ChangeSpec := { name := "bearingLearnt", fn := fun _ => fun
  | [d1, d2, d3, d4, d5, d6, d7] => { results := [.lit (.bool false)], args := [d1, d2, d3, d4, d5, d6, d7] }
  | _ => none }
def BearingLearntWrongFalsely : Prop := bearingLearntRow.holds Tryz.pinned (OpenSpec.ofChange bearingLearntWrong)

/-- 'laganlaw01.BearingMoved': WHATEVER THE INPUT: true; the input reads as it did. -/
def bearingMovedSpec : ChangeSpec := { name := "bearingMoved", fn := fun _ => fun
  | [d1, d2, d3] => { results := [.lit (.bool true)], args := [d1, d2, d3] }
  | _ => none }
def bearingMovedRow : OpenClaim := { program := "ytlkmnfdipiielaagreatdoor", sum := "c241800f04b6c666703b3a20476bfb387ee889f7a20bd04cc3197321b8b9ab2f", func := "lagan/laganlaw01.BearingMoved", spec := "bearingMoved", inPlace := ["(*sync.WaitGroup).Add", "internal/race.ReleaseMerge", "internal/race.Disable", "internal/race.Enable", "internal/synctest.IsInBubble", "internal/synctest.Associate[sync.WaitGroup]", "sync.fatal", "sync/atomic.OrUint64", "sync/atomic.AddUint64", "internal/race.Read", "sync/atomic.LoadUint64", "sync/atomic.StoreUint64", "internal/synctest.Disassociate[sync.WaitGroup]", "sync.runtime_Semrelease", "(*sync.WaitGroup).Done", "(*sync.WaitGroup).Wait", "internal/race.Acquire", "internal/synctest.IsAssociated[sync.WaitGroup]", "sync/atomic.CompareAndSwapUint64", "internal/race.Write", "sync.runtime_SemacquireWaitGroup"], unfollowed := true, recurses := true, named := ["lagan/bearing.checks"], plainKeys := false, leaving := true, apart := false, laid := [("lagan/bearing.checks", laid_lagan_bearing_checks)] }
def BearingMovedSaid : Prop := bearingMovedRow.holds Tryz.pinned (OpenSpec.ofChange bearingMovedSpec)

/-- ITS FALSE NEIGHBOUR: 'it returns false'. Refute it at one input. -/
def bearingMovedWrong : ChangeSpec := { name := "bearingMoved", fn := fun _ => fun
  | [d1, d2, d3] => { results := [.lit (.bool false)], args := [d1, d2, d3] }
  | _ => none }
def BearingMovedWrongFalsely : Prop := bearingMovedRow.holds Tryz.pinned (OpenSpec.ofChange bearingMovedWrong)

/-- 'laganlaw01.BearingAnyOrder': WHATEVER THE INPUT: true; the input reads as it did. -/
def bearingAnyOrderSpec : ChangeSpec := { name := "bearingAnyOrder", fn := fun _ => fun
  | [d1, d2, d3] => { results := [.lit (.bool true)], args := [d1, d2, d3] }
  | _ => none }
def bearingAnyOrderRow : OpenClaim := { program := "ytlkmnfdipiielaagreatdoor", sum := "c241800f04b6c666703b3a20476bfb387ee889f7a20bd04cc3197321b8b9ab2f", func := "lagan/laganlaw01.BearingAnyOrder", spec := "bearingAnyOrder", inPlace := ["(*sync.WaitGroup).Add", "internal/race.ReleaseMerge", "internal/race.Disable", "internal/race.Enable", "internal/synctest.IsInBubble", "internal/synctest.Associate[sync.WaitGroup]", "sync.fatal", "sync/atomic.OrUint64", "sync/atomic.AddUint64", "internal/race.Read", "sync/atomic.LoadUint64", "sync/atomic.StoreUint64", "internal/synctest.Disassociate[sync.WaitGroup]", "sync.runtime_Semrelease", "(*sync.WaitGroup).Done", "(*sync.WaitGroup).Wait", "internal/race.Acquire", "internal/synctest.IsAssociated[sync.WaitGroup]", "sync/atomic.CompareAndSwapUint64", "internal/race.Write", "sync.runtime_SemacquireWaitGroup"], unfollowed := true, recurses := true, named := ["lagan/bearing.checks"], plainKeys := false, leaving := true, apart := false, laid := [("lagan/bearing.checks", laid_lagan_bearing_checks)] }
def BearingAnyOrderSaid : Prop := bearingAnyOrderRow.holds Tryz.pinned (OpenSpec.ofChange bearingAnyOrderSpec)

/-- ITS FALSE NEIGHBOUR: 'it returns false'. Refute it at one input. -/
def bearingAnyOrderWrong : ChangeSpec := { name := "bearingAnyOrder", fn := fun _ => fun
  | [d1, d2, d3] => { results := [.lit (.bool false)], args := [d1, d2, d3] }
  | _ => none }
def BearingAnyOrderWrongFalsely : Prop := bearingAnyOrderRow.holds Tryz.pinned (OpenSpec.ofChange bearingAnyOrderWrong)

/-- 'laganlaw01.BearingWitnesses': WHATEVER THE INPUT: true; the input reads as it did. -/
def bearingWitnessesSpec : ChangeSpec := { name := "bearingWitnesses", fn := fun _ => fun
  | [d] => { results := [.lit (.bool true)], args := [d] }
  | _ => none }
def bearingWitnessesRow : OpenClaim := { program := "ytlkmnfdipiielaagreatdoor", sum := "c241800f04b6c666703b3a20476bfb387ee889f7a20bd04cc3197321b8b9ab2f", func := "lagan/laganlaw01.BearingWitnesses", spec := "bearingWitnesses", inPlace := ["(*sync.WaitGroup).Add", "internal/race.ReleaseMerge", "internal/race.Disable", "internal/race.Enable", "internal/synctest.IsInBubble", "internal/synctest.Associate[sync.WaitGroup]", "sync.fatal", "sync/atomic.OrUint64", "sync/atomic.AddUint64", "internal/race.Read", "sync/atomic.LoadUint64", "sync/atomic.StoreUint64", "internal/synctest.Disassociate[sync.WaitGroup]", "sync.runtime_Semrelease", "(*sync.WaitGroup).Done", "(*sync.WaitGroup).Wait", "internal/race.Acquire", "internal/synctest.IsAssociated[sync.WaitGroup]", "sync/atomic.CompareAndSwapUint64", "internal/race.Write", "sync.runtime_SemacquireWaitGroup"], unfollowed := true, recurses := true, named := ["lagan/bearing.checks"], plainKeys := false, leaving := true, apart := false, laid := [("lagan/bearing.checks", laid_lagan_bearing_checks)] }
def BearingWitnessesSaid : Prop := bearingWitnessesRow.holds Tryz.pinned (OpenSpec.ofChange bearingWitnessesSpec)

/-- ITS FALSE NEIGHBOUR: 'it returns false'. Refute it at one input. -/
def bearingWitnessesWrong : ChangeSpec := { name := "bearingWitnesses", fn := fun _ => fun
  | [d] => { results := [.lit (.bool false)], args := [d] }
  | _ => none }
def BearingWitnessesWrongFalsely : Prop := bearingWitnessesRow.holds Tryz.pinned (OpenSpec.ofChange bearingWitnessesWrong)

/-- 'laganlaw01.BearingFewest': WHATEVER THE INPUT: true; the input reads as it did. -/
def bearingFewestSpec : ChangeSpec := { name := "bearingFewest", fn := fun _ => fun
  | [d1, d2] => { results := [.lit (.bool true)], args := [d1, d2] }
  | _ => none }
def bearingFewestRow : OpenClaim := { program := "ytlkmnfdipiielaagreatdoor", sum := "c241800f04b6c666703b3a20476bfb387ee889f7a20bd04cc3197321b8b9ab2f", func := "lagan/laganlaw01.BearingFewest", spec := "bearingFewest", inPlace := ["(*sync.WaitGroup).Add", "internal/race.ReleaseMerge", "internal/race.Disable", "internal/race.Enable", "internal/synctest.IsInBubble", "internal/synctest.Associate[sync.WaitGroup]", "sync.fatal", "sync/atomic.OrUint64", "sync/atomic.AddUint64", "internal/race.Read", "sync/atomic.LoadUint64", "sync/atomic.StoreUint64", "internal/synctest.Disassociate[sync.WaitGroup]", "sync.runtime_Semrelease", "(*sync.WaitGroup).Done", "(*sync.WaitGroup).Wait", "internal/race.Acquire", "internal/synctest.IsAssociated[sync.WaitGroup]", "sync/atomic.CompareAndSwapUint64", "internal/race.Write", "sync.runtime_SemacquireWaitGroup"], unfollowed := true, recurses := true, named := ["lagan/bearing.checks"], plainKeys := false, leaving := true, apart := false, laid := [("lagan/bearing.checks", laid_lagan_bearing_checks)] }
def BearingFewestSaid : Prop := bearingFewestRow.holds Tryz.pinned (OpenSpec.ofChange bearingFewestSpec)

/-- ITS FALSE NEIGHBOUR: 'it returns false'. Refute it at one input. -/
def bearingFewestWrong : ChangeSpec := { name := "bearingFewest", fn := fun _ => fun
  | [d1, d2] => { results := [.lit (.bool false)], args := [d1, d2] }
  | _ => none }
def BearingFewestWrongFalsely : Prop := bearingFewestRow.holds Tryz.pinned (OpenSpec.ofChange bearingFewestWrong)

/-- 'laganlaw01.BearingClashes': WHATEVER THE INPUT: true; the input reads as it did. -/
def bearingClashesSpec : ChangeSpec := { name := "bearingClashes", fn := fun _ => fun
  | [d1, d2] => { results := [.lit (.bool true)], args := [d1, d2] }
  | _ => none }
def bearingClashesRow : OpenClaim := { program := "ytlkmnfdipiielaagreatdoor", sum := "c241800f04b6c666703b3a20476bfb387ee889f7a20bd04cc3197321b8b9ab2f", func := "lagan/laganlaw01.BearingClashes", spec := "bearingClashes", inPlace := ["(*sync.WaitGroup).Add", "internal/race.ReleaseMerge", "internal/race.Disable", "internal/race.Enable", "internal/synctest.IsInBubble", "internal/synctest.Associate[sync.WaitGroup]", "sync.fatal", "sync/atomic.OrUint64", "sync/atomic.AddUint64", "internal/race.Read", "sync/atomic.LoadUint64", "sync/atomic.StoreUint64", "internal/synctest.Disassociate[sync.WaitGroup]", "sync.runtime_Semrelease", "(*sync.WaitGroup).Done", "(*sync.WaitGroup).Wait", "internal/race.Acquire", "internal/synctest.IsAssociated[sync.WaitGroup]", "sync/atomic.CompareAndSwapUint64", "internal/race.Write", "sync.runtime_SemacquireWaitGroup"], unfollowed := true, recurses := true, named := ["lagan/bearing.checks"], plainKeys := false, leaving := true, apart := false, laid := [("lagan/bearing.checks", laid_lagan_bearing_checks)] }
def BearingClashesSaid : Prop := bearingClashesRow.holds Tryz.pinned (OpenSpec.ofChange bearingClashesSpec)

/-- ITS FALSE NEIGHBOUR: 'it returns false'. Refute it at one input. -/
def bearingClashesWrong : ChangeSpec := { name := "bearingClashes", fn := fun _ => fun
  | [d1, d2] => { results := [.lit (.bool false)], args := [d1, d2] }
  | _ => none }
def BearingClashesWrongFalsely : Prop := bearingClashesRow.holds Tryz.pinned (OpenSpec.ofChange bearingClashesWrong)

/-- 'laganlaw01.BearingTexts': WHATEVER THE INPUT: true; the input reads as it did. -/
def bearingTextsSpec : ChangeSpec := { name := "bearingTexts", fn := fun _ => fun
  | [d1, d2] => { results := [.lit (.bool true)], args := [d1, d2] }
  | _ => none }
def bearingTextsRow : OpenClaim := { program := "ytlkmnfdipiielaagreatdoor", sum := "c241800f04b6c666703b3a20476bfb387ee889f7a20bd04cc3197321b8b9ab2f", func := "lagan/laganlaw01.BearingTexts", spec := "bearingTexts", inPlace := ["(*sync.WaitGroup).Add", "internal/race.ReleaseMerge", "internal/race.Disable", "internal/race.Enable", "internal/synctest.IsInBubble", "internal/synctest.Associate[sync.WaitGroup]", "sync.fatal", "sync/atomic.OrUint64", "sync/atomic.AddUint64", "internal/race.Read", "sync/atomic.LoadUint64", "sync/atomic.StoreUint64", "internal/synctest.Disassociate[sync.WaitGroup]", "sync.runtime_Semrelease", "(*sync.WaitGroup).Done", "(*sync.WaitGroup).Wait", "internal/race.Acquire", "internal/synctest.IsAssociated[sync.WaitGroup]", "sync/atomic.CompareAndSwapUint64", "internal/race.Write", "sync.runtime_SemacquireWaitGroup", "internal/abi.NoEscape", "internal/bytealg.MakeNoZero", "internal/bytealg.IndexByteString", "internal/bytealg.CountString", "internal/bytealg.IndexString", "internal/reflectlite.ValueOf", "(internal/reflectlite.Value).Type", "(internal/reflectlite.Value).IsNil", "internal/reflectlite.TypeOf", "(internal/reflectlite.Value).Elem", "(internal/reflectlite.Value).Set"], unfollowed := true, recurses := true, named := ["lagan/bearing.checks", "lagan/bearing.words", "internal/strconv.uint64pow10", "math/bits.deBruijn32tab", "math/bits.deBruijn64tab", "unicode/utf8.first", "unicode/utf8.acceptRanges", "internal/bytealg.MaxLen", "strconv.ErrSyntax", "strconv.ErrRange", "errors.errorType"], plainKeys := false, leaving := true, apart := false, laid := [("math/bits.deBruijn32tab", laid_math_bits_deBruijn32tab), ("math/bits.deBruijn64tab", laid_math_bits_deBruijn64tab), ("internal/strconv.uint64pow10", laid_internal_strconv_uint64pow10), ("unicode/utf8.acceptRanges", laid_unicode_utf8_acceptRanges), ("errors.errorType", laid_errors_errorType), ("strconv.ErrRange", laid_strconv_ErrRange), ("strconv.ErrSyntax", laid_strconv_ErrSyntax), ("lagan/bearing.checks", laid_lagan_bearing_checks), ("lagan/bearing.words", laid_lagan_bearing_words), ("unicode/utf8.first", laid_unicode_utf8_first)] }
def BearingTextsSaid : Prop := bearingTextsRow.holds Tryz.pinned (OpenSpec.ofChange bearingTextsSpec)

/-- ITS FALSE NEIGHBOUR: 'it returns false'. Refute it at one input. -/
def bearingTextsWrong : ChangeSpec := { name := "bearingTexts", fn := fun _ => fun
  | [d1, d2] => { results := [.lit (.bool false)], args := [d1, d2] }
  | _ => none }
def BearingTextsWrongFalsely : Prop := bearingTextsRow.holds Tryz.pinned (OpenSpec.ofChange bearingTextsWrong)

/-- 'laganlaw01.BearingBack': WHATEVER THE INPUT: true; the input reads as it did. -/
def bearingBackSpec : ChangeSpec := { name := "bearingBack", fn := fun _ => fun
  | [d] => { results := [.lit (.bool true)], args := [d] }
  | _ => none }
def bearingBackRow : OpenClaim := { program := "ytlkmnfdipiielaagreatdoor", sum := "c241800f04b6c666703b3a20476bfb387ee889f7a20bd04cc3197321b8b9ab2f", func := "lagan/laganlaw01.BearingBack", spec := "bearingBack", inPlace := ["(*sync.WaitGroup).Add", "internal/race.ReleaseMerge", "internal/race.Disable", "internal/race.Enable", "internal/synctest.IsInBubble", "internal/synctest.Associate[sync.WaitGroup]", "sync.fatal", "sync/atomic.OrUint64", "sync/atomic.AddUint64", "internal/race.Read", "sync/atomic.LoadUint64", "sync/atomic.StoreUint64", "internal/synctest.Disassociate[sync.WaitGroup]", "sync.runtime_Semrelease", "(*sync.WaitGroup).Done", "(*sync.WaitGroup).Wait", "internal/race.Acquire", "internal/synctest.IsAssociated[sync.WaitGroup]", "sync/atomic.CompareAndSwapUint64", "internal/race.Write", "sync.runtime_SemacquireWaitGroup", "internal/abi.NoEscape", "internal/bytealg.MakeNoZero", "internal/bytealg.IndexByteString", "internal/bytealg.CountString", "internal/bytealg.IndexString", "internal/reflectlite.ValueOf", "(internal/reflectlite.Value).Type", "(internal/reflectlite.Value).IsNil", "internal/reflectlite.TypeOf", "(internal/reflectlite.Value).Elem", "(internal/reflectlite.Value).Set"], unfollowed := true, recurses := true, named := ["lagan/bearing.checks", "lagan/bearing.words", "internal/strconv.uint64pow10", "math/bits.deBruijn32tab", "math/bits.deBruijn64tab", "unicode/utf8.first", "unicode/utf8.acceptRanges", "internal/bytealg.MaxLen", "strconv.ErrSyntax", "strconv.ErrRange", "errors.errorType"], plainKeys := false, leaving := true, apart := false, laid := [("math/bits.deBruijn32tab", laid_math_bits_deBruijn32tab), ("math/bits.deBruijn64tab", laid_math_bits_deBruijn64tab), ("internal/strconv.uint64pow10", laid_internal_strconv_uint64pow10), ("unicode/utf8.acceptRanges", laid_unicode_utf8_acceptRanges), ("errors.errorType", laid_errors_errorType), ("strconv.ErrRange", laid_strconv_ErrRange), ("strconv.ErrSyntax", laid_strconv_ErrSyntax), ("lagan/bearing.checks", laid_lagan_bearing_checks), ("lagan/bearing.words", laid_lagan_bearing_words), ("unicode/utf8.first", laid_unicode_utf8_first)] }
def BearingBackSaid : Prop := bearingBackRow.holds Tryz.pinned (OpenSpec.ofChange bearingBackSpec)

/-- ITS FALSE NEIGHBOUR: 'it returns false'. Refute it at one input. -/
def bearingBackWrong : ChangeSpec := { name := "bearingBack", fn := fun _ => fun
  | [d] => { results := [.lit (.bool false)], args := [d] }
  | _ => none }
def BearingBackWrongFalsely : Prop := bearingBackRow.holds Tryz.pinned (OpenSpec.ofChange bearingBackWrong)

/- THE SECOND FORM. 'bulk': how many values and letters a reading holds, each counted each time it is reached (what is shared counts as often as it is met; a slice's spare places count too). A statement '..UptoSaid' is the law's where the arguments, and the package variables that the reading takes, are together of bulk at most 1048576: NARROWER than '..Said'. Prove '..Said' where nothing that the law and all that it calls make is longer than what came in: it says more and counts as full. Else prove '..UptoSaid'. A law counts once. -/
mutual
def uptoBulk {H : Type} : DataW H → Nat
  | .lit (.string bytes) => bytes.length + 1
  | .lit _ => 1
  | .nil => 1
  | .ptr d => uptoBulk d + 1
  | .slice elems spare => uptoBulkAll elems + uptoBulkAll spare + 1
  | .agg parts => uptoBulkAll parts + 1
  | .iface _ d => uptoBulk d + 1
  | .map entries => uptoBulkEntries entries + 1
  | .held _ => 1
def uptoBulkAll {H : Type} : List (DataW H) → Nat
  | [] => 0
  | d :: r => uptoBulk d + uptoBulkAll r
def uptoBulkEntries {H : Type} : List (Lit × DataW H) → Nat
  | [] => 0
  | x :: r => uptoBulkEntry x + uptoBulkEntries r
def uptoBulkEntry {H : Type} : Lit × DataW H → Nat
  | (.string bytes, d) => bytes.length + uptoBulk d + 1
  | (_, d) => uptoBulk d + 1
 end
def uptoSmall : (H : Type) → List (DataW H) → Bool := fun _ ds => decide (uptoBulkAll ds ≤ 1048576)
def OpenSpec.upto (s : _root_.Go.ChangeSpec) : _root_.Go.OpenSpec := { _root_.Go.OpenSpec.ofChange s with cond := some uptoSmall }

/-- 'laganlaw01.BearingTrue', WHERE WHAT IT READS IS OF BULK AT MOST 1048576: true; the input reads as it did. -/
def bearingTrueUptoRow : OpenClaim := { program := "ytlkmnfdipiielaagreatdoor", sum := "c241800f04b6c666703b3a20476bfb387ee889f7a20bd04cc3197321b8b9ab2f", func := "lagan/laganlaw01.BearingTrue", spec := "bearingTrue", inPlace := ["(*sync.WaitGroup).Add", "internal/race.ReleaseMerge", "internal/race.Disable", "internal/race.Enable", "internal/synctest.IsInBubble", "internal/synctest.Associate[sync.WaitGroup]", "sync.fatal", "sync/atomic.OrUint64", "sync/atomic.AddUint64", "internal/race.Read", "sync/atomic.LoadUint64", "sync/atomic.StoreUint64", "internal/synctest.Disassociate[sync.WaitGroup]", "sync.runtime_Semrelease", "(*sync.WaitGroup).Done", "(*sync.WaitGroup).Wait", "internal/race.Acquire", "internal/synctest.IsAssociated[sync.WaitGroup]", "sync/atomic.CompareAndSwapUint64", "internal/race.Write", "sync.runtime_SemacquireWaitGroup"], unfollowed := true, recurses := true, named := ["lagan/bearing.checks"], plainKeys := false, leaving := true, apart := false, laid := [("lagan/bearing.checks", laid_lagan_bearing_checks)], narrowed := true }
def BearingTrueUptoSaid : Prop := bearingTrueUptoRow.holds Tryz.pinned (OpenSpec.upto bearingTrueSpec)

/-- 'laganlaw01.BearingCases', WHERE WHAT IT READS IS OF BULK AT MOST 1048576: true; the input reads as it did. -/
def bearingCasesUptoRow : OpenClaim := { program := "ytlkmnfdipiielaagreatdoor", sum := "c241800f04b6c666703b3a20476bfb387ee889f7a20bd04cc3197321b8b9ab2f", func := "lagan/laganlaw01.BearingCases", spec := "bearingCases", inPlace := ["(*sync.WaitGroup).Add", "internal/race.ReleaseMerge", "internal/race.Disable", "internal/race.Enable", "internal/synctest.IsInBubble", "internal/synctest.Associate[sync.WaitGroup]", "sync.fatal", "sync/atomic.OrUint64", "sync/atomic.AddUint64", "internal/race.Read", "sync/atomic.LoadUint64", "sync/atomic.StoreUint64", "internal/synctest.Disassociate[sync.WaitGroup]", "sync.runtime_Semrelease", "(*sync.WaitGroup).Done", "(*sync.WaitGroup).Wait", "internal/race.Acquire", "internal/synctest.IsAssociated[sync.WaitGroup]", "sync/atomic.CompareAndSwapUint64", "internal/race.Write", "sync.runtime_SemacquireWaitGroup"], unfollowed := true, recurses := true, named := ["lagan/bearing.checks"], plainKeys := false, leaving := true, apart := false, laid := [("lagan/bearing.checks", laid_lagan_bearing_checks)], narrowed := true }
def BearingCasesUptoSaid : Prop := bearingCasesUptoRow.holds Tryz.pinned (OpenSpec.upto bearingCasesSpec)

/-- 'laganlaw01.BearingNews', WHERE WHAT IT READS IS OF BULK AT MOST 1048576: true; the input reads as it did. -/
def bearingNewsUptoRow : OpenClaim := { program := "ytlkmnfdipiielaagreatdoor", sum := "c241800f04b6c666703b3a20476bfb387ee889f7a20bd04cc3197321b8b9ab2f", func := "lagan/laganlaw01.BearingNews", spec := "bearingNews", inPlace := ["(*sync.WaitGroup).Add", "internal/race.ReleaseMerge", "internal/race.Disable", "internal/race.Enable", "internal/synctest.IsInBubble", "internal/synctest.Associate[sync.WaitGroup]", "sync.fatal", "sync/atomic.OrUint64", "sync/atomic.AddUint64", "internal/race.Read", "sync/atomic.LoadUint64", "sync/atomic.StoreUint64", "internal/synctest.Disassociate[sync.WaitGroup]", "sync.runtime_Semrelease", "(*sync.WaitGroup).Done", "(*sync.WaitGroup).Wait", "internal/race.Acquire", "internal/synctest.IsAssociated[sync.WaitGroup]", "sync/atomic.CompareAndSwapUint64", "internal/race.Write", "sync.runtime_SemacquireWaitGroup"], unfollowed := true, recurses := true, named := ["lagan/bearing.checks"], plainKeys := false, leaving := true, apart := false, laid := [("lagan/bearing.checks", laid_lagan_bearing_checks)], narrowed := true }
def BearingNewsUptoSaid : Prop := bearingNewsUptoRow.holds Tryz.pinned (OpenSpec.upto bearingNewsSpec)

/-- 'laganlaw01.BearingReal', WHERE WHAT IT READS IS OF BULK AT MOST 1048576: true; the input reads as it did. -/
def bearingRealUptoRow : OpenClaim := { program := "ytlkmnfdipiielaagreatdoor", sum := "c241800f04b6c666703b3a20476bfb387ee889f7a20bd04cc3197321b8b9ab2f", func := "lagan/laganlaw01.BearingReal", spec := "bearingReal", inPlace := ["(*sync.WaitGroup).Add", "internal/race.ReleaseMerge", "internal/race.Disable", "internal/race.Enable", "internal/synctest.IsInBubble", "internal/synctest.Associate[sync.WaitGroup]", "sync.fatal", "sync/atomic.OrUint64", "sync/atomic.AddUint64", "internal/race.Read", "sync/atomic.LoadUint64", "sync/atomic.StoreUint64", "internal/synctest.Disassociate[sync.WaitGroup]", "sync.runtime_Semrelease", "(*sync.WaitGroup).Done", "(*sync.WaitGroup).Wait", "internal/race.Acquire", "internal/synctest.IsAssociated[sync.WaitGroup]", "sync/atomic.CompareAndSwapUint64", "internal/race.Write", "sync.runtime_SemacquireWaitGroup"], unfollowed := true, recurses := true, named := ["lagan/bearing.checks"], plainKeys := false, leaving := true, apart := false, laid := [("lagan/bearing.checks", laid_lagan_bearing_checks)], narrowed := true }
def BearingRealUptoSaid : Prop := bearingRealUptoRow.holds Tryz.pinned (OpenSpec.upto bearingRealSpec)

/-- 'laganlaw01.BearingReached', WHERE WHAT IT READS IS OF BULK AT MOST 1048576: true; the input reads as it did. -/
def bearingReachedUptoRow : OpenClaim := { program := "ytlkmnfdipiielaagreatdoor", sum := "c241800f04b6c666703b3a20476bfb387ee889f7a20bd04cc3197321b8b9ab2f", func := "lagan/laganlaw01.BearingReached", spec := "bearingReached", inPlace := ["(*sync.WaitGroup).Add", "internal/race.ReleaseMerge", "internal/race.Disable", "internal/race.Enable", "internal/synctest.IsInBubble", "internal/synctest.Associate[sync.WaitGroup]", "sync.fatal", "sync/atomic.OrUint64", "sync/atomic.AddUint64", "internal/race.Read", "sync/atomic.LoadUint64", "sync/atomic.StoreUint64", "internal/synctest.Disassociate[sync.WaitGroup]", "sync.runtime_Semrelease", "(*sync.WaitGroup).Done", "(*sync.WaitGroup).Wait", "internal/race.Acquire", "internal/synctest.IsAssociated[sync.WaitGroup]", "sync/atomic.CompareAndSwapUint64", "internal/race.Write", "sync.runtime_SemacquireWaitGroup"], unfollowed := true, recurses := true, named := ["lagan/bearing.checks"], plainKeys := false, leaving := true, apart := false, laid := [("lagan/bearing.checks", laid_lagan_bearing_checks)], narrowed := true }
def BearingReachedUptoSaid : Prop := bearingReachedUptoRow.holds Tryz.pinned (OpenSpec.upto bearingReachedSpec)

/-- 'laganlaw01.BearingTurned', WHERE WHAT IT READS IS OF BULK AT MOST 1048576: true; the input reads as it did. -/
def bearingTurnedUptoRow : OpenClaim := { program := "ytlkmnfdipiielaagreatdoor", sum := "c241800f04b6c666703b3a20476bfb387ee889f7a20bd04cc3197321b8b9ab2f", func := "lagan/laganlaw01.BearingTurned", spec := "bearingTurned", inPlace := ["(*sync.WaitGroup).Add", "internal/race.ReleaseMerge", "internal/race.Disable", "internal/race.Enable", "internal/synctest.IsInBubble", "internal/synctest.Associate[sync.WaitGroup]", "sync.fatal", "sync/atomic.OrUint64", "sync/atomic.AddUint64", "internal/race.Read", "sync/atomic.LoadUint64", "sync/atomic.StoreUint64", "internal/synctest.Disassociate[sync.WaitGroup]", "sync.runtime_Semrelease", "(*sync.WaitGroup).Done", "(*sync.WaitGroup).Wait", "internal/race.Acquire", "internal/synctest.IsAssociated[sync.WaitGroup]", "sync/atomic.CompareAndSwapUint64", "internal/race.Write", "sync.runtime_SemacquireWaitGroup"], unfollowed := true, recurses := true, named := ["lagan/bearing.checks"], plainKeys := false, leaving := true, apart := false, laid := [("lagan/bearing.checks", laid_lagan_bearing_checks)], narrowed := true }
def BearingTurnedUptoSaid : Prop := bearingTurnedUptoRow.holds Tryz.pinned (OpenSpec.upto bearingTurnedSpec)

/-- 'laganlaw01.BearingAsked', WHERE WHAT IT READS IS OF BULK AT MOST 1048576: true; the input reads as it did. -/
def bearingAskedUptoRow : OpenClaim := { program := "ytlkmnfdipiielaagreatdoor", sum := "c241800f04b6c666703b3a20476bfb387ee889f7a20bd04cc3197321b8b9ab2f", func := "lagan/laganlaw01.BearingAsked", spec := "bearingAsked", inPlace := ["(*sync.WaitGroup).Add", "internal/race.ReleaseMerge", "internal/race.Disable", "internal/race.Enable", "internal/synctest.IsInBubble", "internal/synctest.Associate[sync.WaitGroup]", "sync.fatal", "sync/atomic.OrUint64", "sync/atomic.AddUint64", "internal/race.Read", "sync/atomic.LoadUint64", "sync/atomic.StoreUint64", "internal/synctest.Disassociate[sync.WaitGroup]", "sync.runtime_Semrelease", "(*sync.WaitGroup).Done", "(*sync.WaitGroup).Wait", "internal/race.Acquire", "internal/synctest.IsAssociated[sync.WaitGroup]", "sync/atomic.CompareAndSwapUint64", "internal/race.Write", "sync.runtime_SemacquireWaitGroup"], unfollowed := true, recurses := true, named := ["lagan/bearing.checks"], plainKeys := false, leaving := true, apart := false, laid := [("lagan/bearing.checks", laid_lagan_bearing_checks)], narrowed := true }
def BearingAskedUptoSaid : Prop := bearingAskedUptoRow.holds Tryz.pinned (OpenSpec.upto bearingAskedSpec)

/-- 'laganlaw01.BearingLearnt', WHERE WHAT IT READS IS OF BULK AT MOST 1048576: true; the input reads as it did. -/
def bearingLearntUptoRow : OpenClaim := { program := "ytlkmnfdipiielaagreatdoor", sum := "c241800f04b6c666703b3a20476bfb387ee889f7a20bd04cc3197321b8b9ab2f", func := "lagan/laganlaw01.BearingLearnt", spec := "bearingLearnt", inPlace := ["(*sync.WaitGroup).Add", "internal/race.ReleaseMerge", "internal/race.Disable", "internal/race.Enable", "internal/synctest.IsInBubble", "internal/synctest.Associate[sync.WaitGroup]", "sync.fatal", "sync/atomic.OrUint64", "sync/atomic.AddUint64", "internal/race.Read", "sync/atomic.LoadUint64", "sync/atomic.StoreUint64", "internal/synctest.Disassociate[sync.WaitGroup]", "sync.runtime_Semrelease", "(*sync.WaitGroup).Done", "(*sync.WaitGroup).Wait", "internal/race.Acquire", "internal/synctest.IsAssociated[sync.WaitGroup]", "sync/atomic.CompareAndSwapUint64", "internal/race.Write", "sync.runtime_SemacquireWaitGroup"], unfollowed := true, recurses := true, named := ["lagan/bearing.checks"], plainKeys := false, leaving := true, apart := false, laid := [("lagan/bearing.checks", laid_lagan_bearing_checks)], narrowed := true }
def BearingLearntUptoSaid : Prop := bearingLearntUptoRow.holds Tryz.pinned (OpenSpec.upto bearingLearntSpec)

/-- 'laganlaw01.BearingMoved', WHERE WHAT IT READS IS OF BULK AT MOST 1048576: true; the input reads as it did. -/
def bearingMovedUptoRow : OpenClaim := { program := "ytlkmnfdipiielaagreatdoor", sum := "c241800f04b6c666703b3a20476bfb387ee889f7a20bd04cc3197321b8b9ab2f", func := "lagan/laganlaw01.BearingMoved", spec := "bearingMoved", inPlace := ["(*sync.WaitGroup).Add", "internal/race.ReleaseMerge", "internal/race.Disable", "internal/race.Enable", "internal/synctest.IsInBubble", "internal/synctest.Associate[sync.WaitGroup]", "sync.fatal", "sync/atomic.OrUint64", "sync/atomic.AddUint64", "internal/race.Read", "sync/atomic.LoadUint64", "sync/atomic.StoreUint64", "internal/synctest.Disassociate[sync.WaitGroup]", "sync.runtime_Semrelease", "(*sync.WaitGroup).Done", "(*sync.WaitGroup).Wait", "internal/race.Acquire", "internal/synctest.IsAssociated[sync.WaitGroup]", "sync/atomic.CompareAndSwapUint64", "internal/race.Write", "sync.runtime_SemacquireWaitGroup"], unfollowed := true, recurses := true, named := ["lagan/bearing.checks"], plainKeys := false, leaving := true, apart := false, laid := [("lagan/bearing.checks", laid_lagan_bearing_checks)], narrowed := true }
def BearingMovedUptoSaid : Prop := bearingMovedUptoRow.holds Tryz.pinned (OpenSpec.upto bearingMovedSpec)

/-- 'laganlaw01.BearingAnyOrder', WHERE WHAT IT READS IS OF BULK AT MOST 1048576: true; the input reads as it did. -/
def bearingAnyOrderUptoRow : OpenClaim := { program := "ytlkmnfdipiielaagreatdoor", sum := "c241800f04b6c666703b3a20476bfb387ee889f7a20bd04cc3197321b8b9ab2f", func := "lagan/laganlaw01.BearingAnyOrder", spec := "bearingAnyOrder", inPlace := ["(*sync.WaitGroup).Add", "internal/race.ReleaseMerge", "internal/race.Disable", "internal/race.Enable", "internal/synctest.IsInBubble", "internal/synctest.Associate[sync.WaitGroup]", "sync.fatal", "sync/atomic.OrUint64", "sync/atomic.AddUint64", "internal/race.Read", "sync/atomic.LoadUint64", "sync/atomic.StoreUint64", "internal/synctest.Disassociate[sync.WaitGroup]", "sync.runtime_Semrelease", "(*sync.WaitGroup).Done", "(*sync.WaitGroup).Wait", "internal/race.Acquire", "internal/synctest.IsAssociated[sync.WaitGroup]", "sync/atomic.CompareAndSwapUint64", "internal/race.Write", "sync.runtime_SemacquireWaitGroup"], unfollowed := true, recurses := true, named := ["lagan/bearing.checks"], plainKeys := false, leaving := true, apart := false, laid := [("lagan/bearing.checks", laid_lagan_bearing_checks)], narrowed := true }
def BearingAnyOrderUptoSaid : Prop := bearingAnyOrderUptoRow.holds Tryz.pinned (OpenSpec.upto bearingAnyOrderSpec)

/-- 'laganlaw01.BearingWitnesses', WHERE WHAT IT READS IS OF BULK AT MOST 1048576: true; the input reads as it did. -/
def bearingWitnessesUptoRow : OpenClaim := { program := "ytlkmnfdipiielaagreatdoor", sum := "c241800f04b6c666703b3a20476bfb387ee889f7a20bd04cc3197321b8b9ab2f", func := "lagan/laganlaw01.BearingWitnesses", spec := "bearingWitnesses", inPlace := ["(*sync.WaitGroup).Add", "internal/race.ReleaseMerge", "internal/race.Disable", "internal/race.Enable", "internal/synctest.IsInBubble", "internal/synctest.Associate[sync.WaitGroup]", "sync.fatal", "sync/atomic.OrUint64", "sync/atomic.AddUint64", "internal/race.Read", "sync/atomic.LoadUint64", "sync/atomic.StoreUint64", "internal/synctest.Disassociate[sync.WaitGroup]", "sync.runtime_Semrelease", "(*sync.WaitGroup).Done", "(*sync.WaitGroup).Wait", "internal/race.Acquire", "internal/synctest.IsAssociated[sync.WaitGroup]", "sync/atomic.CompareAndSwapUint64", "internal/race.Write", "sync.runtime_SemacquireWaitGroup"], unfollowed := true, recurses := true, named := ["lagan/bearing.checks"], plainKeys := false, leaving := true, apart := false, laid := [("lagan/bearing.checks", laid_lagan_bearing_checks)], narrowed := true }
def BearingWitnessesUptoSaid : Prop := bearingWitnessesUptoRow.holds Tryz.pinned (OpenSpec.upto bearingWitnessesSpec)

/-- 'laganlaw01.BearingFewest', WHERE WHAT IT READS IS OF BULK AT MOST 1048576: true; the input reads as it did. -/
def bearingFewestUptoRow : OpenClaim := { program := "ytlkmnfdipiielaagreatdoor", sum := "c241800f04b6c666703b3a20476bfb387ee889f7a20bd04cc3197321b8b9ab2f", func := "lagan/laganlaw01.BearingFewest", spec := "bearingFewest", inPlace := ["(*sync.WaitGroup).Add", "internal/race.ReleaseMerge", "internal/race.Disable", "internal/race.Enable", "internal/synctest.IsInBubble", "internal/synctest.Associate[sync.WaitGroup]", "sync.fatal", "sync/atomic.OrUint64", "sync/atomic.AddUint64", "internal/race.Read", "sync/atomic.LoadUint64", "sync/atomic.StoreUint64", "internal/synctest.Disassociate[sync.WaitGroup]", "sync.runtime_Semrelease", "(*sync.WaitGroup).Done", "(*sync.WaitGroup).Wait", "internal/race.Acquire", "internal/synctest.IsAssociated[sync.WaitGroup]", "sync/atomic.CompareAndSwapUint64", "internal/race.Write", "sync.runtime_SemacquireWaitGroup"], unfollowed := true, recurses := true, named := ["lagan/bearing.checks"], plainKeys := false, leaving := true, apart := false, laid := [("lagan/bearing.checks", laid_lagan_bearing_checks)], narrowed := true }
def BearingFewestUptoSaid : Prop := bearingFewestUptoRow.holds Tryz.pinned (OpenSpec.upto bearingFewestSpec)

/-- 'laganlaw01.BearingClashes', WHERE WHAT IT READS IS OF BULK AT MOST 1048576: true; the input reads as it did. -/
def bearingClashesUptoRow : OpenClaim := { program := "ytlkmnfdipiielaagreatdoor", sum := "c241800f04b6c666703b3a20476bfb387ee889f7a20bd04cc3197321b8b9ab2f", func := "lagan/laganlaw01.BearingClashes", spec := "bearingClashes", inPlace := ["(*sync.WaitGroup).Add", "internal/race.ReleaseMerge", "internal/race.Disable", "internal/race.Enable", "internal/synctest.IsInBubble", "internal/synctest.Associate[sync.WaitGroup]", "sync.fatal", "sync/atomic.OrUint64", "sync/atomic.AddUint64", "internal/race.Read", "sync/atomic.LoadUint64", "sync/atomic.StoreUint64", "internal/synctest.Disassociate[sync.WaitGroup]", "sync.runtime_Semrelease", "(*sync.WaitGroup).Done", "(*sync.WaitGroup).Wait", "internal/race.Acquire", "internal/synctest.IsAssociated[sync.WaitGroup]", "sync/atomic.CompareAndSwapUint64", "internal/race.Write", "sync.runtime_SemacquireWaitGroup"], unfollowed := true, recurses := true, named := ["lagan/bearing.checks"], plainKeys := false, leaving := true, apart := false, laid := [("lagan/bearing.checks", laid_lagan_bearing_checks)], narrowed := true }
def BearingClashesUptoSaid : Prop := bearingClashesUptoRow.holds Tryz.pinned (OpenSpec.upto bearingClashesSpec)

/-- 'laganlaw01.BearingTexts', WHERE WHAT IT READS IS OF BULK AT MOST 1048576: true; the input reads as it did. -/
def bearingTextsUptoRow : OpenClaim := { program := "ytlkmnfdipiielaagreatdoor", sum := "c241800f04b6c666703b3a20476bfb387ee889f7a20bd04cc3197321b8b9ab2f", func := "lagan/laganlaw01.BearingTexts", spec := "bearingTexts", inPlace := ["(*sync.WaitGroup).Add", "internal/race.ReleaseMerge", "internal/race.Disable", "internal/race.Enable", "internal/synctest.IsInBubble", "internal/synctest.Associate[sync.WaitGroup]", "sync.fatal", "sync/atomic.OrUint64", "sync/atomic.AddUint64", "internal/race.Read", "sync/atomic.LoadUint64", "sync/atomic.StoreUint64", "internal/synctest.Disassociate[sync.WaitGroup]", "sync.runtime_Semrelease", "(*sync.WaitGroup).Done", "(*sync.WaitGroup).Wait", "internal/race.Acquire", "internal/synctest.IsAssociated[sync.WaitGroup]", "sync/atomic.CompareAndSwapUint64", "internal/race.Write", "sync.runtime_SemacquireWaitGroup", "internal/abi.NoEscape", "internal/bytealg.MakeNoZero", "internal/bytealg.IndexByteString", "internal/bytealg.CountString", "internal/bytealg.IndexString", "internal/reflectlite.ValueOf", "(internal/reflectlite.Value).Type", "(internal/reflectlite.Value).IsNil", "internal/reflectlite.TypeOf", "(internal/reflectlite.Value).Elem", "(internal/reflectlite.Value).Set"], unfollowed := true, recurses := true, named := ["lagan/bearing.checks", "lagan/bearing.words", "internal/strconv.uint64pow10", "math/bits.deBruijn32tab", "math/bits.deBruijn64tab", "unicode/utf8.first", "unicode/utf8.acceptRanges", "internal/bytealg.MaxLen", "strconv.ErrSyntax", "strconv.ErrRange", "errors.errorType"], plainKeys := false, leaving := true, apart := false, laid := [("math/bits.deBruijn32tab", laid_math_bits_deBruijn32tab), ("math/bits.deBruijn64tab", laid_math_bits_deBruijn64tab), ("internal/strconv.uint64pow10", laid_internal_strconv_uint64pow10), ("unicode/utf8.acceptRanges", laid_unicode_utf8_acceptRanges), ("errors.errorType", laid_errors_errorType), ("strconv.ErrRange", laid_strconv_ErrRange), ("strconv.ErrSyntax", laid_strconv_ErrSyntax), ("lagan/bearing.checks", laid_lagan_bearing_checks), ("lagan/bearing.words", laid_lagan_bearing_words), ("unicode/utf8.first", laid_unicode_utf8_first)], narrowed := true }
def BearingTextsUptoSaid : Prop := bearingTextsUptoRow.holds Tryz.pinned (OpenSpec.upto bearingTextsSpec)

/-- 'laganlaw01.BearingBack', WHERE WHAT IT READS IS OF BULK AT MOST 1048576: true; the input reads as it did. -/
def bearingBackUptoRow : OpenClaim := { program := "ytlkmnfdipiielaagreatdoor", sum := "c241800f04b6c666703b3a20476bfb387ee889f7a20bd04cc3197321b8b9ab2f", func := "lagan/laganlaw01.BearingBack", spec := "bearingBack", inPlace := ["(*sync.WaitGroup).Add", "internal/race.ReleaseMerge", "internal/race.Disable", "internal/race.Enable", "internal/synctest.IsInBubble", "internal/synctest.Associate[sync.WaitGroup]", "sync.fatal", "sync/atomic.OrUint64", "sync/atomic.AddUint64", "internal/race.Read", "sync/atomic.LoadUint64", "sync/atomic.StoreUint64", "internal/synctest.Disassociate[sync.WaitGroup]", "sync.runtime_Semrelease", "(*sync.WaitGroup).Done", "(*sync.WaitGroup).Wait", "internal/race.Acquire", "internal/synctest.IsAssociated[sync.WaitGroup]", "sync/atomic.CompareAndSwapUint64", "internal/race.Write", "sync.runtime_SemacquireWaitGroup", "internal/abi.NoEscape", "internal/bytealg.MakeNoZero", "internal/bytealg.IndexByteString", "internal/bytealg.CountString", "internal/bytealg.IndexString", "internal/reflectlite.ValueOf", "(internal/reflectlite.Value).Type", "(internal/reflectlite.Value).IsNil", "internal/reflectlite.TypeOf", "(internal/reflectlite.Value).Elem", "(internal/reflectlite.Value).Set"], unfollowed := true, recurses := true, named := ["lagan/bearing.checks", "lagan/bearing.words", "internal/strconv.uint64pow10", "math/bits.deBruijn32tab", "math/bits.deBruijn64tab", "unicode/utf8.first", "unicode/utf8.acceptRanges", "internal/bytealg.MaxLen", "strconv.ErrSyntax", "strconv.ErrRange", "errors.errorType"], plainKeys := false, leaving := true, apart := false, laid := [("math/bits.deBruijn32tab", laid_math_bits_deBruijn32tab), ("math/bits.deBruijn64tab", laid_math_bits_deBruijn64tab), ("internal/strconv.uint64pow10", laid_internal_strconv_uint64pow10), ("unicode/utf8.acceptRanges", laid_unicode_utf8_acceptRanges), ("errors.errorType", laid_errors_errorType), ("strconv.ErrRange", laid_strconv_ErrRange), ("strconv.ErrSyntax", laid_strconv_ErrSyntax), ("lagan/bearing.checks", laid_lagan_bearing_checks), ("lagan/bearing.words", laid_lagan_bearing_words), ("unicode/utf8.first", laid_unicode_utf8_first)], narrowed := true }
def BearingBackUptoSaid : Prop := bearingBackUptoRow.holds Tryz.pinned (OpenSpec.upto bearingBackSpec)

end Rows
end Go.Proofs.YtlkmnfdipiielaaGreatDoor
