/-
  It is proved that the given function answers true for every input, whatever is scheduled: the statement True of the seat. Conditions: none but those of the given statement itself.
-/
import Derived.Test.YtlkmnfdipiielaaGreatDoorKE
import Derived.Conc.Holds
set_option maxRecDepth 100000
set_option linter.all false
set_option linter.unusedVariables false
set_option linter.unusedSimpArgs false
set_option linter.unusedSectionVars false
namespace Go.Lg.B
open Go Go.Conc Go.Lg Go.Proofs Go.Proofs.Tryz
def trueOf (x y : Int) : Int :=
  if 12 * min (max x (-x)) (max y (-y)) ≤ 5 * max (max x (-x)) (max y (-y)) then (if max x (-x) > max y (-y) then (if x > 0 then 2 else 6) else if y > 0 then 0 else 4)
  else if x > 0 then (if y > 0 then 1 else 3) else if y > 0 then 7 else 5
theorem trueOf_bearing (a z : Sq) : trueOf (z.e - a.e) (z.n - a.n) = bearing a z := by
  generalize hx : z.e - a.e = x
  generalize hy : z.n - a.n = y
  simp only [bearing, aside, hx, hy, trueOf]
  repeat' split
  all_goals first | rfl | (exfalso; simp_all; done) | (exfalso; simp_all; omega)
def climbsH (n : Int) : Option Int → List Int → Int
  | _, [] => 0
  | q, k :: l => if !between k 0 (n - 1) then 6 else if q.any (fun x => decide (k ≤ x)) then 7 else climbsH n (some k) l
theorem falls_climbs (b : Bk) : ∀ (l : List Int) (q : Option Int) (m : Nat), (falls b q m l).2 = climbsH b.ws.length q l
  | [], _, _ => rfl
  | k :: l, q, m => by
    simp only [falls, climbsH, Bk.witness, there]
    by_cases hb : between k 0 (b.ws.length - 1) = true
    · simp only [hb, if_true, ne_eq, not_true_eq_false, if_false, Bool.not_true, Bool.false_eq_true]
      split
      · rfl
      · exact falls_climbs b l _ _
    · simp [hb]
def prev (l : List Int) : Nat → Option Int
  | 0 => none
  | i + 1 => l[i]?
section
variable {main : Bool} {J : Goroutine → Mem → Prop} (hJ : Closed prog main J)
include hJ
theorem nearR_c (s : Sq) (ro : RO) : CallP prog J (fnv 83) [s.val] ro (.bool (isPlace s)) := by
  refine CallP.intro hJ (by kernel_rfl) fun c cs tail hret => enter_X (n := 11) func83 rfl rfl (Nl rfl) ?_
  have C : Ctx prog main J (bf 83 .normal) := ⟨hJ, by decide⟩
  refine Xr C rfl rfl <| R.box C rfl rfl rfl rfl fun p1 => Ad C rfl rfl <| Xr C rfl rfl <| R.fieldAddr (off' := 0) C rfl rfl rfl runUnderlying27 rfl sizeOf3 rfl <| R.loadOne C rfl rfl rfl isAgg3 (by repeat (first | exact Mh | apply Mt)) rfl <| R.callP C rfl rfl rfl rfl (betweenR_c hJ _ _ _ _) <| Rm C rfl rfl <| R.fix (t := 6) rfl (fun q1 => ?_) (fun q1 => ?_)
  · have q1 := q1
    refine R.fieldAddr (off' := 1) C rfl rfl rfl runUnderlying27 rfl sizeOf3 rfl <| R.loadOne C rfl rfl rfl isAgg3 (by repeat (first | exact Mh | apply Mt)) rfl <| R.callP C rfl rfl rfl rfl (betweenR_c hJ _ _ _ _) <| R.pickT C rfl rfl rfl rfl <| Ad C rfl rfl <| X.ret C rfl rfl func83 rfl (by exact (.tmp rfl .nil)) <| hret _ _ ?_ (by repeat (first | exact Sr | apply Sc))
    simp_all [isPlace, retVal]
  · have q1 := q1
    refine R.pass C rfl rfl <| R.pass C rfl rfl <| R.pass C rfl rfl <| R.pickF C rfl rfl rfl rfl <| Ad C rfl rfl <| X.ret C rfl rfl func83 rfl (by exact (.tmp rfl .nil)) <| hret _ _ ?_ (by repeat (first | exact Sr | apply Sc))
    simp_all [isPlace, retVal]
theorem insideR_c (x : Rc) (l m : Int) (ro : RO) : CallP prog J (fnv 90) [x.val, .int .i64 l, .int .i64 m] ro (.bool (isReach x l m)) := by
  refine CallP.intro hJ (by kernel_rfl) fun c cs tail hret => enter_X (n := 24) func90 rfl rfl (Nl rfl) ?_
  have C : Ctx prog main J (bf 90 .normal) := ⟨hJ, by decide⟩
  refine Xr C rfl rfl <| R.box C rfl rfl rfl rfl fun p3 => Ad C rfl rfl <| Xr C rfl rfl <| Rm C rfl rfl <| R.fieldAddr (off' := 0) C rfl rfl rfl runUnderlying46 rfl sizeOf3 rfl <| R.loadOne C rfl rfl rfl isAgg3 (by repeat (first | exact Mh | apply Mt)) rfl <| R.int C rfl rfl rfl rfl b_leq <| Rm C rfl rfl <| R.fix (t := 11) rfl (fun q1 => ?_) (fun q1 => ?_)
  · have q1 := q1
    refine R.fieldAddr (off' := 0) C rfl rfl rfl runUnderlying46 rfl sizeOf3 rfl <| R.loadOne C rfl rfl rfl isAgg3 (by repeat (first | exact Mh | apply Mt)) rfl <| R.fieldAddr (off' := 1) C rfl rfl rfl runUnderlying46 rfl sizeOf3 rfl <| R.loadOne C rfl rfl rfl isAgg3 (by repeat (first | exact Mh | apply Mt)) rfl <| R.int C rfl rfl rfl rfl b_leq <| R.pickT C rfl rfl rfl rfl <| Rm C rfl rfl <| R.fix (t := 18) rfl (fun q2 => ?_) (fun q2 => ?_)
    · have q2 := q2
      refine R.fieldAddr (off' := 1) C rfl rfl rfl runUnderlying46 rfl sizeOf3 rfl <| R.loadOne C rfl rfl rfl isAgg3 (by repeat (first | exact Mh | apply Mt)) rfl <| Rm C rfl rfl <| R.int C rfl rfl rfl rfl b_leq <| R.pickT C rfl rfl rfl rfl <| Ad C rfl rfl <| X.ret C rfl rfl func90 rfl (by exact (.tmp rfl .nil)) <| hret _ _ ?_ (by repeat (first | exact Sr | apply Sc))
      first | (simp_all [isReach, retVal]; done) | (simp_all [isReach, retVal]; omega)
    · have q2 := q2
      refine R.pass C rfl rfl <| R.pass C rfl rfl <| R.pass C rfl rfl <| R.pass C rfl rfl <| R.pickF C rfl rfl rfl rfl <| Ad C rfl rfl <| X.ret C rfl rfl func90 rfl (by exact (.tmp rfl .nil)) <| hret _ _ ?_ (by repeat (first | exact Sr | apply Sc))
      first | (simp_all [isReach, retVal]; done) | (simp_all [isReach, retVal]; omega)
  · have q1 := q1
    refine R.pass C rfl rfl <| R.pass C rfl rfl <| R.pass C rfl rfl <| R.pass C rfl rfl <| R.pass C rfl rfl <| R.pickF C rfl rfl rfl rfl <| Rm C rfl rfl <| R.pass C rfl rfl <| R.pass C rfl rfl <| R.pass C rfl rfl <| R.pass C rfl rfl <| R.pickF C rfl rfl rfl rfl <| Ad C rfl rfl <| X.ret C rfl rfl func90 rfl (by exact (.tmp rfl .nil)) <| hret _ _ ?_ (by repeat (first | exact Sr | apply Sc))
    first | (simp_all [isReach, retVal]; done) | (simp_all [isReach, retVal]; omega)
theorem isCompassR_c {b : Bk} {v : Value} {ro : RO} (hv : BkV ro v b) (hb : b.short) (k : Int) : CallP prog J (fnv 91) [v, .int .i64 k] ro (.bool (between k 0 (b.cs.length - 1))) := by
  obtain ⟨vc, vw, rfl, hc, hw⟩ := hv
  obtain ⟨h1, h2⟩ := hb
  obtain ⟨b1, c1, rfl⟩ := hc.form
  refine CallP.intro hJ (by kernel_rfl) fun c cs tail hret => enter_X (n := 11) func91 rfl rfl (Nl rfl) ?_
  have C : Ctx prog main J (bf 91 .normal) := ⟨hJ, by decide⟩
  refine Xr C rfl rfl <| R.box C rfl rfl rfl rfl fun p2 => Ad C rfl rfl <| Xr C rfl rfl <| Rm C rfl rfl <| R.fieldAddr (off' := 3) C rfl rfl rfl runUnderlying25 rfl sizeOf22 rfl <| R.loadOne C rfl rfl rfl isAgg22 (by repeat (first | exact Mh | apply Mt)) rfl <| R.lenSlice C rfl rfl rfl runUnderlying22 <| R.int C rfl rfl rfl rfl (b_sub (by omega) (by omega)) <| R.callP C rfl rfl rfl rfl (betweenR_c hJ _ _ _ _) <| Ad C rfl rfl <| X.ret C rfl rfl func91 rfl (by exact (.tmp rfl .nil)) <| hret _ _ ?_ (by repeat (first | exact Sr | apply Sc))
  simp_all [retVal]
theorem isWitnessR_c {b : Bk} {v : Value} {ro : RO} (hv : BkV ro v b) (hb : b.short) (k : Int) : CallP prog J (fnv 112) [v, .int .i64 k] ro (.bool (between k 0 (b.ws.length - 1))) := by
  obtain ⟨vc, vw, rfl, hc, hw⟩ := hv
  obtain ⟨h1, h2⟩ := hb
  obtain ⟨b1, c1, rfl⟩ := hw.form
  refine CallP.intro hJ (by kernel_rfl) fun c cs tail hret => enter_X (n := 11) func112 rfl rfl (Nl rfl) ?_
  have C : Ctx prog main J (bf 112 .normal) := ⟨hJ, by decide⟩
  refine Xr C rfl rfl <| R.box C rfl rfl rfl rfl fun p2 => Ad C rfl rfl <| Xr C rfl rfl <| Rm C rfl rfl <| R.fieldAddr (off' := 4) C rfl rfl rfl runUnderlying25 rfl sizeOf23 rfl <| R.loadOne C rfl rfl rfl isAgg23 (by repeat (first | exact Mh | apply Mt)) rfl <| R.lenSlice C rfl rfl rfl runUnderlying23 <| R.int C rfl rfl rfl rfl (b_sub (by omega) (by omega)) <| R.callP C rfl rfl rfl rfl (betweenR_c hJ _ _ _ _) <| Ad C rfl rfl <| X.ret C rfl rfl func112 rfl (by exact (.tmp rfl .nil)) <| hret _ _ ?_ (by repeat (first | exact Sr | apply Sc))
  simp_all [retVal]
theorem onChartR_c {b : Bk} {v : Value} {ro : RO} (hv : BkV ro v b) (hb : b.small) (s : Sq) : CallP prog J (fnv 102) [v, s.val] ro (.bool (between s.e 0 (b.w - 1) && between s.n 0 (b.h - 1))) := by
  obtain ⟨vc, vw, rfl, hc, hw⟩ := hv
  obtain ⟨h1, h2, h3, h4, h5, h6⟩ := hb
  refine CallP.intro hJ (by kernel_rfl) fun c cs tail hret => enter_X (n := 19) func102 rfl rfl (Nl rfl) ?_
  have C : Ctx prog main J (bf 102 .normal) := ⟨hJ, by decide⟩
  refine Xr C rfl rfl <| R.box C rfl rfl rfl rfl fun p2 => R.box C rfl rfl rfl rfl fun p3 => Ad C rfl rfl <| Xr C rfl rfl <| R.fieldAddr (off' := 0) C rfl rfl rfl runUnderlying27 rfl sizeOf3 rfl <| R.loadOne C rfl rfl rfl isAgg3 (by repeat (first | exact Mh | apply Mt)) rfl <| R.fieldAddr (off' := 0) C rfl rfl rfl runUnderlying25 rfl sizeOf3 rfl <| R.loadOne C rfl rfl rfl isAgg3 (by repeat (first | exact Mh | apply Mt)) rfl <| R.int C rfl rfl rfl rfl (b_sub (by omega) (by omega)) <| R.callP C rfl rfl rfl rfl (betweenR_c hJ _ _ _ _) <| Rm C rfl rfl <| R.fix (t := 11) rfl (fun q1 => ?_) (fun q1 => ?_)
  · have q1 := q1
    refine R.fieldAddr (off' := 1) C rfl rfl rfl runUnderlying27 rfl sizeOf3 rfl <| R.loadOne C rfl rfl rfl isAgg3 (by repeat (first | exact Mh | apply Mt)) rfl <| R.fieldAddr (off' := 1) C rfl rfl rfl runUnderlying25 rfl sizeOf3 rfl <| R.loadOne C rfl rfl rfl isAgg3 (by repeat (first | exact Mh | apply Mt)) rfl <| R.int C rfl rfl rfl rfl (b_sub (by omega) (by omega)) <| R.callP C rfl rfl rfl rfl (betweenR_c hJ _ _ _ _) <| R.pickT C rfl rfl rfl rfl <| Ad C rfl rfl <| X.ret C rfl rfl func102 rfl (by exact (.tmp rfl .nil)) <| hret _ _ ?_ (by repeat (first | exact Sr | apply Sc))
    simp_all [retVal]
  · have q1 := q1
    refine R.pass C rfl rfl <| R.pass C rfl rfl <| R.pass C rfl rfl <| R.pass C rfl rfl <| R.pass C rfl rfl <| R.pass C rfl rfl <| R.pickF C rfl rfl rfl rfl <| Ad C rfl rfl <| X.ret C rfl rfl func102 rfl (by exact (.tmp rfl .nil)) <| hret _ _ ?_ (by repeat (first | exact Sr | apply Sc))
    simp_all [retVal]
theorem greatR_c {b : Bk} {v : Value} {ro : RO} (hv : BkV ro v b) : CallP prog J (fnv 18) [v] ro (.bool (decide (20 < b.cs.length) || decide (20 < b.ws.length))) := by
  obtain ⟨vc, vw, rfl, hc, hw⟩ := hv
  obtain ⟨b1, c1, rfl⟩ := hc.form
  obtain ⟨b2, c2, rfl⟩ := hw.form
  refine CallP.intro hJ (by kernel_rfl) fun c cs tail hret => enter_X (n := 13) func18 rfl rfl (Nl rfl) ?_
  have C : Ctx prog main J (bf 18 .normal) := ⟨hJ, by decide⟩
  refine Xr C rfl rfl <| R.box C rfl rfl rfl rfl fun p1 => Ad C rfl rfl <| Xr C rfl rfl <| R.fieldAddr (off' := 3) C rfl rfl rfl runUnderlying25 rfl sizeOf22 rfl <| R.loadOne C rfl rfl rfl isAgg22 (by repeat (first | exact Mh | apply Mt)) rfl <| R.lenSlice C rfl rfl rfl runUnderlying22 <| R.int C rfl rfl rfl rfl b_gtr <| Rm C rfl rfl <| R.fix (t := 7) rfl (fun q1 => ?_) (fun q1 => ?_)
  · have q1 := q1
    refine R.pass C rfl rfl <| R.pass C rfl rfl <| R.pass C rfl rfl <| R.pass C rfl rfl <| R.pickT C rfl rfl rfl rfl <| Ad C rfl rfl <| X.ret C rfl rfl func18 rfl (by exact (.tmp rfl .nil)) <| hret _ _ ?_ (by repeat (first | exact Sr | apply Sc))
    (simp only [decide_eq_true_eq, decide_eq_false_iff_not, retVal] at *; refine congrArg Value.bool ?_; rw [Bool.eq_iff_iff]; simp; try omega)
  · have q1 := q1
    refine R.fieldAddr (off' := 4) C rfl rfl rfl runUnderlying25 rfl sizeOf23 rfl <| R.loadOne C rfl rfl rfl isAgg23 (by repeat (first | exact Mh | apply Mt)) rfl <| R.lenSlice C rfl rfl rfl runUnderlying23 <| R.int C rfl rfl rfl rfl b_gtr <| R.pickF C rfl rfl rfl rfl <| Ad C rfl rfl <| X.ret C rfl rfl func18 rfl (by exact (.tmp rfl .nil)) <| hret _ _ ?_ (by repeat (first | exact Sr | apply Sc))
    (simp only [decide_eq_true_eq, decide_eq_false_iff_not, retVal] at *; refine congrArg Value.bool ?_; rw [Bool.eq_iff_iff]; simp; try omega)
theorem trueOfR_c (x y : Int) (hx : -1000000 ≤ x ∧ x ≤ 1000000) (hy : -1000000 ≤ y ∧ y ≤ 1000000) (ro : RO) : CallP prog J (fnv 84) [.int .i64 x, .int .i64 y] ro (.int .i64 (trueOf x y)) := by
  obtain ⟨x1, x2⟩ := hx
  obtain ⟨y1, y2⟩ := hy
  refine CallP.intro hJ (by kernel_rfl) fun c cs tail hret => enter_X (n := 37) func84 rfl rfl (Nl rfl) ?_
  have C : Ctx prog main J (bf 84 .normal) := ⟨hJ, by decide⟩
  refine Xr C rfl rfl <| Ad C rfl rfl <| Xr C rfl rfl <| Rm C rfl rfl <| Rm C rfl rfl <| R.neg C rfl rfl rfl (by omega) (by omega) <| R.max2 C rfl rfl rfl rfl <| Rm C rfl rfl <| Rm C rfl rfl <| R.neg C rfl rfl rfl (by omega) (by omega) <| R.max2 C rfl rfl rfl rfl <| R.asg C rfl rfl rfl <| Ad C rfl rfl <| Xs C <| Xr C rfl rfl <| Rm C rfl rfl <| Rm C rfl rfl <| R.min2 C rfl rfl rfl rfl <| R.int C rfl rfl rfl rfl (b_mul (by omega) (by omega)) <| Rm C rfl rfl <| Rm C rfl rfl <| R.max2 C rfl rfl rfl rfl <| R.int C rfl rfl rfl rfl (b_mul (by omega) (by omega)) <| R.int C rfl rfl rfl rfl b_leq <| R.done C <| X.cond C.1 rfl (fun q1 => ?_) (fun q1 => ?_)
  · have q1 := q1
    refine Xs C <| Xr C rfl rfl <| Rm C rfl rfl <| Rm C rfl rfl <| R.int C rfl rfl rfl rfl b_gtr <| R.done C <| X.cond C.1 rfl (fun q2 => ?_) (fun q2 => ?_)
    · have q2 := q2
      refine Xs C <| Xr C rfl rfl <| Rm C rfl rfl <| R.int C rfl rfl rfl rfl b_gtr <| R.done C <| X.cond C.1 rfl (fun q3 => ?_) (fun q3 => ?_)
      · have q3 := q3
        refine Xr C rfl rfl <| Ad C rfl rfl <| X.ret C rfl rfl func84 rfl (by exact (.tmp rfl .nil)) <| hret _ _ ?_ (by repeat (first | exact Sr | apply Sc))
        (simp only [decide_eq_true_eq, decide_eq_false_iff_not] at *; simp only [trueOf, retVal]; repeat' split) <;> first | rfl | (exfalso; omega)
      · have q3 := q3
        refine X.skip C.1 <| Xr C rfl rfl <| Ad C rfl rfl <| X.ret C rfl rfl func84 rfl (by exact (.tmp rfl .nil)) <| hret _ _ ?_ (by repeat (first | exact Sr | apply Sc))
        (simp only [decide_eq_true_eq, decide_eq_false_iff_not] at *; simp only [trueOf, retVal]; repeat' split) <;> first | rfl | (exfalso; omega)
    · have q2 := q2
      refine X.skip C.1 <| Xs C <| Xr C rfl rfl <| Rm C rfl rfl <| R.int C rfl rfl rfl rfl b_gtr <| R.done C <| X.cond C.1 rfl (fun q4 => ?_) (fun q4 => ?_)
      · have q4 := q4
        refine Xr C rfl rfl <| Ad C rfl rfl <| X.ret C rfl rfl func84 rfl (by exact (.tmp rfl .nil)) <| hret _ _ ?_ (by repeat (first | exact Sr | apply Sc))
        (simp only [decide_eq_true_eq, decide_eq_false_iff_not] at *; simp only [trueOf, retVal]; repeat' split) <;> first | rfl | (exfalso; omega)
      · have q4 := q4
        refine X.skip C.1 <| Xr C rfl rfl <| Ad C rfl rfl <| X.ret C rfl rfl func84 rfl (by exact (.tmp rfl .nil)) <| hret _ _ ?_ (by repeat (first | exact Sr | apply Sc))
        (simp only [decide_eq_true_eq, decide_eq_false_iff_not] at *; simp only [trueOf, retVal]; repeat' split) <;> first | rfl | (exfalso; omega)
  · have q1 := q1
    refine X.skip C.1 <| Xs C <| Xr C rfl rfl <| Rm C rfl rfl <| R.int C rfl rfl rfl rfl b_gtr <| R.done C <| X.cond C.1 rfl (fun q5 => ?_) (fun q5 => ?_)
    · have q5 := q5
      refine Xs C <| Xr C rfl rfl <| Rm C rfl rfl <| R.int C rfl rfl rfl rfl b_gtr <| R.done C <| X.cond C.1 rfl (fun q6 => ?_) (fun q6 => ?_)
      · have q6 := q6
        refine Xr C rfl rfl <| Ad C rfl rfl <| X.ret C rfl rfl func84 rfl (by exact (.tmp rfl .nil)) <| hret _ _ ?_ (by repeat (first | exact Sr | apply Sc))
        (simp only [decide_eq_true_eq, decide_eq_false_iff_not] at *; simp only [trueOf, retVal]; repeat' split) <;> first | rfl | (exfalso; omega)
      · have q6 := q6
        refine X.skip C.1 <| Xr C rfl rfl <| Ad C rfl rfl <| X.ret C rfl rfl func84 rfl (by exact (.tmp rfl .nil)) <| hret _ _ ?_ (by repeat (first | exact Sr | apply Sc))
        (simp only [decide_eq_true_eq, decide_eq_false_iff_not] at *; simp only [trueOf, retVal]; repeat' split) <;> first | rfl | (exfalso; omega)
    · have q5 := q5
      refine X.skip C.1 <| Xs C <| Xr C rfl rfl <| Rm C rfl rfl <| R.int C rfl rfl rfl rfl b_gtr <| R.done C <| X.cond C.1 rfl (fun q7 => ?_) (fun q7 => ?_)
      · have q7 := q7
        refine Xr C rfl rfl <| Ad C rfl rfl <| X.ret C rfl rfl func84 rfl (by exact (.tmp rfl .nil)) <| hret _ _ ?_ (by repeat (first | exact Sr | apply Sc))
        (simp only [decide_eq_true_eq, decide_eq_false_iff_not] at *; simp only [trueOf, retVal]; repeat' split) <;> first | rfl | (exfalso; omega)
      · have q7 := q7
        refine X.skip C.1 <| Xr C rfl rfl <| Ad C rfl rfl <| X.ret C rfl rfl func84 rfl (by exact (.tmp rfl .nil)) <| hret _ _ ?_ (by repeat (first | exact Sr | apply Sc))
        (simp only [decide_eq_true_eq, decide_eq_false_iff_not] at *; simp only [trueOf, retVal]; repeat' split) <;> first | rfl | (exfalso; omega)
theorem trueR_c (a z : Sq) (ro : RO) : CallP prog J (fnv 21) [a.val, z.val] ro (.tuple [.int .i64 (true_ a z).1, .int .i64 (true_ a z).2].toArray) := by
  by_cases h1 : isPlace a = true
  · by_cases h2 : isPlace z = true
    · have oa := isPlace_ok h1
      have oz := isPlace_ok h2
      unfold Sq.ok at oa oz
      refine CallP.intro hJ (by kernel_rfl) fun c cs tail hret => enter_X (n := 28) func21 rfl rfl (Nl rfl) ?_
      have C : Ctx prog main J (bf 21 .normal) := ⟨hJ, by decide⟩
      refine Xr C rfl rfl <| R.box C rfl rfl rfl rfl fun p2 => R.box C rfl rfl rfl rfl fun p3 => R.asg C rfl rfl rfl <| Ad C rfl rfl <| Xs C <| Xr C rfl rfl <| R.loadAgg C rfl rfl rfl isAgg27 sizeOf27 (by repeat (first | exact Mh | apply Mt)) (.take (.take .nil)) <| R.callP C rfl rfl rfl rfl (nearR_c hJ _ _) <| R.not C rfl rfl rfl <| R.fixv (t := 8) (v' := .bool false) rfl (by (rw [h1]; rfl)) <| Rm C rfl rfl <| R.loadAgg C rfl rfl rfl isAgg27 sizeOf27 (by repeat (first | exact Mh | apply Mt)) (.take (.take .nil)) <| R.callP C rfl rfl rfl rfl (nearR_c hJ _ _) <| R.not C rfl rfl rfl <| R.fixv (t := 12) (v' := .bool false) rfl (by (rw [h2]; rfl)) <| R.pickF C rfl rfl rfl rfl <| R.done C <| X.cond C.1 rfl (fun h => nomatch h) (fun _ => ?_)
      refine X.skip C.1 <| Xs C <| Xr C rfl rfl <| R.loadAgg C rfl rfl rfl isAgg27 sizeOf27 (by repeat (first | exact Mh | apply Mt)) (.take (.take .nil)) <| R.loadAgg C rfl rfl rfl isAgg27 sizeOf27 (by repeat (first | exact Mh | apply Mt)) (.take (.take .nil)) <| R.eqAgg (p := [a.e, a.n]) (q := [z.e, z.n]) C rfl rfl rfl rfl eqT27 rfl rfl (by kernel_rfl) <| R.done C <| X.cond C.1 rfl (fun heq => ?_) (fun heq => ?_)
      · have heq := heq
        refine Xr C rfl rfl <| R.asg C rfl rfl rfl <| Ad C rfl rfl <| X.ret C rfl rfl func21 rfl (by exact (.tmp rfl (.tmp rfl .nil))) <| hret _ _ ?_ (by repeat (first | exact Sr | apply Sc))
        obtain ⟨ae, an⟩ := a; obtain ⟨ze, zn⟩ := z
        simp_all [true_, retVal]
      · have heq := heq
        refine X.skip C.1 <| Xr C rfl rfl <| R.fieldAddr (off' := 0) C rfl rfl rfl runUnderlying27 rfl sizeOf3 rfl <| R.loadOne C rfl rfl rfl isAgg3 (by repeat (first | exact Mh | apply Mt)) rfl <| R.fieldAddr (off' := 0) C rfl rfl rfl runUnderlying27 rfl sizeOf3 rfl <| R.loadOne C rfl rfl rfl isAgg3 (by repeat (first | exact Mh | apply Mt)) rfl <| R.int C rfl rfl rfl rfl (b_sub (by omega) (by omega)) <| R.fieldAddr (off' := 1) C rfl rfl rfl runUnderlying27 rfl sizeOf3 rfl <| R.loadOne C rfl rfl rfl isAgg3 (by repeat (first | exact Mh | apply Mt)) rfl <| R.fieldAddr (off' := 1) C rfl rfl rfl runUnderlying27 rfl sizeOf3 rfl <| R.loadOne C rfl rfl rfl isAgg3 (by repeat (first | exact Mh | apply Mt)) rfl <| R.int C rfl rfl rfl rfl (b_sub (by omega) (by omega)) <| R.callP C rfl rfl rfl rfl (trueOfR_c hJ _ _ (by omega) (by omega) _) <| R.asg C rfl rfl rfl <| Ad C rfl rfl <| X.ret C rfl rfl func21 rfl (by exact (.tmp rfl (.tmp rfl .nil))) <| hret _ _ ?_ (by repeat (first | exact Sr | apply Sc))
        obtain ⟨ae, an⟩ := a; obtain ⟨ze, zn⟩ := z
        have hn : ¬ (⟨ae, an⟩ : Sq) = ⟨ze, zn⟩ := by simpa using heq
        have e : true_ ⟨ae, an⟩ ⟨ze, zn⟩ = (trueOf (ze - ae) (zn - an), 0) := by
          rw [true_, h1, h2, if_neg (by simp), if_neg hn, ← trueOf_bearing]
        rw [e]; rfl
    · have _ := h1
      refine CallP.intro hJ (by kernel_rfl) fun c cs tail hret => enter_X (n := 28) func21 rfl rfl (Nl rfl) ?_
      have C : Ctx prog main J (bf 21 .normal) := ⟨hJ, by decide⟩
      refine Xr C rfl rfl <| R.box C rfl rfl rfl rfl fun p2 => R.box C rfl rfl rfl rfl fun p3 => R.asg C rfl rfl rfl <| Ad C rfl rfl <| Xs C <| Xr C rfl rfl <| R.loadAgg C rfl rfl rfl isAgg27 sizeOf27 (by repeat (first | exact Mh | apply Mt)) (.take (.take .nil)) <| R.callP C rfl rfl rfl rfl (nearR_c hJ _ _) <| R.not C rfl rfl rfl <| R.fixv (t := 8) (v' := .bool false) rfl (by (rw [h1]; rfl)) <| Rm C rfl rfl <| R.loadAgg C rfl rfl rfl isAgg27 sizeOf27 (by repeat (first | exact Mh | apply Mt)) (.take (.take .nil)) <| R.callP C rfl rfl rfl rfl (nearR_c hJ _ _) <| R.not C rfl rfl rfl <| R.fixv (t := 12) (v' := .bool true) rfl (by (simp only [Bool.not_eq_true] at h2; rw [h2]; rfl)) <| R.pickF C rfl rfl rfl rfl <| R.done C <| X.cond C.1 rfl (fun _ => ?_) (fun h => nomatch h)
      refine Xr C rfl rfl <| R.asg C rfl rfl rfl <| Ad C rfl rfl <| X.ret C rfl rfl func21 rfl (by exact (.tmp rfl (.tmp rfl .nil))) <| hret _ _ ?_ (by repeat (first | exact Sr | apply Sc))
      simp_all [true_, retVal]
  · have _ := h1
    refine CallP.intro hJ (by kernel_rfl) fun c cs tail hret => enter_X (n := 28) func21 rfl rfl (Nl rfl) ?_
    have C : Ctx prog main J (bf 21 .normal) := ⟨hJ, by decide⟩
    refine Xr C rfl rfl <| R.box C rfl rfl rfl rfl fun p2 => R.box C rfl rfl rfl rfl fun p3 => R.asg C rfl rfl rfl <| Ad C rfl rfl <| Xs C <| Xr C rfl rfl <| R.loadAgg C rfl rfl rfl isAgg27 sizeOf27 (by repeat (first | exact Mh | apply Mt)) (.take (.take .nil)) <| R.callP C rfl rfl rfl rfl (nearR_c hJ _ _) <| R.not C rfl rfl rfl <| R.fixv (t := 8) (v' := .bool true) rfl (by (simp only [Bool.not_eq_true] at h1; rw [h1]; rfl)) <| Rm C rfl rfl <| R.pass C rfl rfl <| R.pass C rfl rfl <| R.pass C rfl rfl <| R.pickT C rfl rfl rfl rfl <| R.done C <| X.cond C.1 rfl (fun _ => ?_) (fun h => nomatch h)
    refine Xr C rfl rfl <| R.asg C rfl rfl rfl <| Ad C rfl rfl <| X.ret C rfl rfl func21 rfl (by exact (.tmp rfl (.tmp rfl .nil))) <| hret _ _ ?_ (by repeat (first | exact Sr | apply Sc))
    simp_all [true_, retVal]
end
end Go.Lg.B
namespace Go.Lg.B
open Go Go.Conc Go.Lg Go.Proofs Go.Proofs.Tryz
theorem rz_iff {k : Int} : ∀ {m : Nat} {n : Int}, k ∈ rz n m ↔ n ≤ k ∧ k < n + m
  | 0, n => by simp only [rz, List.not_mem_nil, false_iff]; omega
  | m + 1, n => by rw [rz, List.mem_cons, rz_iff]; omega
theorem ups_iff {k : Nat} : ∀ {m n : Nat}, k ∈ ups n m ↔ n ≤ k ∧ k < n + m
  | 0, n => by simp only [ups, List.not_mem_nil, false_iff]; omega
  | m + 1, n => by rw [ups, List.mem_cons, ups_iff]; omega
theorem maskOf_bit (p : Nat → Bool) (i : Nat) : ∀ n, (maskOf p n).testBit i = (decide (i < n) && p i)
  | 0 => by simp [maskOf]
  | n + 1 => by
    simp only [maskOf]
    by_cases h : p n = true
    · rw [if_pos h, Nat.testBit_or, maskOf_bit, Nat.testBit_two_pow]
      by_cases e : i = n
      · subst e; simp [h]
      · have : (i < n + 1) ↔ i < n := by omega
        simp [Ne.symm e, this]
    · rw [if_neg h, maskOf_bit]
      by_cases e : i = n
      · subst e; simp [h]
      · have : (i < n + 1) ↔ i < n := by omega
        simp [this]
theorem andNot_zero {a c : Nat} : (andNot a c == 0) = true ↔ ∀ i, a.testBit i = true → c.testBit i = true := by
  rw [beq_iff_eq]
  constructor
  · intro h i ha
    have := congrArg (fun x => x.testBit i) h
    simp only [andNot, Nat.testBit_xor, Nat.testBit_and, ha, Nat.zero_testBit] at this
    cases hc : c.testBit i
    · rw [hc] at this; simp at this
    · rfl
  · intro h
    refine Nat.eq_of_testBit_eq fun i => ?_
    simp only [andNot, Nat.testBit_xor, Nat.testBit_and, Nat.zero_testBit]
    cases ha : a.testBit i
    · simp
    · simp [h i ha]
theorem and_zero {a c : Nat} : (a &&& c == 0) = true ↔ ∀ i, a.testBit i = true → c.testBit i = false := by
  rw [beq_iff_eq]
  constructor
  · intro h i ha
    have := congrArg (fun x => x.testBit i) h
    simpa only [Nat.testBit_and, ha, Nat.zero_testBit, Bool.true_and] using this
  · intro h
    refine Nat.eq_of_testBit_eq fun i => ?_
    simp only [Nat.testBit_and, Nat.zero_testBit]
    cases ha : a.testBit i
    · simp
    · simp [h i ha]
theorem falls_ok {b : Bk} : ∀ (l : List Int) (q : Option Int) (m : Nat), (falls b q m l).2 = 0 →
    (∀ k ∈ l, 0 ≤ k ∧ k < b.ws.length) ∧ List.Pairwise (· < ·) l ∧ (∀ x, q = some x → ∀ k ∈ l, x < k) ∧ ∀ i : Nat, (falls b q m l).1.testBit i = (m.testBit i || l.contains (i : Int))
  | [], q, m, _ => by simp [falls]
  | k :: l, q, m, h => by
    rw [falls] at h ⊢
    by_cases hw : b.witness k ≠ 0
    · rw [if_pos hw] at h; exact absurd h hw
    · rw [if_neg hw] at h ⊢
      by_cases hq : (q.any fun x => decide (k ≤ x)) = true
      · rw [if_pos hq] at h; cases h
      · rw [if_neg hq] at h ⊢
        obtain ⟨h1, h2, h3, h4⟩ := falls_ok l _ _ h
        have hk : 0 ≤ k ∧ k < b.ws.length := by
          have : between k 0 (b.ws.length - 1) = true := there_zero.1 (by simpa [Bk.witness] using hw)
          simp only [between, Bool.and_eq_true, decide_eq_true_eq] at this
          omega
        refine ⟨fun x hx => ?_, List.pairwise_cons.2 ⟨fun x hx => h3 k rfl x hx, h2⟩, fun x hx y hy => ?_, fun i => ?_⟩
        · rcases List.mem_cons.1 hx with rfl | hx
          · exact hk
          · exact h1 x hx
        · subst hx
          simp only [Option.any_some, decide_eq_true_eq] at hq
          rcases List.mem_cons.1 hy with rfl | hy
          · omega
          · have := h3 k rfl y hy; omega
        · rw [h4, Nat.testBit_or, Nat.testBit_two_pow, List.contains_cons, Bool.or_assoc]
          have : decide (k.toNat = i) = ((i : Int) == k) := by
            rw [Bool.eq_iff_iff]; simp only [decide_eq_true_eq, beq_iff_eq]; omega
          rw [this]
theorem bits_mem (m : Nat) (k : Int) : ∀ n, k ∈ bitsUpto m n ↔ ∃ i : Nat, i < n ∧ m.testBit i = true ∧ k = i
  | 0 => by simp [bitsUpto]
  | n + 1 => by
    simp only [bitsUpto]
    have ih := bits_mem m k n
    by_cases h : m.testBit n = true
    · rw [if_pos h, List.mem_append, ih, List.mem_singleton]
      constructor
      · rintro (⟨i, h1, h2, h3⟩ | rfl)
        · exact ⟨i, by omega, h2, h3⟩
        · exact ⟨n, by omega, h, rfl⟩
      · rintro ⟨i, h1, h2, h3⟩
        by_cases e : i = n
        · exact .inr (by rw [h3, e])
        · exact .inl ⟨i, by omega, h2, h3⟩
    · rw [if_neg h, ih]
      constructor
      · rintro ⟨i, h1, h2, h3⟩; exact ⟨i, by omega, h2, h3⟩
      · rintro ⟨i, h1, h2, h3⟩
        by_cases e : i = n
        · rw [e] at h2; exact absurd h2 h
        · exact ⟨i, by omega, h2, h3⟩
theorem bits_up (m : Nat) : ∀ n, List.Pairwise (· < ·) (bitsUpto m n)
  | 0 => List.Pairwise.nil
  | n + 1 => by
    simp only [bitsUpto]
    split
    · refine List.pairwise_append.2 ⟨bits_up m n, List.pairwise_singleton _ _, fun x hx y hy => ?_⟩
      obtain ⟨i, h1, _, rfl⟩ := (bits_mem m x n).1 hx
      obtain rfl := List.mem_singleton.1 hy
      omega
    · exact bits_up m n
theorem up_nodup {l : List Int} (h : List.Pairwise (· < ·) l) : l.Nodup := h.imp fun h => by omega
theorem up_ext {l m : List Int} (hl : List.Pairwise (· < ·) l) (hm : List.Pairwise (· < ·) m) (h : ∀ x, x ∈ l ↔ x ∈ m) : l = m :=
  List.Perm.eq_of_pairwise (fun a b _ _ h1 h2 => by omega) hl hm ((List.perm_ext_iff_of_nodup (up_nodup hl) (up_nodup hm)).2 h)
theorem listOf_eq {m : Nat} {l : List Int} (hl : List.Pairwise (· < ·) l) (hr : ∀ k ∈ l, 0 ≤ k ∧ k < 5) (hm : ∀ i : Nat, m.testBit i = l.contains (i : Int)) : listOf m = l := by
  refine up_ext (bits_up m 5) hl fun x => ?_
  unfold listOf
  rw [bits_mem]
  constructor
  · rintro ⟨i, _, h2, rfl⟩
    rw [hm] at h2; simpa using h2
  · intro hx
    obtain ⟨h1, h2⟩ := hr x hx
    refine ⟨x.toNat, by omega, ?_, by omega⟩
    rw [hm, show ((x.toNat : Nat) : Int) = x by omega]
    simpa using hx
def offsIn : List Int → List Rc → Bool
  | o :: l, x :: r => between o x.lo x.hi && offsIn l r
  | _, _ => true
theorem handed_ok {b : Bk} {c : Cs} (hh : (handed b c).2 = 0) : b.square c.s = 0 ∧ c.o.length = b.cs.length ∧ (∀ n ∈ c.o, -3 ≤ n ∧ n ≤ 3) ∧ (falls b none 0 c.f).2 = 0 ∧ (handed b c).1 = ⟨c.aim, (falls b none 0 c.f).1⟩ := by
  unfold handed at hh ⊢
  by_cases h1 : b.square c.s ≠ 0
  · rw [if_pos h1] at hh; exact absurd hh h1
  rw [if_neg h1] at hh ⊢
  by_cases h2 : c.o.length ≠ b.cs.length
  · rw [if_pos h2] at hh; cases hh
  rw [if_neg h2] at hh ⊢
  by_cases h3 : (c.o.any fun n => !between n (-3) 3) = true
  · rw [if_pos h3] at hh; cases hh
  rw [if_neg h3] at hh ⊢
  by_cases h4 : (falls b none 0 c.f).2 ≠ 0
  · rw [if_pos h4] at hh; exact absurd hh h4
  rw [if_neg h4]
  refine ⟨by simpa using h1, by simpa using h2, fun n hn => ?_, by simpa using h4, rfl⟩
  have := mt (fun h => List.any_eq_true.2 ⟨n, hn, h⟩) h3
  simpa [between] using this
theorem aim_mem {b : Bk} {c : Cs} (hb : b.good) (hs : b.square c.s = 0) (hl : c.o.length = b.cs.length) : c.aim ∈ aims b ↔ offsIn c.o b.cs = true := by
  have hsq : between c.s.e 0 (b.w - 1) = true ∧ between c.s.n 0 (b.h - 1) = true := by
    have := there_zero.1 hs
    simpa using this
  simp only [between, Bool.and_eq_true, decide_eq_true_eq] at hsq
  obtain ⟨hw, hh, _, hn, _, _, _⟩ := hb
  obtain ⟨⟨e, m⟩, o, f⟩ := c
  obtain ⟨w, h, bf, cs, ws⟩ := b
  simp only at hsq hw hh hn hl
  have key : (∃ n : Nat, n < (w * h).toNat ∧ e = (n : Int) % w ∧ m = (n : Int) / w) := by
    have h0 : 0 ≤ m * w := Int.mul_nonneg hsq.2.1 (by omega)
    refine ⟨(m * w + e).toNat, ?_, ?_, ?_⟩
    · have : m * w + e < w * h := by
        have : m * w ≤ (h - 1) * w := Int.mul_le_mul_of_nonneg_right (by omega) (by omega)
        have e2 : (h - 1) * w = w * h - w := by rw [Int.sub_mul, Int.mul_comm, Int.one_mul]
        omega
      omega
    · rw [Int.toNat_of_nonneg (by omega), Int.add_comm, Int.add_mul_emod_self_right, Int.emod_eq_of_lt (by omega) (by omega)]
    · rw [Int.toNat_of_nonneg (by omega), Int.add_comm, Int.add_mul_ediv_right _ _ (by omega), Int.ediv_eq_zero_of_lt (by omega) (by omega), Int.zero_add]
  obtain ⟨n0, k1, k2, k3⟩ := key
  simp only [aims, List.mem_flatMap, ups_iff]
  have fin : ∀ {p : Nat → Prop} {q : Prop}, (∀ n : Nat, p n → e = (n : Int) % w ∧ m = (n : Int) / w) → ((∃ n : Nat, (e = (n : Int) % w ∧ m = (n : Int) / w) ∧ p n) → q) → (q → p n0) → ((∃ n : Nat, (0 ≤ n ∧ n < 0 + (w * h).toNat) ∧ p n) ↔ q) :=
    fun h1 h2 h3 => ⟨fun ⟨n, _, h⟩ => h2 ⟨n, h1 n h, h⟩, fun hq => ⟨n0, ⟨Nat.zero_le _, by omega⟩, h3 hq⟩⟩
  have s0 : ∀ (a : Aim) (n : Int), a.set ((0 : Nat) : Int) n = { a with x := n } := fun _ _ => rfl
  have s1 : ∀ (a : Aim) (n : Int), a.set ((0 + 1 : Nat) : Int) n = { a with y := n } := fun _ _ => rfl
  have s2 : ∀ (a : Aim) (n : Int), a.set ((0 + 1 + 1 : Nat) : Int) n = { a with z := n } := fun _ _ => rfl
  match cs, o, hl, hn with
  | [x], [o0], _, _ =>
    simp only [offs, s0, aimAt, Cs.aim, List.mem_flatMap, rz_iff, List.mem_singleton, offsIn, between, Bool.and_true, Bool.and_eq_true, decide_eq_true_eq, List.getD_cons_zero, List.getD_cons_succ, List.getD_nil, Aim.mk.injEq, Sq.mk.injEq]
    exact fin (fun n ⟨k, _, ⟨h1, h2⟩, _⟩ => ⟨h1, h2⟩) (fun ⟨n, _, k, h1, _, h2, _⟩ => by omega) fun hq => ⟨o0, by omega, ⟨k2, k3⟩, by simp⟩
  | [x, y], [o0, o1], _, _ =>
    simp only [offs, s0, s1, aimAt, Cs.aim, List.mem_flatMap, rz_iff, List.mem_singleton, offsIn, between, Bool.and_true, Bool.and_eq_true, decide_eq_true_eq, List.getD_cons_zero, List.getD_cons_succ, List.getD_nil, Aim.mk.injEq, Sq.mk.injEq]
    exact fin (fun n ⟨k, _, k', _, ⟨h1, h2⟩, _⟩ => ⟨h1, h2⟩) (fun ⟨n, _, k, h1, k', h1', _, h2, h3, _⟩ => by omega) fun hq => ⟨o0, by omega, o1, by omega, ⟨k2, k3⟩, by simp⟩
  | [x, y, z], [o0, o1, o2], _, _ =>
    simp only [offs, s0, s1, s2, aimAt, Cs.aim, List.mem_flatMap, rz_iff, List.mem_singleton, offsIn, between, Bool.and_true, Bool.and_eq_true, decide_eq_true_eq, List.getD_cons_zero, List.getD_cons_succ, Aim.mk.injEq, Sq.mk.injEq]
    exact fin (fun n ⟨k, _, k', _, k'', _, ⟨h1, h2⟩, _⟩ => ⟨h1, h2⟩) (fun ⟨n, _, k, h1, k', h1', k'', h1'', _, h2, h3, h4⟩ => by omega) fun hq => ⟨o0, by omega, o1, by omega, o2, by omega, ⟨k2, k3⟩, by simp⟩
theorem cases_iff {b : Bk} {c : Lot} : c ∈ cases b ↔ c.a ∈ aims b ∧ c.m < 2 ^ b.ws.length ∧ okMask b c.a c.m = true := by
  obtain ⟨a, m⟩ := c
  simp only [cases, lots, List.mem_flatMap, List.mem_map, List.mem_filter, ups_iff, Lot.mk.injEq]
  constructor
  · rintro ⟨a', h1, m', ⟨⟨_, h2⟩, h3⟩, rfl, rfl⟩; exact ⟨h1, by omega, h3⟩
  · rintro ⟨h1, h2, h3⟩; exact ⟨a, h1, m, ⟨⟨Nat.zero_le _, by omega⟩, h3⟩, rfl, rfl⟩
def refCase (b : Bk) (c : Cs) : Bool := offsIn c.o b.cs && (decide ((c.f.length : Int) ≤ b.f) && (!(c.f.any fun k => (b.wt k.toNat).sure) && (List.range b.ws.length).all fun i => c.f.contains (i : Int) || right (b.wt i) c.aim))
theorem isCase_law {b : Bk} {c : Cs} (hb : b.good) (hh : (handed b c).2 = 0) : decide ((handed b c).1 ∈ cases b) = refCase b c := by
  obtain ⟨h1, h2, _, h4, h5⟩ := handed_ok hh
  obtain ⟨f1, f2, _, f4⟩ := falls_ok c.f none 0 h4
  have hw := hb.nw
  generalize hM : (falls b none 0 c.f).1 = M at *
  have hbit : ∀ i : Nat, M.testBit i = c.f.contains (i : Int) := fun i => by rw [f4]; simp
  have hM2 : M < 2 ^ b.ws.length := by
    refine Nat.lt_pow_two_of_testBit _ fun j hj => ?_
    rw [hbit, Bool.eq_false_iff]
    intro h
    have := f1 _ (by simpa using h)
    omega
  rw [h5, Bool.eq_iff_iff, decide_eq_true_eq, cases_iff]
  simp only [refCase, Bool.and_eq_true, aim_mem hb h1 h2, okMask, andNot_zero, and_zero, listOf_eq f2 (fun k hk => by have := f1 k hk; omega) hbit, hM2, true_and, hbit, odd, sureM, maskOf_bit, decide_eq_true_eq]
  refine and_congr_right fun _ => ?_
  constructor
  · rintro ⟨k1, k2, k3⟩
    refine ⟨k3, ?_, ?_⟩
    · rw [Bool.not_eq_true', List.any_eq_false]
      intro k hk
      obtain ⟨g1, g2⟩ := f1 k hk
      have := k2 k.toNat (by rw [show ((k.toNat : Nat) : Int) = k by omega]; simpa using hk)
      rw [decide_eq_true (by omega), Bool.true_and] at this
      rw [this]; simp
    · rw [List.all_eq_true]
      intro i hi
      have hi := List.mem_range.1 hi
      cases hr : right (b.wt i) c.aim
      · have := k1 i ⟨hi, by rw [hr]; rfl⟩
        rw [this]; rfl
      · simp
  · rintro ⟨k3, k2, k1⟩
    refine ⟨fun i hi => ?_, fun i hi => ?_, k3⟩
    · have := List.all_eq_true.1 k1 i (List.mem_range.2 hi.1)
      simp only [Bool.not_eq_true'] at hi
      rw [hi.2, Bool.or_false] at this
      exact this
    · rw [Bool.not_eq_true', List.any_eq_false] at k2
      have hm : (i : Int) ∈ c.f := by simpa using hi
      have := k2 _ hm
      rw [show ((i : Int)).toNat = i by omega] at this
      simp only [Bool.not_eq_true] at this
      rw [this]; simp
end Go.Lg.B
namespace Go.Lg.B
open Go Go.Conc Go.Lg Go.Proofs Go.Proofs.Tryz
section
variable {main : Bool} {J : Goroutine → Mem → Prop} (hJ : Closed prog main J)
include hJ
theorem checkChartR_c {b : Bk} {v : Value} {ro : RO} (hv : BkV ro v b) (hs : b.short) : CallP prog J (fnv 25) [v] ro (.int .i64 (checkChart b)) := by
  have hvv := hv
  obtain ⟨vc, vw, rfl, hc, hw⟩ := hv
  obtain ⟨b1, c1, rfl⟩ := hc.form
  obtain ⟨b2, c2, rfl⟩ := hw.form
  have hs0 := hs
  obtain ⟨hs1, hs2⟩ := hs
  by_cases hch : b.chart = 0
  · have hch' : between b.w 2 7 = true ∧ between b.h 2 7 = true ∧ between b.f 0 2 = true := by
      simp only [Bk.chart] at hch
      cases h1 : between b.w 2 7 <;> cases h2 : between b.h 2 7 <;> cases h3 : between b.f 0 2 <;> simp [h1, h2, h3] at hch ⊢
    obtain ⟨g1, g2, g3⟩ := hch'
    refine CallP.intro hJ (by kernel_rfl) fun c cs tail hret => enter_X (n := 82) func25 rfl rfl (Nl rfl) ?_
    have C : Ctx prog main J (bf 25 .normal) := ⟨hJ, by decide⟩
    refine Xr C rfl rfl <| R.box C rfl rfl rfl rfl fun p1 => Ad C rfl rfl <| Xs C <| Xr C rfl rfl <| R.fieldAddr (off' := 0) C rfl rfl rfl runUnderlying25 rfl sizeOf3 rfl <| R.loadOne C rfl rfl rfl isAgg3 (by repeat (first | exact Mh | apply Mt)) rfl <| R.callP C rfl rfl rfl rfl (betweenR_c hJ _ _ _ _) <| R.not C rfl rfl rfl <| R.fixv (t := 10) (v' := .bool false) rfl (by (rw [g1]; rfl)) <| Rm C rfl rfl <| R.fieldAddr (off' := 1) C rfl rfl rfl runUnderlying25 rfl sizeOf3 rfl <| R.loadOne C rfl rfl rfl isAgg3 (by repeat (first | exact Mh | apply Mt)) rfl <| R.callP C rfl rfl rfl rfl (betweenR_c hJ _ _ _ _) <| R.not C rfl rfl rfl <| R.fixv (t := 15) (v' := .bool false) rfl (by (rw [g2]; rfl)) <| R.pickF C rfl rfl rfl rfl <| Rm C rfl rfl <| R.fieldAddr (off' := 2) C rfl rfl rfl runUnderlying25 rfl sizeOf3 rfl <| R.loadOne C rfl rfl rfl isAgg3 (by repeat (first | exact Mh | apply Mt)) rfl <| R.callP C rfl rfl rfl rfl (betweenR_c hJ _ _ _ _) <| R.not C rfl rfl rfl <| R.fixv (t := 21) (v' := .bool false) rfl (by (rw [g3]; rfl)) <| R.pickF C rfl rfl rfl rfl <| R.done C <| X.cond C.1 rfl (fun h => nomatch h) (fun _ => ?_)
    refine X.skip C.1 <| Xs C <| Xr C rfl rfl <| R.fieldAddr (off' := 3) C rfl rfl rfl runUnderlying25 rfl sizeOf22 rfl <| R.loadOne C rfl rfl rfl isAgg22 (by repeat (first | exact Mh | apply Mt)) rfl <| R.lenSlice C rfl rfl rfl runUnderlying22 <| R.callP C rfl rfl rfl rfl (betweenR_c hJ _ _ _ _) <| R.not C rfl rfl rfl <| R.done C <| X.cond C.1 rfl (fun hn => ?_) (fun hn => ?_)
    · have hn := hn
      refine Xr C rfl rfl <| Ad C rfl rfl <| X.ret C rfl rfl func25 rfl (by exact (.tmp rfl .nil)) <| hret _ _ ?_ (by repeat (first | exact Sr | apply Sc))
      simp only [checkChart, hch, Bk.compassesH]
      simp_all [retVal]
    · have hn := hn
      have hn' : between (b.cs.length : Int) 1 3 = true := by simpa using hn
      refine X.skip C.1 <| Xs C <| Xr C rfl rfl <| Ad C rfl rfl <| X.block C.1 <| X.loopI (ι := Nat) C.1 (fun i => i ≤ b.cs.length ∧ csH (b.cs.drop i) = csH b.cs) (fun i => [(1, .pointer (some ⟨p1, 0, none⟩)), (3, .int .i64 (i : Int))])
        (fun _ => ⟨ro, (p1, .cells [.int .i64 b.w, .int .i64 b.h, .int .i64 b.f, .slice b1 b.cs.length c1, .slice b2 b.ws.length c2].toArray 25 (0, 0)) :: tail⟩) (fun i => b.cs.length - i) 0 ⟨Nat.zero_le _, rfl⟩ rfl ⟨rfl, rfl, trivial⟩ fun i hi hnext => ?_
      obtain ⟨hi, hr⟩ := hi
      refine Xs C <| Xr C rfl rfl <| Rm C rfl rfl <| R.fieldAddr (off' := 3) C rfl rfl rfl runUnderlying25 rfl sizeOf22 rfl <| R.loadOne C rfl rfl rfl isAgg22 (by repeat (first | exact Mh | apply Mt)) rfl <| R.lenSlice C rfl rfl rfl runUnderlying22 <| R.int C rfl rfl rfl rfl b_lss <| R.done C <| X.cond C.1 rfl (fun hlt => ?_) (fun hlt => ?_)
      · have hlt := hlt
        simp only [decide_eq_true_eq] at hlt
        have hi' : i < b.cs.length := by omega
        obtain ⟨p, off, cap, l, t, fq, hsl, hrop, hsub⟩ := hc.at Rc.len (by omega)
        cases hsl
        rw [List.drop_eq_getElem_cons hi'] at hr
        simp only [csH] at hr
        refine X.skip C.1 <| Xs C <| X.block C.1 <| Xr C rfl rfl <| R.fieldAddr (off' := 3) C rfl rfl rfl runUnderlying25 rfl sizeOf22 rfl <| R.loadOne C rfl rfl rfl isAgg22 (by repeat (first | exact Mh | apply Mt)) rfl <| Rm C rfl rfl <| R.indexAddr C rfl rfl rfl rfl runUnderlying22 sizeOf46 (by omega) (by omega) <| R.loadAggRo C rfl rfl rfl isAgg46 sizeOf46 hrop (hsub i hi') <| R.alloc C rfl rfl zeroValue46 rfl fun p4 => R.store C rfl rfl rfl rfl sizeOf46 rfl rfl rfl (by repeat (first | exact Uh | apply Ut)) (.here (.here .nil)) <| R.done C <| Xr C rfl rfl <| R.loadAgg C rfl rfl rfl isAgg46 sizeOf46 (by repeat (first | exact Mh | apply Mt)) (.take (.take .nil)) <| R.callP C rfl rfl rfl rfl (insideR_c hJ b.cs[i] _ _ _) <| R.not C rfl rfl rfl <| Rm C rfl rfl <| R.fix (t := 43) rfl (fun hg => ?_) (fun hg => ?_)
        · have hg := hg
          have hf : (b.cs[i]).fine = false := by simp at hg; simp [Rc.fine, hg]
          simp [hf] at hr
          refine R.pass C rfl rfl <| R.pass C rfl rfl <| R.pass C rfl rfl <| R.pass C rfl rfl <| R.pass C rfl rfl <| R.pass C rfl rfl <| R.pickT C rfl rfl rfl rfl <| R.done C <| X.cond C.1 rfl (fun _ => ?_) (fun h => nomatch h)
          refine Xr C rfl rfl <| Ad C rfl rfl <| X.ret C rfl rfl func25 rfl (by exact (.tmp rfl .nil)) <| hret _ _ ?_ (by repeat (first | exact Sr | apply Sc))
          simp [checkChart, hch, Bk.compassesH, hn', retVal, ← hr]
        · have hg := hg
          have hbd := isReach_bd (x := b.cs[i]) (by simpa using hg)
          refine R.fieldAddr (off' := 1) C rfl rfl rfl runUnderlying46 rfl sizeOf3 rfl <| R.loadOne C rfl rfl rfl isAgg3 (by repeat (first | exact Mh | apply Mt)) rfl <| R.fieldAddr (off' := 0) C rfl rfl rfl runUnderlying46 rfl sizeOf3 rfl <| R.loadOne C rfl rfl rfl isAgg3 (by repeat (first | exact Mh | apply Mt)) rfl <| R.int C rfl rfl rfl rfl (b_sub (by omega) (by omega)) <| R.int C rfl rfl rfl rfl b_geq <| R.pickF C rfl rfl rfl rfl <| R.done C <| X.cond C.1 rfl (fun hd => ?_) (fun hd => ?_)
          · have hd := hd
            have hf : (b.cs[i]).fine = false := by simp at hd; simp [Rc.fine]; intro _; omega
            simp [hf] at hr
            refine Xr C rfl rfl <| Ad C rfl rfl <| X.ret C rfl rfl func25 rfl (by exact (.tmp rfl .nil)) <| hret _ _ ?_ (by repeat (first | exact Sr | apply Sc))
            simp [checkChart, hch, Bk.compassesH, hn', retVal, ← hr]
          · have hd := hd
            refine X.skip C.1 <| X.inBlock C.1 <| X.region C rfl rfl <| Rm C rfl rfl <| R.int C rfl rfl rfl rfl (b_add (by omega) (by omega)) <| Ad C rfl rfl ?_
            have hf : (b.cs[i]).fine = true := by simp at hd hg; simp [Rc.fine, hg]; omega
            simp [hf] at hr
            refine X.weak C.1 (Weak.sub (List.sublist_cons_self _ _)) (X.weaken ?_ (hnext (i + 1) ⟨by omega, hr⟩ (by omega)))
            exact ⟨rfl, by simp [look], trivial⟩
      · have hlt := hlt
        simp only [decide_eq_false_iff_not] at hlt
        obtain rfl : i = b.cs.length := by omega
        have hcs : b.compassesH = 0 := by simp [csH] at hr; simp [Bk.compassesH, hn', ← hr]
        have hcc : checkChart b = b.witnessesH := by simp [checkChart, hch, hcs]
        refine X.exit C.1 rfl <| Xs C <| Xr C rfl rfl <| R.fieldAddr (off' := 4) C rfl rfl rfl runUnderlying25 rfl sizeOf23 rfl <| R.loadOne C rfl rfl rfl isAgg23 (by repeat (first | exact Mh | apply Mt)) rfl <| R.lenSlice C rfl rfl rfl runUnderlying23 <| R.int C rfl rfl rfl rfl b_gtr <| R.done C <| X.cond C.1 rfl (fun h5 => ?_) (fun h5 => ?_)
        · have h5 := h5
          refine Xr C rfl rfl <| Ad C rfl rfl <| X.ret C rfl rfl func25 rfl (by exact (.tmp rfl .nil)) <| hret _ _ ?_ (by repeat (first | exact Sr | apply Sc))
          simp at h5
          rw [hcc]
          simp [Bk.witnessesH, retVal]; omega
        · have h5 := h5
          simp at h5
          refine X.skip C.1 <| Xs C <| Xr C rfl rfl <| Ad C rfl rfl <| X.block C.1 <| X.loopI (ι := Nat) C.1 (fun i => i ≤ b.ws.length ∧ wtsH b.cs.length (b.ws.drop i) = wtsH b.cs.length b.ws) (fun i => [(1, .pointer (some ⟨p1, 0, none⟩)), (5, .int .i64 (i : Int))])
            (fun _ => ⟨ro, (p1, .cells [.int .i64 b.w, .int .i64 b.h, .int .i64 b.f, .slice b1 b.cs.length c1, .slice b2 b.ws.length c2].toArray 25 (0, 0)) :: tail⟩) (fun i => b.ws.length - i) 0 ⟨Nat.zero_le _, rfl⟩ rfl ⟨rfl, rfl, trivial⟩ fun i hi hnext2 => ?_
          obtain ⟨hi, hr⟩ := hi
          refine Xs C <| Xr C rfl rfl <| Rm C rfl rfl <| R.fieldAddr (off' := 4) C rfl rfl rfl runUnderlying25 rfl sizeOf23 rfl <| R.loadOne C rfl rfl rfl isAgg23 (by repeat (first | exact Mh | apply Mt)) rfl <| R.lenSlice C rfl rfl rfl runUnderlying23 <| R.int C rfl rfl rfl rfl b_lss <| R.done C <| X.cond C.1 rfl (fun hlt2 => ?_) (fun hlt2 => ?_)
          · have hlt2 := hlt2
            simp only [decide_eq_true_eq] at hlt2
            have hi' : i < b.ws.length := by omega
            obtain ⟨p, off, cap, l, t, fq, hsl, hrop, hsub⟩ := hw.at Wt.len (by omega)
            cases hsl
            rw [List.drop_eq_getElem_cons hi'] at hr
            simp only [wtsH] at hr
            refine X.skip C.1 <| Xs C <| X.block C.1 <| Xr C rfl rfl <| R.fieldAddr (off' := 4) C rfl rfl rfl runUnderlying25 rfl sizeOf23 rfl <| R.loadOne C rfl rfl rfl isAgg23 (by repeat (first | exact Mh | apply Mt)) rfl <| Rm C rfl rfl <| R.indexAddr C rfl rfl rfl rfl runUnderlying23 sizeOf58 (by omega) (by omega) <| R.loadAggRo C rfl rfl rfl isAgg58 sizeOf58 hrop (hsub i hi') <| R.alloc C rfl rfl zeroValue58 rfl fun p6 => R.store C rfl rfl rfl rfl sizeOf58 rfl rfl rfl (by repeat (first | exact Uh | apply Ut)) (.here (.here (.here (.here (.here .nil))))) <| R.done C <| Xs C <| Xr C rfl rfl <| R.fieldAddr (off' := 0) C rfl rfl rfl runUnderlying58 rfl sizeOf27 rfl <| R.loadAgg C rfl rfl rfl isAgg27 sizeOf27 (by repeat (first | exact Mh | apply Mt)) (.take (.take .nil)) <| R.callP C rfl rfl rfl rfl (nearR_c hJ (b.ws[i]).s _) <| R.not C rfl rfl rfl <| Rm C rfl rfl <| R.fix (t := 71) rfl (fun hg2 => ?_) (fun hg2 => ?_)
            · have hg2 := hg2
              refine R.pass C rfl rfl <| R.pass C rfl rfl <| R.pass C rfl rfl <| R.pass C rfl rfl <| R.pickT C rfl rfl rfl rfl <| R.done C <| X.cond C.1 rfl (fun _ => ?_) (fun h => nomatch h)
              refine Xr C rfl rfl <| Ad C rfl rfl <| X.ret C rfl rfl func25 rfl (by exact (.tmp rfl .nil)) <| hret _ _ ?_ (by repeat (first | exact Sr | apply Sc))
              simp at hg2
              simp [hg2] at hr
              rw [hcc]
              simp [Bk.witnessesH, retVal, ← hr]; omega
            · have hg2 := hg2
              refine R.fieldAddr (off' := 2) C rfl rfl rfl runUnderlying58 rfl sizeOf3 rfl <| R.loadOne C rfl rfl rfl isAgg3 (by repeat (first | exact Mh | apply Mt)) rfl <| R.callP C rfl rfl rfl rfl (betweenR_c hJ _ _ _ _) <| R.not C rfl rfl rfl <| R.pickF C rfl rfl rfl rfl <| R.done C <| X.cond C.1 rfl (fun hd => ?_) (fun hd => ?_)
              · have hd := hd
                refine Xr C rfl rfl <| Ad C rfl rfl <| X.ret C rfl rfl func25 rfl (by exact (.tmp rfl .nil)) <| hret _ _ ?_ (by repeat (first | exact Sr | apply Sc))
                simp at hg2 hd
                simp [hg2, hd] at hr
                rw [hcc]
                simp [Bk.witnessesH, retVal, ← hr]; omega
              · have hd := hd
                refine X.skip C.1 <| Xr C rfl rfl <| R.loadAgg C rfl rfl rfl isAgg25 sizeOf25 (by repeat (first | exact Mh | apply Mt)) (.take (.take (.take (.take (.take .nil))))) <| R.fieldAddr (off' := 3) C rfl rfl rfl runUnderlying58 rfl sizeOf3 rfl <| R.loadOne C rfl rfl rfl isAgg3 (by repeat (first | exact Mh | apply Mt)) rfl <| R.callP C rfl rfl rfl rfl (isCompassR_c hJ hvv hs0 _) <| R.not C rfl rfl rfl <| R.done C <| X.cond C.1 rfl (fun hk => ?_) (fun hk => ?_)
                · have hk := hk
                  refine Xr C rfl rfl <| Ad C rfl rfl <| X.ret C rfl rfl func25 rfl (by exact (.tmp rfl .nil)) <| hret _ _ ?_ (by repeat (first | exact Sr | apply Sc))
                  simp at hg2 hd hk
                  simp [hg2, hd, there, hk] at hr
                  rw [hcc]
                  simp [Bk.witnessesH, retVal, ← hr]; omega
                · have hk := hk
                  refine X.skip C.1 <| X.inBlock C.1 <| X.region C rfl rfl <| Rm C rfl rfl <| R.int C rfl rfl rfl rfl (b_add (by omega) (by omega)) <| Ad C rfl rfl ?_
                  simp at hg2 hd hk
                  simp [hg2, hd, there, hk] at hr
                  refine X.weak C.1 (Weak.sub (List.sublist_cons_self _ _)) (X.weaken ?_ (hnext2 (i + 1) ⟨by omega, hr⟩ (by omega)))
                  exact ⟨rfl, by simp [look], trivial⟩
          · have hlt2 := hlt2
            simp only [decide_eq_false_iff_not] at hlt2
            obtain rfl : i = b.ws.length := by omega
            simp [wtsH] at hr
            refine X.exit C.1 rfl <| Xr C rfl rfl <| Ad C rfl rfl <| X.ret C rfl rfl func25 rfl (by exact (.tmp rfl .nil)) <| hret _ _ ?_ (by repeat (first | exact Sr | apply Sc))
            rw [hcc]
            simp [Bk.witnessesH, retVal, ← hr]; omega
  · have hone : b.chart = 1 := by
      simp only [Bk.chart] at hch ⊢
      split at hch
      · rename_i h; rw [if_pos h]
      · exact absurd rfl hch
    have hcc : checkChart b = 1 := by rw [checkChart, if_pos hch, hone]
    have hany : (!between b.w 2 7 || !between b.h 2 7 || !between b.f 0 2) = true := by
      simp only [Bk.chart] at hch
      split at hch
      · assumption
      · exact absurd rfl hch
    by_cases g1 : between b.w 2 7 = true
    · by_cases g2 : between b.h 2 7 = true
      · have g3 : between b.f 0 2 = false := by simpa [g1, g2] using hany
        refine CallP.intro hJ (by kernel_rfl) fun c cs tail hret => enter_X (n := 82) func25 rfl rfl (Nl rfl) ?_
        have C : Ctx prog main J (bf 25 .normal) := ⟨hJ, by decide⟩
        refine Xr C rfl rfl <| R.box C rfl rfl rfl rfl fun p1 => Ad C rfl rfl <| Xs C <| Xr C rfl rfl <| R.fieldAddr (off' := 0) C rfl rfl rfl runUnderlying25 rfl sizeOf3 rfl <| R.loadOne C rfl rfl rfl isAgg3 (by repeat (first | exact Mh | apply Mt)) rfl <| R.callP C rfl rfl rfl rfl (betweenR_c hJ _ _ _ _) <| R.not C rfl rfl rfl <| R.fixv (t := 10) (v' := .bool false) rfl (by (rw [g1]; rfl)) <| Rm C rfl rfl <| R.fieldAddr (off' := 1) C rfl rfl rfl runUnderlying25 rfl sizeOf3 rfl <| R.loadOne C rfl rfl rfl isAgg3 (by repeat (first | exact Mh | apply Mt)) rfl <| R.callP C rfl rfl rfl rfl (betweenR_c hJ _ _ _ _) <| R.not C rfl rfl rfl <| R.fixv (t := 15) (v' := .bool false) rfl (by (rw [g2]; rfl)) <| R.pickF C rfl rfl rfl rfl <| Rm C rfl rfl <| R.fieldAddr (off' := 2) C rfl rfl rfl runUnderlying25 rfl sizeOf3 rfl <| R.loadOne C rfl rfl rfl isAgg3 (by repeat (first | exact Mh | apply Mt)) rfl <| R.callP C rfl rfl rfl rfl (betweenR_c hJ _ _ _ _) <| R.not C rfl rfl rfl <| R.fixv (t := 21) (v' := .bool true) rfl (by (rw [g3]; rfl)) <| R.pickF C rfl rfl rfl rfl <| R.done C <| X.cond C.1 rfl (fun _ => ?_) (fun h => nomatch h)
        refine Xr C rfl rfl <| Ad C rfl rfl <| X.ret C rfl rfl func25 rfl (by exact (.tmp rfl .nil)) <| hret _ _ ?_ (by repeat (first | exact Sr | apply Sc))
        rw [hcc]; rfl
      · have g2 : between b.h 2 7 = false := by simpa using g2
        refine CallP.intro hJ (by kernel_rfl) fun c cs tail hret => enter_X (n := 82) func25 rfl rfl (Nl rfl) ?_
        have C : Ctx prog main J (bf 25 .normal) := ⟨hJ, by decide⟩
        refine Xr C rfl rfl <| R.box C rfl rfl rfl rfl fun p1 => Ad C rfl rfl <| Xs C <| Xr C rfl rfl <| R.fieldAddr (off' := 0) C rfl rfl rfl runUnderlying25 rfl sizeOf3 rfl <| R.loadOne C rfl rfl rfl isAgg3 (by repeat (first | exact Mh | apply Mt)) rfl <| R.callP C rfl rfl rfl rfl (betweenR_c hJ _ _ _ _) <| R.not C rfl rfl rfl <| R.fixv (t := 10) (v' := .bool false) rfl (by (rw [g1]; rfl)) <| Rm C rfl rfl <| R.fieldAddr (off' := 1) C rfl rfl rfl runUnderlying25 rfl sizeOf3 rfl <| R.loadOne C rfl rfl rfl isAgg3 (by repeat (first | exact Mh | apply Mt)) rfl <| R.callP C rfl rfl rfl rfl (betweenR_c hJ _ _ _ _) <| R.not C rfl rfl rfl <| R.fixv (t := 15) (v' := .bool true) rfl (by (rw [g2]; rfl)) <| R.pickF C rfl rfl rfl rfl <| Rm C rfl rfl <| R.pass C rfl rfl <| R.pass C rfl rfl <| R.pass C rfl rfl <| R.pass C rfl rfl <| R.pickT C rfl rfl rfl rfl <| R.done C <| X.cond C.1 rfl (fun _ => ?_) (fun h => nomatch h)
        refine Xr C rfl rfl <| Ad C rfl rfl <| X.ret C rfl rfl func25 rfl (by exact (.tmp rfl .nil)) <| hret _ _ ?_ (by repeat (first | exact Sr | apply Sc))
        rw [hcc]; rfl
    · have g1 : between b.w 2 7 = false := by simpa using g1
      refine CallP.intro hJ (by kernel_rfl) fun c cs tail hret => enter_X (n := 82) func25 rfl rfl (Nl rfl) ?_
      have C : Ctx prog main J (bf 25 .normal) := ⟨hJ, by decide⟩
      refine Xr C rfl rfl <| R.box C rfl rfl rfl rfl fun p1 => Ad C rfl rfl <| Xs C <| Xr C rfl rfl <| R.fieldAddr (off' := 0) C rfl rfl rfl runUnderlying25 rfl sizeOf3 rfl <| R.loadOne C rfl rfl rfl isAgg3 (by repeat (first | exact Mh | apply Mt)) rfl <| R.callP C rfl rfl rfl rfl (betweenR_c hJ _ _ _ _) <| R.not C rfl rfl rfl <| R.fixv (t := 10) (v' := .bool true) rfl (by (rw [g1]; rfl)) <| Rm C rfl rfl <| R.pass C rfl rfl <| R.pass C rfl rfl <| R.pass C rfl rfl <| R.pass C rfl rfl <| R.pickT C rfl rfl rfl rfl <| Rm C rfl rfl <| R.pass C rfl rfl <| R.pass C rfl rfl <| R.pass C rfl rfl <| R.pass C rfl rfl <| R.pickT C rfl rfl rfl rfl <| R.done C <| X.cond C.1 rfl (fun _ => ?_) (fun h => nomatch h)
      refine Xr C rfl rfl <| Ad C rfl rfl <| X.ret C rfl rfl func25 rfl (by exact (.tmp rfl .nil)) <| hret _ _ ?_ (by repeat (first | exact Sr | apply Sc))
      rw [hcc]; rfl
end
end Go.Lg.B
namespace Go.Lg.B
open Go Go.Conc Go.Lg Go.Proofs Go.Proofs.Tryz
theorem ic_at {l : List Int} {off : Nat} {ll : List Value} (hsub : ∀ i (hi : i < l.length), Sub (off + i * 1) 1 ll (ic l[i])) {i : Nat} (hi : i < l.length) : ll[off + i * 1]? = some (.int .i64 l[i]) := by
  have := (hsub i hi).get 0 (by decide)
  simpa [ic] using this
section
variable {main : Bool} {J : Goroutine → Mem → Prop} (hJ : Closed prog main J)
include hJ
theorem holdsR_c {v : Value} {ro : RO} {l : List Int} (hl : LsI ro v l) (hn : l.length ≤ 1000000) (n : Int) : CallP prog J (fnv 54) [v, .int .i64 n] ro (.bool (l.contains n)) := by
  obtain ⟨lb, lc, rfl⟩ := hl.form
  refine CallP.intro hJ (by kernel_rfl) fun c cs tail hret => enter_X (n := 18) func54 rfl rfl (Nl rfl) ?_
  have C : Ctx prog main J (bf 54 .normal) := ⟨hJ, by decide⟩
  refine Xr C rfl rfl <| Ad C rfl rfl <| Xs C <| Xr C rfl rfl <| Ad C rfl rfl <| X.block C.1 <| X.loopI (ι := Nat) C.1 (fun i => i ≤ l.length ∧ l.contains n = (l.drop i).contains n) (fun i => [(0, .slice lb l.length lc), (1, .int .i64 n), (5, .int .i64 (i : Int))])
    (fun _ => ⟨ro, tail⟩) (fun i => l.length - i) 0 ⟨Nat.zero_le _, rfl⟩ rfl ⟨rfl, rfl, rfl, trivial⟩ fun i hi hnext => ?_
  obtain ⟨hi, hr⟩ := hi
  refine Xs C <| Xr C rfl rfl <| Rm C rfl rfl <| Rm C rfl rfl <| R.lenSlice C rfl rfl rfl runUnderlying28 <| R.int C rfl rfl rfl rfl b_lss <| R.done C <| X.cond C.1 rfl (fun hlt => ?_) (fun hlt => ?_)
  · have hlt := hlt
    simp only [decide_eq_true_eq] at hlt
    have hi' : i < l.length := by omega
    obtain ⟨pp, off, cap, ll, t, fq, hsl, hrop, hsub⟩ := hl.at ic_len (by omega)
    cases hsl
    have hx := ic_at hsub hi'
    rw [List.drop_eq_getElem_cons hi', List.contains_cons] at hr
    refine X.skip C.1 <| Xs C <| X.block C.1 <| Xr C rfl rfl <| Rm C rfl rfl <| Rm C rfl rfl <| R.indexAddr C rfl rfl rfl rfl runUnderlying28 sizeOf3 (by omega) (by omega) <| R.loadOneRo C rfl rfl rfl isAgg3 hrop hx <| Rm C rfl rfl <| R.int C rfl rfl rfl rfl b_eql <| R.done C <| X.cond C.1 rfl (fun he => ?_) (fun he => ?_)
    · have he := he
      have he2 : l[i] = n := by simpa using he
      rw [he2, beq_self_eq_true, Bool.true_or] at hr
      refine Xr C rfl rfl <| Ad C rfl rfl <| X.ret C rfl rfl func54 rfl (by exact (.tmp rfl .nil)) <| hret _ _ ?_ (by repeat (first | exact Sr | apply Sc))
      rw [hr]; rfl
    · have he := he
      have he2 : l[i] ≠ n := by simpa using he
      rw [beq_eq_false_iff_ne.2 (Ne.symm he2), Bool.false_or] at hr
      refine X.skip C.1 <| X.inBlock C.1 <| X.region C rfl rfl <| Rm C rfl rfl <| R.int C rfl rfl rfl rfl (b_add (by omega) (by omega)) <| Ad C rfl rfl <| X.weaken ?_ (hnext (i + 1) ⟨hi', hr⟩ (by omega))
      exact ⟨rfl, rfl, by simp [look], trivial⟩
  · have hlt := hlt
    simp only [decide_eq_false_iff_not] at hlt
    obtain rfl : i = l.length := by omega
    rw [List.drop_length] at hr
    refine X.exit C.1 rfl <| Xr C rfl rfl <| Ad C rfl rfl <| X.ret C rfl rfl func54 rfl (by exact (.tmp rfl .nil)) <| hret _ _ ?_ (by repeat (first | exact Sr | apply Sc))
    rw [hr]; rfl
theorem climbsR_c {v : Value} {ro : RO} {l : List Int} (hl : LsI ro v l) (hn : l.length ≤ 1000000) {n : Int} (hb : 0 ≤ n ∧ n ≤ 1000000) : CallP prog J (fnv 69) [v, .int .i64 n] ro (.int .i64 (climbsH n none l)) := by
  obtain ⟨lb, lc, rfl⟩ := hl.form
  refine CallP.intro hJ (by kernel_rfl) fun c cs tail hret => enter_X (n := 34) func69 rfl rfl (Nl rfl) ?_
  have C : Ctx prog main J (bf 69 .normal) := ⟨hJ, by decide⟩
  refine Xr C rfl rfl <| Ad C rfl rfl <| Xs C <| Xr C rfl rfl <| Ad C rfl rfl <| X.block C.1 <| X.loopI (ι := Nat) C.1 (fun i => i ≤ l.length ∧ climbsH n none l = climbsH n (prev l i) (l.drop i)) (fun i => [(0, .slice lb l.length lc), (1, .int .i64 n), (5, .int .i64 (i : Int))])
    (fun _ => ⟨ro, tail⟩) (fun i => l.length - i) 0 ⟨Nat.zero_le _, rfl⟩ rfl ⟨rfl, rfl, rfl, trivial⟩ fun i hi hnext => ?_
  obtain ⟨hi, hr⟩ := hi
  refine Xs C <| Xr C rfl rfl <| Rm C rfl rfl <| Rm C rfl rfl <| R.lenSlice C rfl rfl rfl runUnderlying28 <| R.int C rfl rfl rfl rfl b_lss <| R.done C <| X.cond C.1 rfl (fun hlt => ?_) (fun hlt => ?_)
  · have hlt := hlt
    simp only [decide_eq_true_eq] at hlt
    have hi' : i < l.length := by omega
    obtain ⟨pp, off, cap, ll, t, fq, hsl, hrop, hsub⟩ := hl.at ic_len (by omega)
    cases hsl
    have hx := ic_at hsub hi'
    rw [List.drop_eq_getElem_cons hi', climbsH] at hr
    refine X.skip C.1 <| Xs C <| X.block C.1 <| Xs C <| Xr C rfl rfl <| Rm C rfl rfl <| Rm C rfl rfl <| R.indexAddr C rfl rfl rfl rfl runUnderlying28 sizeOf3 (by omega) (by omega) <| R.loadOneRo C rfl rfl rfl isAgg3 hrop hx <| Rm C rfl rfl <| R.int C rfl rfl rfl rfl (b_sub (by omega) (by omega)) <| R.callP C rfl rfl rfl rfl (betweenR_c hJ _ _ _ _) <| R.not C rfl rfl rfl <| R.done C <| X.cond C.1 rfl (fun hq => ?_) (fun hq => ?_)
    · have hq := hq
      have hq2 : between l[i] 0 (n - 1) = false := by simpa using hq
      rw [hq2] at hr
      refine Xr C rfl rfl <| Ad C rfl rfl <| X.ret C rfl rfl func69 rfl (by exact (.tmp rfl .nil)) <| hret _ _ ?_ (by repeat (first | exact Sr | apply Sc))
      rw [hr]; rfl
    · have hq := hq
      have hq2 : between l[i] 0 (n - 1) = true := by simpa using hq
      rw [hq2] at hr
      simp only [Bool.not_true, Bool.false_eq_true, if_false] at hr
      by_cases h0 : i = 0
      · subst h0
        simp only [prev, Option.any_none, Bool.false_eq_true, if_false] at hr
        refine X.skip C.1 <| Xs C <| X.regionD C (by kernel_rfl) (by kernel_rfl) (by kernel_rfl) fun hok => Dm C 0 hok rfl rfl rfl <| Di C 1 hok rfl rfl rfl rfl rfl b_gtr <| D.fixv (t := 21) (v' := .bool false) rfl (by rfl) <| Dm C 2 hok rfl rfl rfl <| Dp 3 (v := undef) hok (fun _ _ _ A h => R.pass C rfl (A.w rfl rfl) h) <| Dp 4 (v := undef) hok (fun _ _ _ A h => R.pass C rfl (A.w rfl rfl) h) <| Dp 5 (v := undef) hok (fun _ _ _ A h => R.pass C rfl (A.w rfl rfl) h) <| Dp 6 (v := undef) hok (fun _ _ _ A h => R.pass C rfl (A.w rfl rfl) h) <| Dp 7 (v := undef) hok (fun _ _ _ A h => R.pass C rfl (A.w rfl rfl) h) <| Dp 8 (v := undef) hok (fun _ _ _ A h => R.pass C rfl (A.w rfl rfl) h) <| Dp 9 (v := undef) hok (fun _ _ _ A h => R.pass C rfl (A.w rfl rfl) h) <| Dp 10 (v := undef) hok (fun _ _ _ A h => R.pass C rfl (A.w rfl rfl) h) <| Dp 11 (v := undef) hok (fun _ _ _ A h => R.pass C rfl (A.w rfl rfl) h) <| Dp 12 (v := undef) hok (fun _ _ _ A h => R.pass C rfl (A.w rfl rfl) h) <| Dp 13 hok (fun _ _ _ A h => R.pickF C rfl (A.w rfl rfl) (A.x rfl rfl) (A.x rfl rfl) h) <| D.done C hok (by kernel_rfl) <| X.cond C.1 rfl (fun h => nomatch h) (fun _ => ?_)
        refine X.skip C.1 <| X.inBlock C.1 <| X.region C rfl rfl <| Rm C rfl rfl <| R.int C rfl rfl rfl rfl (b_add (by omega) (by omega)) <| Ad C rfl rfl <| X.weaken ?_ (hnext 1 ⟨hi', by rw [hr]; simp [prev, hi']⟩ (by omega))
        exact ⟨rfl, rfl, by simp [look], trivial⟩
      · obtain ⟨k, rfl⟩ : ∃ k, i = k + 1 := ⟨i - 1, by omega⟩
        have hk : k < l.length := by omega
        have hxk : ll[off + ((k + 1 : Nat) - 1 : Int).toNat * 1]? = some (.int .i64 l[k]) := by
          have := ic_at hsub hk
          rw [show (((k + 1 : Nat) : Int) - 1).toNat = k by omega]; exact this
        simp only [prev, List.getElem?_eq_getElem hk, Option.any_some, decide_eq_true_eq] at hr
        refine X.skip C.1 <| Xs C <| X.regionD C (by kernel_rfl) (by kernel_rfl) (by kernel_rfl) fun hok => Dm C 0 hok rfl rfl rfl <| Di C 1 hok rfl rfl rfl rfl rfl b_gtr <| D.fixv (t := 21) (v' := .bool true) rfl (by (exact congrArg Value.bool (by simp))) <| Dm C 2 hok rfl rfl rfl <| Dm C 3 hok rfl rfl rfl <| Dm C 4 hok rfl rfl rfl <| Dp 5 hok (fun _ _ _ A h => R.indexAddr C rfl (A.w rfl rfl) (A.x rfl rfl) (A.x rfl rfl) runUnderlying28 sizeOf3 (by omega) (by omega) h) <| Dl 6 hok (fun _ _ A h => R.loadOneRo C rfl (A.w rfl rfl) (A.x rfl rfl) isAgg3 hrop hx h) <| Dm C 7 hok rfl rfl rfl <| Dm C 8 hok rfl rfl rfl <| Di C 9 hok rfl rfl rfl rfl rfl (b_sub (by omega) (by omega)) <| Dp 10 hok (fun _ _ _ A h => R.indexAddr C rfl (A.w rfl rfl) (A.x rfl rfl) (A.x rfl rfl) runUnderlying28 sizeOf3 (by omega) (by omega) h) <| Dl 11 hok (fun _ _ A h => R.loadOneRo C rfl (A.w rfl rfl) (A.x rfl rfl) isAgg3 hrop hxk h) <| Di C 12 hok rfl rfl rfl rfl rfl b_leq <| Dp 13 hok (fun _ _ _ A h => R.pickT C rfl (A.w rfl rfl) (A.x rfl rfl) (A.x rfl rfl) h) <| D.done C hok (by kernel_rfl) <| X.cond C.1 rfl (fun hle => ?_) (fun hle => ?_)
        · have hle := hle
          have hle2 : l[k + 1] ≤ l[k] := by simpa using hle
          rw [if_pos hle2] at hr
          refine Xr C rfl rfl <| Ad C rfl rfl <| X.ret C rfl rfl func69 rfl (by exact (.tmp rfl .nil)) <| hret _ _ ?_ (by repeat (first | exact Sr | apply Sc))
          rw [hr]; rfl
        · have hle := hle
          have hle2 : ¬ l[k + 1] ≤ l[k] := by simpa using hle
          rw [if_neg hle2] at hr
          refine X.skip C.1 <| X.inBlock C.1 <| X.region C rfl rfl <| Rm C rfl rfl <| R.int C rfl rfl rfl rfl (b_add (by omega) (by omega)) <| Ad C rfl rfl <| X.weaken ?_ (hnext (k + 1 + 1) ⟨hi', by rw [hr]; simp [prev, hi']⟩ (by omega))
          exact ⟨rfl, rfl, by simp [look], trivial⟩
  · have hlt := hlt
    simp only [decide_eq_false_iff_not] at hlt
    obtain rfl : i = l.length := by omega
    rw [List.drop_length, climbsH] at hr
    refine X.exit C.1 rfl <| Xr C rfl rfl <| Ad C rfl rfl <| X.ret C rfl rfl func69 rfl (by exact (.tmp rfl .nil)) <| hret _ _ ?_ (by repeat (first | exact Sr | apply Sc))
    rw [hr]; rfl
end
end Go.Lg.B
namespace Go.Lg.B
open Go Go.Conc Go.Lg Go.Proofs Go.Proofs.Tryz
theorem handed_climbs {b : Bk} {c : Cs} : (handed b c).2 = if b.square c.s ≠ 0 then b.square c.s else if c.o.length ≠ b.cs.length then 2 else if (c.o.any fun n => !between n (-3) 3) = true then 1 else climbsH b.ws.length none c.f := by
  unfold handed
  rw [← falls_climbs b c.f none 0]
  by_cases h1 : b.square c.s ≠ 0
  · simp [h1]
  · by_cases h2 : c.o.length ≠ b.cs.length
    · simp [h1, h2]
    · by_cases h3 : (c.o.any fun n => !between n (-3) 3) = true
      · simp [h1, h2, h3]
      · rw [if_neg h1, if_neg h2, if_neg h3, if_neg h1, if_neg h2, if_neg h3]
        by_cases h4 : (falls b none 0 c.f).2 = 0
        · simp [h4]
        · simp [h4]
section
variable {main : Bool} {J : Goroutine → Mem → Prop} (hJ : Closed prog main J)
include hJ
theorem checkCaseR_c {b : Bk} {c0 : Cs} {v vk : Value} {ro : RO} (hv : BkV ro v b) (hb : b.good) (hk : CsV ro vk c0) (hk2 : c0.short) : CallP prog J (fnv 87) [v, vk] ro (.int .i64 (handed b c0).2) := by
  have hvv := hv
  have hsm := hb.small
  obtain ⟨vc, vw, rfl, hc, hw⟩ := hv
  obtain ⟨cb, cc, rfl⟩ := hc.form
  obtain ⟨wb, wc, rfl⟩ := hw.form
  obtain ⟨vo, vf, rfl, ho, hf⟩ := hk
  obtain ⟨ob, oc, rfl⟩ := ho.form
  obtain ⟨fb, fc, rfl⟩ := hf.form
  obtain ⟨hk1, hk2⟩ := hk2
  have hnc := hb.nc
  have hnw := hb.nw
  have hsq : b.square c0.s = there (between c0.s.e 0 (b.w - 1) && between c0.s.n 0 (b.h - 1)) := rfl
  refine CallP.intro hJ (by kernel_rfl) fun c cs tail hret => enter_X (n := 38) func87 rfl rfl (Nl rfl) ?_
  have C : Ctx prog main J (bf 87 .normal) := ⟨hJ, by decide⟩
  refine Xr C rfl rfl <| R.box C rfl rfl rfl rfl fun p2 => R.box C rfl rfl rfl rfl fun p3 => Ad C rfl rfl <| Xs C <| Xr C rfl rfl <| R.loadAgg C rfl rfl rfl isAgg25 sizeOf25 (by repeat (first | exact Mh | apply Mt)) (.take (.take (.take (.take (.take .nil))))) <| R.fieldAddr (off' := 0) C rfl rfl rfl runUnderlying30 rfl sizeOf27 rfl <| R.loadAgg C rfl rfl rfl isAgg27 sizeOf27 (by repeat (first | exact Mh | apply Mt)) (.take (.take .nil)) <| R.callP C rfl rfl rfl rfl (onChartR_c hJ hvv hsm c0.s) <| R.not C rfl rfl rfl <| R.done C <| X.cond C.1 rfl (fun hq => ?_) (fun hq => ?_)
  · have hq := hq
    simp only [Bool.not_eq_true'] at hq
    refine Xr C rfl rfl <| Ad C rfl rfl <| X.ret C rfl rfl func87 rfl (by exact (.tmp rfl .nil)) <| hret _ _ ?_ (by repeat (first | exact Sr | apply Sc))
    rw [handed_climbs, hsq, hq]; rfl
  · have hq := hq
    simp only [Bool.not_eq_false'] at hq
    refine X.skip C.1 <| Xs C <| Xr C rfl rfl <| R.fieldAddr (off' := 2) C rfl rfl rfl runUnderlying30 rfl sizeOf28 rfl <| R.loadOne C rfl rfl rfl isAgg28 (by repeat (first | exact Mh | apply Mt)) rfl <| R.lenSlice C rfl rfl rfl runUnderlying28 <| R.fieldAddr (off' := 3) C rfl rfl rfl runUnderlying25 rfl sizeOf22 rfl <| R.loadOne C rfl rfl rfl isAgg22 (by repeat (first | exact Mh | apply Mt)) rfl <| R.lenSlice C rfl rfl rfl runUnderlying22 <| R.int C rfl rfl rfl rfl b_neq <| R.done C <| X.cond C.1 rfl (fun hn => ?_) (fun hn => ?_)
    · have hn := hn
      simp at hn
      refine Xr C rfl rfl <| Ad C rfl rfl <| X.ret C rfl rfl func87 rfl (by exact (.tmp rfl .nil)) <| hret _ _ ?_ (by repeat (first | exact Sr | apply Sc))
      rw [handed_climbs, hsq, hq, if_neg (by simp [there]), if_pos (by omega)]; rfl
    · have hn := hn
      simp at hn
      have hlen : c0.o.length = b.cs.length := by omega
      refine X.skip C.1 <| Xs C <| Xr C rfl rfl <| Ad C rfl rfl <| X.block C.1 <| X.loopI (ι := Nat) C.1 (fun i => i ≤ c0.o.length ∧ (c0.o.any fun n => !between n (-3) 3) = ((c0.o.drop i).any fun n => !between n (-3) 3)) (fun i => [(2, .pointer (some ⟨p2, 0, none⟩)), (3, .pointer (some ⟨p3, 0, none⟩)), (5, .int .i64 (i : Int))])
        (fun _ => ⟨ro, (p3, .cells [.int .i64 c0.s.e, .int .i64 c0.s.n, .slice ob c0.o.length oc, .slice fb c0.f.length fc].toArray 30 (0, 0)) :: (p2, .cells [.int .i64 b.w, .int .i64 b.h, .int .i64 b.f, .slice cb b.cs.length cc, .slice wb b.ws.length wc].toArray 25 (0, 0)) :: tail⟩) (fun i => c0.o.length - i) 0 ⟨Nat.zero_le _, rfl⟩ rfl ⟨rfl, rfl, rfl, trivial⟩ fun i hi hnext => ?_
      obtain ⟨hi, hr⟩ := hi
      refine Xs C <| Xr C rfl rfl <| Rm C rfl rfl <| R.fieldAddr (off' := 2) C rfl rfl rfl runUnderlying30 rfl sizeOf28 rfl <| R.loadOne C rfl rfl rfl isAgg28 (by repeat (first | exact Mh | apply Mt)) rfl <| R.lenSlice C rfl rfl rfl runUnderlying28 <| R.int C rfl rfl rfl rfl b_lss <| R.done C <| X.cond C.1 rfl (fun hlt => ?_) (fun hlt => ?_)
      · have hlt := hlt
        simp only [decide_eq_true_eq] at hlt
        have hi' : i < c0.o.length := by omega
        obtain ⟨pp, off, cap, ll, t, fq, hsl, hrop, hsub⟩ := ho.at ic_len (by omega)
        cases hsl
        have hx := ic_at hsub hi'
        rw [List.drop_eq_getElem_cons hi', List.any_cons] at hr
        refine X.skip C.1 <| Xs C <| X.block C.1 <| Xr C rfl rfl <| R.fieldAddr (off' := 2) C rfl rfl rfl runUnderlying30 rfl sizeOf28 rfl <| R.loadOne C rfl rfl rfl isAgg28 (by repeat (first | exact Mh | apply Mt)) rfl <| Rm C rfl rfl <| R.indexAddr C rfl rfl rfl rfl runUnderlying28 sizeOf3 (by omega) (by omega) <| R.loadOneRo C rfl rfl rfl isAgg3 hrop hx <| R.callP C rfl rfl rfl rfl (betweenR_c hJ _ _ _ _) <| R.not C rfl rfl rfl <| R.done C <| X.cond C.1 rfl (fun hb2 => ?_) (fun hb2 => ?_)
        · have hb2 := hb2
          rw [hb2, Bool.true_or] at hr
          refine Xr C rfl rfl <| Ad C rfl rfl <| X.ret C rfl rfl func87 rfl (by exact (.tmp rfl .nil)) <| hret _ _ ?_ (by repeat (first | exact Sr | apply Sc))
          rw [handed_climbs, hsq, hq, if_neg (by simp [there]), if_neg (by omega), if_pos hr]; rfl
        · have hb2 := hb2
          rw [hb2, Bool.false_or] at hr
          refine X.skip C.1 <| X.inBlock C.1 <| X.region C rfl rfl <| Rm C rfl rfl <| R.int C rfl rfl rfl rfl (b_add (by omega) (by omega)) <| Ad C rfl rfl <| X.weaken ?_ (hnext (i + 1) ⟨hi', hr⟩ (by omega))
          exact ⟨rfl, rfl, by simp [look], trivial⟩
      · have hlt := hlt
        simp only [decide_eq_false_iff_not] at hlt
        obtain rfl : i = c0.o.length := by omega
        rw [List.drop_length] at hr
        refine X.exit C.1 rfl <| Xr C rfl rfl <| R.fieldAddr (off' := 3) C rfl rfl rfl runUnderlying30 rfl sizeOf28 rfl <| R.loadOne C rfl rfl rfl isAgg28 (by repeat (first | exact Mh | apply Mt)) rfl <| R.fieldAddr (off' := 4) C rfl rfl rfl runUnderlying25 rfl sizeOf23 rfl <| R.loadOne C rfl rfl rfl isAgg23 (by repeat (first | exact Mh | apply Mt)) rfl <| R.lenSlice C rfl rfl rfl runUnderlying23 <| R.callP C rfl rfl rfl rfl (climbsR_c hJ hf (by omega) ⟨by omega, by omega⟩) <| Ad C rfl rfl <| X.ret C rfl rfl func87 rfl (by exact (.tmp rfl .nil)) <| hret _ _ ?_ (by repeat (first | exact Sr | apply Sc))
        rw [handed_climbs, hsq, hq, if_neg (by simp [there]), if_neg (by omega), if_neg (by rw [hr]; simp)]; rfl
theorem rightOfR_c (w : Wt) (s : Sq) (o : Int) (hw : w.s.ok) (hs : s.ok) (ho : -3 ≤ o ∧ o ≤ 3) (ro : RO) : CallP prog J (fnv 155) [w.val, s.val, .int .i64 o] ro (.bool (decide (w.s = s) || ((bearing w.s s + o + 8) % 8 == w.b))) := by
  have hr := bearing_range w.s s
  unfold Sq.ok at hw hs
  refine CallP.intro hJ (by kernel_rfl) fun c cs tail hret => enter_X (n := 31) func155 rfl rfl (Nl rfl) ?_
  have C : Ctx prog main J (bf 155 .normal) := ⟨hJ, by decide⟩
  refine Xr C rfl rfl <| R.box C rfl rfl rfl rfl fun p3 => R.box C rfl rfl rfl rfl fun p4 => Ad C rfl rfl <| Xs C <| Xr C rfl rfl <| R.fieldAddr (off' := 0) C rfl rfl rfl runUnderlying58 rfl sizeOf27 rfl <| R.loadAgg C rfl rfl rfl isAgg27 sizeOf27 (by repeat (first | exact Mh | apply Mt)) (.take (.take .nil)) <| R.loadAgg C rfl rfl rfl isAgg27 sizeOf27 (by repeat (first | exact Mh | apply Mt)) (.take (.take .nil)) <| R.eqAgg (p := [w.s.e, w.s.n]) (q := [s.e, s.n]) C rfl rfl rfl rfl eqT27 rfl rfl (by kernel_rfl) <| R.done C <| X.cond C.1 rfl (fun heq => ?_) (fun heq => ?_)
  · have heq := heq
    refine Xr C rfl rfl <| Ad C rfl rfl <| X.ret C rfl rfl func155 rfl (by exact (.tmp rfl .nil)) <| hret _ _ ?_ (by repeat (first | exact Sr | apply Sc))
    obtain ⟨se, sn⟩ := s; obtain ⟨⟨we, wn⟩, wb, wk, wsu⟩ := w
    simp_all [retVal]
  · have heq := heq
    refine X.skip C.1 <| Xs C <| X.regionD C (by kernel_rfl) (by kernel_rfl) (by kernel_rfl) fun hok => Df (off' := 0) C 0 hok rfl rfl rfl runUnderlying27 rfl sizeOf3 rfl <| Dl 1 hok (fun _ _ A h => R.loadOne C rfl (A.w rfl rfl) (A.x rfl rfl) isAgg3 (by repeat (first | exact Mh | apply Mt)) rfl h) <| Df (off' := 0) C 2 hok rfl rfl rfl runUnderlying58 rfl sizeOf27 rfl <| Df (off' := 0) C 3 hok rfl rfl rfl runUnderlying27 rfl sizeOf3 rfl <| Dl 4 hok (fun _ _ A h => R.loadOne C rfl (A.w rfl rfl) (A.x rfl rfl) isAgg3 (by repeat (first | exact Mh | apply Mt)) rfl h) <| Di C 5 hok rfl rfl rfl rfl rfl (b_sub (by omega) (by omega)) <| Df (off' := 1) C 6 hok rfl rfl rfl runUnderlying27 rfl sizeOf3 rfl <| Dl 7 hok (fun _ _ A h => R.loadOne C rfl (A.w rfl rfl) (A.x rfl rfl) isAgg3 (by repeat (first | exact Mh | apply Mt)) rfl h) <| Df (off' := 0) C 8 hok rfl rfl rfl runUnderlying58 rfl sizeOf27 rfl <| Df (off' := 1) C 9 hok rfl rfl rfl runUnderlying27 rfl sizeOf3 rfl <| Dl 10 hok (fun _ _ A h => R.loadOne C rfl (A.w rfl rfl) (A.x rfl rfl) isAgg3 (by repeat (first | exact Mh | apply Mt)) rfl h) <| Di C 11 hok rfl rfl rfl rfl rfl (b_sub (by omega) (by omega)) <| Dm C 13 hok rfl rfl rfl <| Df (off' := 2) C 17 hok rfl rfl rfl runUnderlying58 rfl sizeOf3 rfl <| Dl 18 hok (fun _ _ A h => R.loadOne C rfl (A.w rfl rfl) (A.x rfl rfl) isAgg3 (by repeat (first | exact Mh | apply Mt)) rfl h) <| D.eP (i := 12) (dst := (some 23)) [true, false, false, false, false] hok rfl (by kernel_rfl) (by kernel_rfl) (fun σr rest A hk => ?_)
    refine R.callP C rfl (A.w rfl rfl) (A.x rfl rfl) (A.s rfl rfl) (trueOfR_c hJ _ _ (by omega) (by omega) _) (hk _ _ ⟨(QFs.cons (QF.of rfl (fun _ _ A h => R.loadOne C rfl (A.w rfl rfl) (A.x rfl rfl) isAgg3 (by repeat (first | exact Mh | apply Mt)) rfl h)) QFs.nil), ?_⟩)
    refine D.fixv (t := 23) (v' := .int .i64 (bearing w.s s)) rfl (by (exact congrArg (Value.int .i64) (trueOf_bearing w.s s))) <| Di C 14 hok rfl rfl rfl rfl rfl (b_add (by omega) (by omega)) <| Di C 15 hok rfl rfl rfl rfl rfl (b_add (by omega) (by omega)) <| Di C 16 hok rfl rfl rfl rfl rfl (b_remP (by omega) (by omega)) <| Di C 19 hok rfl rfl rfl rfl rfl b_eql <| Dp 20 hok (fun _ _ _ A h => R.asg C rfl (A.w rfl rfl) (A.x rfl rfl) h) <| D.done C hok (by kernel_rfl) <| X.ret C rfl rfl func155 rfl (by exact (.tmp rfl .nil)) <| hret _ _ ?_ (by repeat (first | exact Sr | apply Sc))
    obtain ⟨se, sn⟩ := s; obtain ⟨⟨we, wn⟩, wb, wk, wsu⟩ := w
    simp_all [retVal]
theorem sureOnesR_c {b : Bk} {v vl : Value} {ro : RO} {l : List Int} (hv : BkV ro v b) (hl : LsI ro vl l) (hn : l.length ≤ 1000000) (hr0 : ∀ k ∈ l, 0 ≤ k ∧ k < b.ws.length) : CallP prog J (fnv 88) [v, vl] ro (.bool (l.any fun k => (b.wt k.toNat).sure)) := by
  obtain ⟨vc, vw, rfl, hc, hw⟩ := hv
  obtain ⟨wb, wc, rfl⟩ := hw.form
  obtain ⟨lb, lc, rfl⟩ := hl.form
  refine CallP.intro hJ (by kernel_rfl) fun c cs tail hret => enter_X (n := 21) func88 rfl rfl (Nl rfl) ?_
  have C : Ctx prog main J (bf 88 .normal) := ⟨hJ, by decide⟩
  refine Xr C rfl rfl <| R.box C rfl rfl rfl rfl fun p2 => Ad C rfl rfl <| Xs C <| Xr C rfl rfl <| Ad C rfl rfl <| X.block C.1 <| X.loopI (ι := Nat) C.1 (fun i => i ≤ l.length ∧ (l.any fun k => (b.wt k.toNat).sure) = ((l.drop i).any fun k => (b.wt k.toNat).sure)) (fun i => [(1, .slice lb l.length lc), (2, .pointer (some ⟨p2, 0, none⟩)), (5, .int .i64 (i : Int))])
    (fun _ => ⟨ro, (p2, .cells [.int .i64 b.w, .int .i64 b.h, .int .i64 b.f, vc, .slice wb b.ws.length wc].toArray 25 (0, 0)) :: tail⟩) (fun i => l.length - i) 0 ⟨Nat.zero_le _, rfl⟩ rfl ⟨rfl, rfl, rfl, trivial⟩ fun i hi hnext => ?_
  obtain ⟨hi, hr⟩ := hi
  refine Xs C <| Xr C rfl rfl <| Rm C rfl rfl <| Rm C rfl rfl <| R.lenSlice C rfl rfl rfl runUnderlying28 <| R.int C rfl rfl rfl rfl b_lss <| R.done C <| X.cond C.1 rfl (fun hlt => ?_) (fun hlt => ?_)
  · have hlt := hlt
    simp only [decide_eq_true_eq] at hlt
    have hi' : i < l.length := by omega
    obtain ⟨pp, off, cap, ll, t, fq, hsl, hrop, hsub⟩ := hl.at ic_len (by omega)
    cases hsl
    have hx := ic_at hsub hi'
    rw [List.drop_eq_getElem_cons hi', List.any_cons] at hr
    obtain ⟨hk1, hk2⟩ := hr0 l[i] (List.getElem_mem hi')
    obtain ⟨pw, offw, capw, llw, tw, fqw, hslw, hropw, hsubw⟩ := hw.at Wt.len (by omega)
    cases hslw
    have hxw : llw[offw + (l[i]).toNat * 5 + 4]? = some (.bool (b.wt (l[i]).toNat).sure) := by
      have h1 : (l[i]).toNat < b.ws.length := by omega
      have := (hsubw _ h1).get 4 (by decide)
      rw [Bk.wt_get h1] at this
      simpa [Wt.cells] using this
    refine X.skip C.1 <| Xs C <| X.block C.1 <| Xs C <| X.regionD C (by kernel_rfl) (by kernel_rfl) (by kernel_rfl) fun hok => Df (off' := 4) C 0 hok rfl rfl rfl runUnderlying25 rfl sizeOf23 rfl <| Dl 1 hok (fun _ _ A h => R.loadOne C rfl (A.w rfl rfl) (A.x rfl rfl) isAgg23 (by repeat (first | exact Mh | apply Mt)) rfl h) <| Dm C 2 hok rfl rfl rfl <| Dm C 3 hok rfl rfl rfl <| Dp 4 hok (fun _ _ _ A h => R.indexAddr C rfl (A.w rfl rfl) (A.x rfl rfl) (A.x rfl rfl) runUnderlying28 sizeOf3 (by omega) (by omega) h) <| Dl 5 hok (fun _ _ A h => R.loadOneRo C rfl (A.w rfl rfl) (A.x rfl rfl) isAgg3 hrop hx h) <| Dp 6 hok (fun _ _ _ A h => R.indexAddr C rfl (A.w rfl rfl) (A.x rfl rfl) (A.x rfl rfl) runUnderlying23 sizeOf58 hk1 hk2 h) <| Df C 7 hok rfl rfl rfl runUnderlying58 rfl sizeOf4 rfl <| Dl 8 hok (fun _ _ A h => R.loadOneRo C rfl (A.w rfl rfl) (A.x rfl rfl) isAgg4 hropw hxw h) <| D.done C hok (by kernel_rfl) <| X.cond C.1 rfl (fun hs => ?_) (fun hs => ?_)
    · have hs := hs
      rw [hs, Bool.true_or] at hr
      refine Xr C rfl rfl <| Ad C rfl rfl <| X.ret C rfl rfl func88 rfl (by exact (.tmp rfl .nil)) <| hret _ _ ?_ (by repeat (first | exact Sr | apply Sc))
      rw [hr]; rfl
    · have hs := hs
      rw [hs, Bool.false_or] at hr
      refine X.skip C.1 <| X.inBlock C.1 <| X.region C rfl rfl <| Rm C rfl rfl <| R.int C rfl rfl rfl rfl (b_add (by omega) (by omega)) <| Ad C rfl rfl <| X.weaken ?_ (hnext (i + 1) ⟨hi', hr⟩ (by omega))
      exact ⟨rfl, rfl, by simp [look], trivial⟩
  · have hlt := hlt
    simp only [decide_eq_false_iff_not] at hlt
    obtain rfl : i = l.length := by omega
    rw [List.drop_length] at hr
    refine X.exit C.1 rfl <| Xr C rfl rfl <| Ad C rfl rfl <| X.ret C rfl rfl func88 rfl (by exact (.tmp rfl .nil)) <| hret _ _ ?_ (by repeat (first | exact Sr | apply Sc))
    rw [hr]; rfl
end
end Go.Lg.B
namespace Go.Lg.B
open Go Go.Conc Go.Lg Go.Proofs Go.Proofs.Tryz
theorem all_range_succ (p : Nat → Bool) (n i : Nat) (h : i < n) : ((List.range n).drop i).all p = (p i && ((List.range n).drop (i + 1)).all p) := by
  rw [List.drop_eq_getElem_cons (by simpa using h), List.all_cons]
  simp
def rightIn (b : Bk) (c : Cs) (i : Nat) : Bool := c.f.contains (i : Int) || right (b.wt i) c.aim
section
variable {main : Bool} {J : Goroutine → Mem → Prop} (hJ : Closed prog main J)
include hJ
theorem allRightR_c {b : Bk} {c0 : Cs} {v vk : Value} {ro : RO} (hv : BkV ro v b) (hb : b.good) (hk : CsV ro vk c0) (hk2 : c0.short) (hs : c0.s.ok) (hlen : c0.o.length = b.cs.length) (hof : ∀ n ∈ c0.o, -3 ≤ n ∧ n ≤ 3) : CallP prog J (fnv 89) [v, vk] ro (.bool ((List.range b.ws.length).all fun i => c0.f.contains (i : Int) || right (b.wt i) c0.aim)) := by
  have hnc := hb.nc
  have hnw := hb.nw
  have hws := hb.ws
  obtain ⟨vc, vw, rfl, hc, hw⟩ := hv
  obtain ⟨wb, wc, rfl⟩ := hw.form
  obtain ⟨vo, vf, rfl, ho, hf⟩ := hk
  obtain ⟨ob, oc, rfl⟩ := ho.form
  obtain ⟨fb, fc, rfl⟩ := hf.form
  obtain ⟨hk1, hk2⟩ := hk2
  refine CallP.intro hJ (by kernel_rfl) fun c cs tail hret => enter_X (n := 37) func89 rfl rfl (Nl rfl) ?_
  have C : Ctx prog main J (bf 89 .normal) := ⟨hJ, by decide⟩
  refine Xr C rfl rfl <| R.box C rfl rfl rfl rfl fun p2 => R.box C rfl rfl rfl rfl fun p3 => Ad C rfl rfl <| Xs C <| Xr C rfl rfl <| Ad C rfl rfl <| X.block C.1 <| X.loopI (ι := Nat) C.1 (fun i => i ≤ b.ws.length ∧ (List.range b.ws.length).all (rightIn b c0) = ((List.range b.ws.length).drop i).all (rightIn b c0)) (fun i => [(2, .pointer (some ⟨p2, 0, none⟩)), (3, .pointer (some ⟨p3, 0, none⟩)), (5, .int .i64 (i : Int))])
    (fun _ => ⟨ro, (p3, .cells [.int .i64 c0.s.e, .int .i64 c0.s.n, .slice ob c0.o.length oc, .slice fb c0.f.length fc].toArray 30 (0, 0)) :: (p2, .cells [.int .i64 b.w, .int .i64 b.h, .int .i64 b.f, vc, .slice wb b.ws.length wc].toArray 25 (0, 0)) :: tail⟩) (fun i => b.ws.length - i) 0 ⟨Nat.zero_le _, rfl⟩ rfl ⟨rfl, rfl, rfl, trivial⟩ fun i hi hnext => ?_
  obtain ⟨hi, hr⟩ := hi
  refine Xs C <| Xr C rfl rfl <| Rm C rfl rfl <| R.fieldAddr (off' := 4) C rfl rfl rfl runUnderlying25 rfl sizeOf23 rfl <| R.loadOne C rfl rfl rfl isAgg23 (by repeat (first | exact Mh | apply Mt)) rfl <| R.lenSlice C rfl rfl rfl runUnderlying23 <| R.int C rfl rfl rfl rfl b_lss <| R.done C <| X.cond C.1 rfl (fun hlt => ?_) (fun hlt => ?_)
  · have hlt := hlt
    simp only [decide_eq_true_eq] at hlt
    have hi' : i < b.ws.length := by omega
    rw [all_range_succ _ _ _ hi'] at hr
    obtain ⟨pw, offw, capw, llw, tw, fqw, hslw, hropw, hsubw⟩ := hw.at Wt.len (by omega)
    cases hslw
    have hwi := hsubw i hi'
    obtain ⟨hwok, _, hk0, hk3⟩ := Wt.fine.ok (hws _ (List.getElem_mem hi'))
    rw [Bk.wt_get hi'] at hwi hwok hk0 hk3
    generalize hW : b.wt i = W at hwi hwok hk0 hk3
    have hkl : W.k.toNat < c0.o.length := by omega
    obtain ⟨po, offo, capo, llo, to, fqo, hslo, hropo, hsubo⟩ := ho.at ic_len (by omega)
    cases hslo
    have hxo : llo[offo + W.k.toNat * 1]? = some (.int .i64 (c0.o[W.k.toNat])) := ic_at hsubo hkl
    have hoff : c0.aim.off W.k = c0.o[W.k.toNat] := by
      have h3 : W.k = 0 ∨ W.k = 1 ∨ W.k = 2 := by omega
      rcases h3 with h | h | h <;> simp only [h, Aim.off, Cs.aim] <;> simp [List.getD_eq_getElem?_getD] <;> (rw [h] at hkl; simp at hkl; simp [hkl])
    have hoff3 := hof _ (List.getElem_mem hkl)
    by_cases hh : c0.f.contains (i : Int) = true
    · have hri : rightIn b c0 i = true := by rw [rightIn, hh]; rfl
      refine X.skip C.1 <| Xs C <| X.block C.1 <| Xr C rfl rfl <| R.fieldAddr (off' := 4) C rfl rfl rfl runUnderlying25 rfl sizeOf23 rfl <| R.loadOne C rfl rfl rfl isAgg23 (by repeat (first | exact Mh | apply Mt)) rfl <| Rm C rfl rfl <| R.indexAddr C rfl rfl rfl rfl runUnderlying23 sizeOf58 (by omega) (by omega) <| R.loadAggRo C rfl rfl rfl isAgg58 sizeOf58 hropw hwi <| R.alloc C rfl rfl zeroValue58 rfl fun p6 => R.store C rfl rfl rfl rfl sizeOf58 rfl rfl rfl (by repeat (first | exact Uh | apply Ut)) (.here (.here (.here (.here (.here .nil))))) <| R.done C <| Xs C <| X.regionD C (by kernel_rfl) (by kernel_rfl) (by kernel_rfl) fun hok => Df (off' := 3) C 0 hok rfl rfl rfl runUnderlying30 rfl sizeOf28 rfl <| Dl 1 hok (fun _ _ A h => R.loadOne C rfl (A.w rfl rfl) (A.x rfl rfl) isAgg28 (by repeat (first | exact Mh | apply Mt)) rfl h) <| Dm C 2 hok rfl rfl rfl <| D.eP (i := 3) (dst := (some 22)) [false] hok rfl (by kernel_rfl) (by kernel_rfl) (fun σr rest A hk => ?_)
      refine R.callP C rfl (A.w rfl rfl) (A.x rfl rfl) (A.s rfl rfl) (holdsR_c hJ hf (by omega) _) (hk _ _ ⟨QFs.nil, ?_⟩)
      refine Dp 4 hok (fun _ _ _ A h => R.not C rfl (A.w rfl rfl) (A.x rfl rfl) h) <| D.fixv (t := 23) (v' := .bool false) rfl (by (rw [hh]; rfl)) <| Dm C 5 hok rfl rfl rfl <| Dp 6 (v := undef) hok (fun _ _ _ A h => R.pass C rfl (A.w rfl rfl) h) <| Dp 7 (v := undef) hok (fun _ _ _ A h => R.pass C rfl (A.w rfl rfl) h) <| Dp 8 (v := undef) hok (fun _ _ _ A h => R.pass C rfl (A.w rfl rfl) h) <| Dp 9 (v := undef) hok (fun _ _ _ A h => R.pass C rfl (A.w rfl rfl) h) <| Dp 10 (v := undef) hok (fun _ _ _ A h => R.pass C rfl (A.w rfl rfl) h) <| Dp 11 (v := undef) hok (fun _ _ _ A h => R.pass C rfl (A.w rfl rfl) h) <| Dp 12 (v := undef) hok (fun _ _ _ A h => R.pass C rfl (A.w rfl rfl) h) <| Dp 13 (v := undef) hok (fun _ _ _ A h => R.pass C rfl (A.w rfl rfl) h) <| Dp 14 (v := undef) hok (fun _ _ _ A h => R.pass C rfl (A.w rfl rfl) h) <| Dp 15 (v := undef) hok (fun _ _ _ A h => R.pass C rfl (A.w rfl rfl) h) <| Dp 16 (v := undef) hok (fun _ _ _ A h => R.pass C rfl (A.w rfl rfl) h) <| Dp 17 hok (fun _ _ _ A h => R.pickF C rfl (A.w rfl rfl) (A.x rfl rfl) (A.x rfl rfl) h) <| D.done C hok (by kernel_rfl) <| X.cond C.1 rfl (fun h => nomatch h) (fun _ => ?_)
      refine X.skip C.1 <| X.inBlock C.1 <| X.region C rfl rfl <| Rm C rfl rfl <| R.int C rfl rfl rfl rfl (b_add (by omega) (by omega)) <| Ad C rfl rfl ?_
      rw [hri, Bool.true_and] at hr
      refine X.weak C.1 (Weak.sub (List.sublist_cons_self _ _)) (X.weaken ?_ (hnext (i + 1) ⟨hi', hr⟩ (by omega)))
      exact ⟨rfl, rfl, by simp [look], trivial⟩
    · have hh2 : c0.f.contains (i : Int) = false := by simpa using hh
      refine X.skip C.1 <| Xs C <| X.block C.1 <| Xr C rfl rfl <| R.fieldAddr (off' := 4) C rfl rfl rfl runUnderlying25 rfl sizeOf23 rfl <| R.loadOne C rfl rfl rfl isAgg23 (by repeat (first | exact Mh | apply Mt)) rfl <| Rm C rfl rfl <| R.indexAddr C rfl rfl rfl rfl runUnderlying23 sizeOf58 (by omega) (by omega) <| R.loadAggRo C rfl rfl rfl isAgg58 sizeOf58 hropw hwi <| R.alloc C rfl rfl zeroValue58 rfl fun p6 => R.store C rfl rfl rfl rfl sizeOf58 rfl rfl rfl (by repeat (first | exact Uh | apply Ut)) (.here (.here (.here (.here (.here .nil))))) <| R.done C <| Xs C <| X.regionD C (by kernel_rfl) (by kernel_rfl) (by kernel_rfl) fun hok => Df (off' := 3) C 0 hok rfl rfl rfl runUnderlying30 rfl sizeOf28 rfl <| Dl 1 hok (fun _ _ A h => R.loadOne C rfl (A.w rfl rfl) (A.x rfl rfl) isAgg28 (by repeat (first | exact Mh | apply Mt)) rfl h) <| Dm C 2 hok rfl rfl rfl <| D.eP (i := 3) (dst := (some 22)) [false] hok rfl (by kernel_rfl) (by kernel_rfl) (fun σr rest A hk => ?_)
      refine R.callP C rfl (A.w rfl rfl) (A.x rfl rfl) (A.s rfl rfl) (holdsR_c hJ hf (by omega) _) (hk _ _ ⟨QFs.nil, ?_⟩)
      refine Dp 4 hok (fun _ _ _ A h => R.not C rfl (A.w rfl rfl) (A.x rfl rfl) h) <| D.fixv (t := 23) (v' := .bool true) rfl (by (rw [hh2]; rfl)) <| Dm C 5 hok rfl rfl rfl <| Dl 6 hok (fun _ _ A h => R.loadAgg C rfl (A.w rfl rfl) (A.x rfl rfl) isAgg58 sizeOf58 (by repeat (first | exact Mh | apply Mt)) (.take (.take (.take (.take (.take .nil))))) h) <| Df (off' := 0) C 7 hok rfl rfl rfl runUnderlying30 rfl sizeOf27 rfl <| Dl 8 hok (fun _ _ A h => R.loadAgg C rfl (A.w rfl rfl) (A.x rfl rfl) isAgg27 sizeOf27 (by repeat (first | exact Mh | apply Mt)) (.take (.take .nil)) h) <| Df (off' := 2) C 9 hok rfl rfl rfl runUnderlying30 rfl sizeOf28 rfl <| Dl 10 hok (fun _ _ A h => R.loadOne C rfl (A.w rfl rfl) (A.x rfl rfl) isAgg28 (by repeat (first | exact Mh | apply Mt)) rfl h) <| Df (off' := 3) C 11 hok rfl rfl rfl runUnderlying58 rfl sizeOf3 rfl <| Dl 12 hok (fun _ _ A h => R.loadOne C rfl (A.w rfl rfl) (A.x rfl rfl) isAgg3 (by repeat (first | exact Mh | apply Mt)) rfl h) <| Dp 13 hok (fun _ _ _ A h => R.indexAddr C rfl (A.w rfl rfl) (A.x rfl rfl) (A.x rfl rfl) runUnderlying28 sizeOf3 hk0 (by omega) h) <| Dl 14 hok (fun _ _ A h => R.loadOneRo C rfl (A.w rfl rfl) (A.x rfl rfl) isAgg3 hropo hxo h) <| D.eP (i := 15) (dst := (some 34)) [false, false, false, false, false] hok rfl (by kernel_rfl) (by kernel_rfl) (fun σr rest A hk => ?_)
      refine R.callP C rfl (A.w rfl rfl) (A.x rfl rfl) (A.s rfl rfl) (rightOfR_c hJ W c0.s _ hwok hs hoff3 _) (hk _ _ ⟨QFs.nil, ?_⟩)
      refine Dp 16 hok (fun _ _ _ A h => R.not C rfl (A.w rfl rfl) (A.x rfl rfl) h) <| Dp 17 hok (fun _ _ _ A h => R.pickT C rfl (A.w rfl rfl) (A.x rfl rfl) (A.x rfl rfl) h) <| D.done C hok (by kernel_rfl) ?_
      have hri : rightIn b c0 i = right W c0.aim := by rw [rightIn, hh2, hW]; rfl
      have hrr : right W c0.aim = (decide (W.s = c0.s) || ((bearing W.s c0.s + c0.o[W.k.toNat] + 8) % 8 == W.b)) := by rw [right, hoff]; rfl
      refine X.cond C.1 rfl (fun hq => ?_) (fun hq => ?_)
      · have hq := hq
        rw [← hrr] at hq
        simp only [Bool.not_eq_true'] at hq
        rw [hri, hq, Bool.false_and] at hr
        refine Xr C rfl rfl <| Ad C rfl rfl <| X.ret C rfl rfl func89 rfl (by exact (.tmp rfl .nil)) <| hret _ _ ?_ (by repeat (first | exact Sr | apply Sc))
        exact congrArg Value.bool hr.symm
      · have hq := hq
        rw [← hrr] at hq
        simp only [Bool.not_eq_false'] at hq
        rw [hri, hq, Bool.true_and] at hr
        refine X.skip C.1 <| X.inBlock C.1 <| X.region C rfl rfl <| Rm C rfl rfl <| R.int C rfl rfl rfl rfl (b_add (by omega) (by omega)) <| Ad C rfl rfl <| X.weak C.1 (Weak.sub (List.sublist_cons_self _ _)) (X.weaken ?_ (hnext (i + 1) ⟨hi', hr⟩ (by omega)))
        exact ⟨rfl, rfl, by simp [look], trivial⟩
  · have hlt := hlt
    simp only [decide_eq_false_iff_not] at hlt
    obtain rfl : i = b.ws.length := by omega
    rw [List.drop_eq_nil_of_le (by simp)] at hr
    refine X.exit C.1 rfl <| Xr C rfl rfl <| Ad C rfl rfl <| X.ret C rfl rfl func89 rfl (by exact (.tmp rfl .nil)) <| hret _ _ ?_ (by repeat (first | exact Sr | apply Sc))
    exact congrArg Value.bool hr.symm
theorem isCaseR_c {b : Bk} {c0 : Cs} {v vk : Value} {ro : RO} (hv : BkV ro v b) (hs : b.short) (hk : CsV ro vk c0) (hk2 : c0.short) : CallP prog J (fnv 23) [v, vk] ro (.tuple [.bool (isCase b c0).1, .int .i64 (isCase b c0).2].toArray) := by
  have hvv := hv
  have hkk := hk
  have hkk2 := hk2
  obtain ⟨vc, vw, rfl, hc, hw⟩ := hv
  obtain ⟨cb, cc, rfl⟩ := hc.form
  obtain ⟨wb, wc, rfl⟩ := hw.form
  obtain ⟨vo, vf, rfl, ho, hf⟩ := hk
  obtain ⟨ob, oc, rfl⟩ := ho.form
  obtain ⟨fb, fc, rfl⟩ := hf.form
  obtain ⟨hk1, hk2⟩ := hk2
  refine CallP.intro hJ (by kernel_rfl) fun c cs tail hret => enter_X (n := 64) func23 rfl rfl (Nl rfl) ?_
  have C : Ctx prog main J (bf 23 .normal) := ⟨hJ, by decide⟩
  refine Xr C rfl rfl <| R.box C rfl rfl rfl rfl fun p2 => R.box C rfl rfl rfl rfl fun p3 => R.asg C rfl rfl rfl <| Ad C rfl rfl <| Xs C <| Xr C rfl rfl <| R.loadAgg C rfl rfl rfl isAgg25 sizeOf25 (by repeat (first | exact Mh | apply Mt)) (.take (.take (.take (.take (.take .nil))))) <| R.callP C rfl rfl rfl rfl (checkChartR_c hJ hvv hs) <| Ad C rfl rfl <| Xr C rfl rfl <| Rm C rfl rfl <| R.int C rfl rfl rfl rfl b_neq <| R.done C <| X.cond C.1 rfl (fun hh => ?_) (fun hh => ?_)
  · have hh := hh
    refine Xr C rfl rfl <| Rm C rfl rfl <| R.asg C rfl rfl rfl <| Ad C rfl rfl <| X.ret C rfl rfl func23 rfl (by exact (.tmp rfl (.tmp rfl .nil))) <| hret _ _ ?_ (by repeat (first | exact Sr | apply Sc))
    simp at hh; simp [isCase, hh, retVal]
  · have hh := hh
    simp at hh
    have hg := good_iff.1 hh
    refine X.skip C.1 <| Xs C <| Xr C rfl rfl <| R.loadAgg C rfl rfl rfl isAgg25 sizeOf25 (by repeat (first | exact Mh | apply Mt)) (.take (.take (.take (.take (.take .nil))))) <| R.loadAgg C rfl rfl rfl isAgg30 sizeOf30 (by repeat (first | exact Mh | apply Mt)) (.take (.take (.take (.take .nil)))) <| R.callP C rfl rfl rfl rfl (checkCaseR_c hJ hvv hg hkk hkk2) <| Ad C rfl rfl <| Xr C rfl rfl <| Rm C rfl rfl <| R.int C rfl rfl rfl rfl b_neq <| R.done C <| X.cond C.1 rfl (fun hq => ?_) (fun hq => ?_)
    · have hq := hq
      refine Xr C rfl rfl <| Rm C rfl rfl <| R.asg C rfl rfl rfl <| Ad C rfl rfl <| X.ret C rfl rfl func23 rfl (by exact (.tmp rfl (.tmp rfl .nil))) <| hret _ _ ?_ (by repeat (first | exact Sr | apply Sc))
      simp at hq; simp [isCase, hh, hq, retVal]
    · have hq := hq
      simp at hq
      have hic : isCase b c0 = (refCase b c0, 0) := by
        rw [isCase, if_neg (by simp [hh]), if_neg (by simp [hq]), isCase_law hg hq]
      obtain ⟨o1, o2, o3, o4, o5⟩ := handed_ok hq
      obtain ⟨f1, f2, _, f4⟩ := falls_ok c0.f none 0 o4
      have hsq : c0.s.ok := by
        have h := there_zero.1 o1
        simp only [between, Bool.and_eq_true, decide_eq_true_eq] at h
        have := hg.w; have := hg.h
        unfold Sq.ok; omega
      rw [hic] at hret
      refine X.skip C.1 <| Xs C <| Xr C rfl rfl <| Ad C rfl rfl <| X.block C.1 <| X.loopI (ι := Nat) C.1 (fun i => i ≤ c0.o.length ∧ offsIn c0.o b.cs = offsIn (c0.o.drop i) (b.cs.drop i)) (fun i => [(2, .pointer (some ⟨p2, 0, none⟩)), (3, .pointer (some ⟨p3, 0, none⟩)), (8, .int .i64 (i : Int))])
        (fun _ => ⟨ro, (p3, .cells [.int .i64 c0.s.e, .int .i64 c0.s.n, .slice ob c0.o.length oc, .slice fb c0.f.length fc].toArray 30 (0, 0)) :: (p2, .cells [.int .i64 b.w, .int .i64 b.h, .int .i64 b.f, .slice cb b.cs.length cc, .slice wb b.ws.length wc].toArray 25 (0, 0)) :: tail⟩) (fun i => c0.o.length - i) 0 ⟨Nat.zero_le _, rfl⟩ rfl ⟨rfl, rfl, rfl, trivial⟩ fun i hi hnext => ?_
      obtain ⟨hi, hr⟩ := hi
      refine Xs C <| Xr C rfl rfl <| Rm C rfl rfl <| R.fieldAddr (off' := 2) C rfl rfl rfl runUnderlying30 rfl sizeOf28 rfl <| R.loadOne C rfl rfl rfl isAgg28 (by repeat (first | exact Mh | apply Mt)) rfl <| R.lenSlice C rfl rfl rfl runUnderlying28 <| R.int C rfl rfl rfl rfl b_lss <| R.done C <| X.cond C.1 rfl (fun hlt => ?_) (fun hlt => ?_)
      · have hlt := hlt
        simp only [decide_eq_true_eq] at hlt
        have hi' : i < c0.o.length := by omega
        have hi2 : i < b.cs.length := by omega
        obtain ⟨po, offo, capo, llo, to, fqo, hslo, hropo, hsubo⟩ := ho.at ic_len (by omega)
        cases hslo
        have hxo := ic_at hsubo hi'
        obtain ⟨pc, offc, capc, llc, tc, fqc, hslc, hropc, hsubc⟩ := hc.at Rc.len (by omega)
        cases hslc
        have hlo : llc[offc + i * 2 + 0]? = some (.int .i64 (b.cs[i]).lo) := by simpa [Rc.cells] using (hsubc i hi2).get 0 (by decide)
        have hhi : llc[offc + i * 2 + 1]? = some (.int .i64 (b.cs[i]).hi) := by simpa [Rc.cells] using (hsubc i hi2).get 1 (by decide)
        rw [List.drop_eq_getElem_cons hi', List.drop_eq_getElem_cons hi2, offsIn] at hr
        refine X.skip C.1 <| Xs C <| X.block C.1 <| Xs C <| X.regionD C (by kernel_rfl) (by kernel_rfl) (by kernel_rfl) fun hok => Df (off' := 2) C 0 hok rfl rfl rfl runUnderlying30 rfl sizeOf28 rfl <| Dl 1 hok (fun _ _ A h => R.loadOne C rfl (A.w rfl rfl) (A.x rfl rfl) isAgg28 (by repeat (first | exact Mh | apply Mt)) rfl h) <| Dm C 2 hok rfl rfl rfl <| Dp 3 hok (fun _ _ _ A h => R.indexAddr C rfl (A.w rfl rfl) (A.x rfl rfl) (A.x rfl rfl) runUnderlying28 sizeOf3 (by omega) (by omega) h) <| Dl 4 hok (fun _ _ A h => R.loadOneRo C rfl (A.w rfl rfl) (A.x rfl rfl) isAgg3 hropo hxo h) <| Df (off' := 3) C 5 hok rfl rfl rfl runUnderlying25 rfl sizeOf22 rfl <| Dl 6 hok (fun _ _ A h => R.loadOne C rfl (A.w rfl rfl) (A.x rfl rfl) isAgg22 (by repeat (first | exact Mh | apply Mt)) rfl h) <| Dm C 7 hok rfl rfl rfl <| Dp 8 hok (fun _ _ _ A h => R.indexAddr C rfl (A.w rfl rfl) (A.x rfl rfl) (A.x rfl rfl) runUnderlying22 sizeOf46 (by omega) (by omega) h) <| Df C 9 hok rfl rfl rfl runUnderlying46 rfl sizeOf3 rfl <| Dl 10 hok (fun _ _ A h => R.loadOneRo C rfl (A.w rfl rfl) (A.x rfl rfl) isAgg3 hropc hlo h) <| Df (off' := 3) C 11 hok rfl rfl rfl runUnderlying25 rfl sizeOf22 rfl <| Dl 12 hok (fun _ _ A h => R.loadOne C rfl (A.w rfl rfl) (A.x rfl rfl) isAgg22 (by repeat (first | exact Mh | apply Mt)) rfl h) <| Dm C 13 hok rfl rfl rfl <| Dp 14 hok (fun _ _ _ A h => R.indexAddr C rfl (A.w rfl rfl) (A.x rfl rfl) (A.x rfl rfl) runUnderlying22 sizeOf46 (by omega) (by omega) h) <| Df C 15 hok rfl rfl rfl runUnderlying46 rfl sizeOf3 rfl <| Dl 16 hok (fun _ _ A h => R.loadOneRo C rfl (A.w rfl rfl) (A.x rfl rfl) isAgg3 hropc hhi h) <| D.eP (i := 17) (dst := (some 44)) [false, false, false, false, false, false] hok rfl (by kernel_rfl) (by kernel_rfl) (fun σr rest A hk => ?_)
        refine R.callP C rfl (A.w rfl rfl) (A.x rfl rfl) (A.s rfl rfl) (betweenR_c hJ _ _ _ _) (hk _ _ ⟨QFs.nil, ?_⟩)
        refine Dp 18 hok (fun _ _ _ A h => R.not C rfl (A.w rfl rfl) (A.x rfl rfl) h) <| D.done C hok (by kernel_rfl) <| X.cond C.1 rfl (fun hb2 => ?_) (fun hb2 => ?_)
        · have hb2 := hb2
          simp only [Bool.not_eq_true'] at hb2
          rw [hb2, Bool.false_and] at hr
          refine Xr C rfl rfl <| R.asg C rfl rfl rfl <| Ad C rfl rfl <| X.ret C rfl rfl func23 rfl (by exact (.tmp rfl (.tmp rfl .nil))) <| hret _ _ ?_ (by repeat (first | exact Sr | apply Sc))
          rw [refCase, hr]; rfl
        · have hb2 := hb2
          simp only [Bool.not_eq_false'] at hb2
          rw [hb2, Bool.true_and] at hr
          refine X.skip C.1 <| X.inBlock C.1 <| X.region C rfl rfl <| Rm C rfl rfl <| R.int C rfl rfl rfl rfl (b_add (by omega) (by omega)) <| Ad C rfl rfl <| X.weaken ?_ (hnext (i + 1) ⟨hi', hr⟩ (by omega))
          exact ⟨rfl, rfl, by simp [look], trivial⟩
      · have hlt := hlt
        simp only [decide_eq_false_iff_not] at hlt
        obtain rfl : i = c0.o.length := by omega
        replace hr : offsIn c0.o b.cs = true := by rw [hr, List.drop_length]; rfl
        refine X.exit C.1 rfl <| Xr C rfl rfl <| R.fieldAddr (off' := 3) C rfl rfl rfl runUnderlying30 rfl sizeOf28 rfl <| R.loadOne C rfl rfl rfl isAgg28 (by repeat (first | exact Mh | apply Mt)) rfl <| R.lenSlice C rfl rfl rfl runUnderlying28 <| R.fieldAddr (off' := 2) C rfl rfl rfl runUnderlying25 rfl sizeOf3 rfl <| R.loadOne C rfl rfl rfl isAgg3 (by repeat (first | exact Mh | apply Mt)) rfl <| R.int C rfl rfl rfl rfl b_leq <| Rm C rfl rfl <| R.fix (t := 52) rfl (fun g1 => ?_) (fun g1 => ?_)
        · have g1 := g1
          simp only [decide_eq_true_eq] at g1
          refine R.loadAgg C rfl rfl rfl isAgg25 sizeOf25 (by repeat (first | exact Mh | apply Mt)) (.take (.take (.take (.take (.take .nil))))) <| R.fieldAddr (off' := 3) C rfl rfl rfl runUnderlying30 rfl sizeOf28 rfl <| R.loadOne C rfl rfl rfl isAgg28 (by repeat (first | exact Mh | apply Mt)) rfl <| R.callP C rfl rfl rfl rfl (sureOnesR_c hJ hvv hf (by omega) f1) <| R.not C rfl rfl rfl <| R.pickT C rfl rfl rfl rfl <| Rm C rfl rfl <| R.fix (t := 59) rfl (fun g2 => ?_) (fun g2 => ?_)
          · have g2 := g2
            simp only [Bool.not_eq_true'] at g2
            refine R.loadAgg C rfl rfl rfl isAgg25 sizeOf25 (by repeat (first | exact Mh | apply Mt)) (.take (.take (.take (.take (.take .nil))))) <| R.loadAgg C rfl rfl rfl isAgg30 sizeOf30 (by repeat (first | exact Mh | apply Mt)) (.take (.take (.take (.take .nil)))) <| R.callP C rfl rfl rfl rfl (allRightR_c hJ hvv hg hkk hkk2 hsq o2 o3) <| R.pickT C rfl rfl rfl rfl <| R.asg C rfl rfl rfl <| Ad C rfl rfl <| X.ret C rfl rfl func23 rfl (by exact (.tmp rfl (.tmp rfl .nil))) <| hret _ _ ?_ (by repeat (first | exact Sr | apply Sc))
            rw [refCase, hr, decide_eq_true g1, g2]; rfl
          · have g2 := g2
            simp only [Bool.not_eq_false'] at g2
            refine R.pass C rfl rfl <| R.pass C rfl rfl <| R.pass C rfl rfl <| R.pickF C rfl rfl rfl rfl <| R.asg C rfl rfl rfl <| Ad C rfl rfl <| X.ret C rfl rfl func23 rfl (by exact (.tmp rfl (.tmp rfl .nil))) <| hret _ _ ?_ (by repeat (first | exact Sr | apply Sc))
            rw [refCase, hr, decide_eq_true g1, g2]; rfl
        · have g1 := g1
          simp only [decide_eq_false_iff_not] at g1
          refine R.pass C rfl rfl <| R.pass C rfl rfl <| R.pass C rfl rfl <| R.pass C rfl rfl <| R.pass C rfl rfl <| R.pickF C rfl rfl rfl rfl <| Rm C rfl rfl <| R.pass C rfl rfl <| R.pass C rfl rfl <| R.pass C rfl rfl <| R.pickF C rfl rfl rfl rfl <| R.asg C rfl rfl rfl <| Ad C rfl rfl <| X.ret C rfl rfl func23 rfl (by exact (.tmp rfl (.tmp rfl .nil))) <| hret _ _ ?_ (by repeat (first | exact Sr | apply Sc))
          rw [refCase, hr, decide_eq_false g1]; rfl
end
end Go.Lg.B
namespace Go.Lg.B
open Go Go.Conc Go.Lg Go.Proofs Go.Proofs.Tryz
theorem true_root {b : Bk} {vb vk : Value} {s z : Sq} {c0 : Cs} {ro : RO} (he : Env ro) (hv : BkV ro vb b) (hk : CsV ro vk c0) : Root prog 3 [vb, s.val, z.val, vk] ro (fun w _ => w = .bool true) := by
  intro Post hret
  have hJ : Closed prog true (JM prog (Go.Conc.Good prog Post)) := JM.closed
  have hvv := hv
  have hkk := hk
  obtain ⟨vc, vw, rfl, hc, hw⟩ := hv
  obtain ⟨vo, vf, rfl, ho, hf⟩ := hk
  obtain ⟨ob, oc, rfl⟩ := ho.form
  obtain ⟨fb, fc, rfl⟩ := hf.form
  let main := true
  let J := JM prog (Go.Conc.Good prog Post)
  refine enter_X (n := 84) func3 rfl rfl (Nl rfl) ?_
  have C : Ctx prog main J (bf 3 .normal) := ⟨hJ, by decide⟩
  refine Xr C rfl rfl <| R.box C rfl rfl rfl rfl fun p4 => R.box C rfl rfl rfl rfl fun p5 => R.box C rfl rfl rfl rfl fun p6 => R.box C rfl rfl rfl rfl fun p7 => Ad C rfl rfl <| Xs C <| Xr C rfl rfl <| R.loadAgg C rfl rfl rfl isAgg25 sizeOf25 (by repeat (first | exact Mh | apply Mt)) (.take (.take (.take (.take (.take .nil))))) <| R.callP C rfl rfl rfl rfl (greatR_c hJ hvv) <| Rm C rfl rfl <| R.fix (t := 19) rfl (fun g1 => ?_) (fun g1 => ?_)
  · have g1 := g1
    refine R.pass C rfl rfl <| R.pass C rfl rfl <| R.pass C rfl rfl <| R.pass C rfl rfl <| R.pickT C rfl rfl rfl rfl <| Rm C rfl rfl <| R.pass C rfl rfl <| R.pass C rfl rfl <| R.pass C rfl rfl <| R.pass C rfl rfl <| R.pickT C rfl rfl rfl rfl <| R.done C <| X.cond C.1 rfl (fun _ => ?_) (fun h => nomatch h)
    refine Xr C rfl rfl <| R.callR C rfl rfl rfl rfl ((found_c _ he)) fun v9 ro9 hl9 hq9 => Ad C rfl rfl <| X.ret0 C (by kernel_rfl) rfl rfl func3 rfl (by exact (.tmp rfl .nil)) fun w9 hs9 => hret _ _ _ hl9 ?_ w9 hs9
    exact hq9
  · have g1 := g1
    refine R.fieldAddr (off' := 2) C rfl rfl rfl runUnderlying30 rfl sizeOf28 rfl <| R.loadOne C rfl rfl rfl isAgg28 (by repeat (first | exact Mh | apply Mt)) rfl <| R.lenSlice C rfl rfl rfl runUnderlying28 <| R.int C rfl rfl rfl rfl b_gtr <| R.pickF C rfl rfl rfl rfl <| Rm C rfl rfl <| R.fix (t := 25) rfl (fun g2 => ?_) (fun g2 => ?_)
    · have g2 := g2
      refine R.pass C rfl rfl <| R.pass C rfl rfl <| R.pass C rfl rfl <| R.pass C rfl rfl <| R.pickT C rfl rfl rfl rfl <| R.done C <| X.cond C.1 rfl (fun _ => ?_) (fun h => nomatch h)
      refine Xr C rfl rfl <| R.callR C rfl rfl rfl rfl ((found_c _ he)) fun v9 ro9 hl9 hq9 => Ad C rfl rfl <| X.ret0 C (by kernel_rfl) rfl rfl func3 rfl (by exact (.tmp rfl .nil)) fun w9 hs9 => hret _ _ _ hl9 ?_ w9 hs9
      exact hq9
    · have g2 := g2
      refine R.fieldAddr (off' := 3) C rfl rfl rfl runUnderlying30 rfl sizeOf28 rfl <| R.loadOne C rfl rfl rfl isAgg28 (by repeat (first | exact Mh | apply Mt)) rfl <| R.lenSlice C rfl rfl rfl runUnderlying28 <| R.int C rfl rfl rfl rfl b_gtr <| R.pickF C rfl rfl rfl rfl <| R.done C <| X.cond C.1 rfl (fun g3 => ?_) (fun g3 => ?_)
      · have g3 := g3
        refine Xr C rfl rfl <| R.callR C rfl rfl rfl rfl ((found_c _ he)) fun v9 ro9 hl9 hq9 => Ad C rfl rfl <| X.ret0 C (by kernel_rfl) rfl rfl func3 rfl (by exact (.tmp rfl .nil)) fun w9 hs9 => hret _ _ _ hl9 ?_ w9 hs9
        exact hq9
      · have g3 := g3
        have hsh : b.short := by simp at g1; unfold Bk.short; omega
        have hks : c0.short := by simp at g2 g3; unfold Cs.short; omega
        refine X.skip C.1 <| Xr C rfl rfl <| R.loadAgg C rfl rfl rfl isAgg27 sizeOf27 (by repeat (first | exact Mh | apply Mt)) (.take (.take .nil)) <| R.loadAgg C rfl rfl rfl isAgg27 sizeOf27 (by repeat (first | exact Mh | apply Mt)) (.take (.take .nil)) <| R.callP C rfl rfl rfl rfl (true_c hJ s z _) <| Rm C rfl rfl <| R.ext C rfl rfl rfl rfl <| R.ext C rfl rfl rfl rfl <| R.asg C rfl rfl rfl <| Ad C rfl rfl <| Xr C rfl rfl <| R.loadAgg C rfl rfl rfl isAgg27 sizeOf27 (by repeat (first | exact Mh | apply Mt)) (.take (.take .nil)) <| R.loadAgg C rfl rfl rfl isAgg27 sizeOf27 (by repeat (first | exact Mh | apply Mt)) (.take (.take .nil)) <| R.callP C rfl rfl rfl rfl (trueR_c hJ s z _) <| Rm C rfl rfl <| R.ext C rfl rfl rfl rfl <| R.ext C rfl rfl rfl rfl <| R.asg C rfl rfl rfl <| Ad C rfl rfl <| Xr C rfl rfl <| R.loadAgg C rfl rfl rfl isAgg25 sizeOf25 (by repeat (first | exact Mh | apply Mt)) (.take (.take (.take (.take (.take .nil))))) <| R.loadAgg C rfl rfl rfl isAgg30 sizeOf30 (by repeat (first | exact Mh | apply Mt)) (.take (.take (.take (.take .nil)))) <| R.callR C rfl rfl rfl rfl ((isCase_c hJ he hvv hsh hkk hks)) fun v1 ro2 hl2 hp => ?_
        subst hp
        have hv2 := hvv.mono hl2
        have hk2 := hkk.mono hl2
        have he2 := he.mono hl2
        refine Rm C rfl rfl <| R.ext C rfl rfl rfl rfl <| R.ext C rfl rfl rfl rfl <| R.asg C rfl rfl rfl <| Ad C rfl rfl <| Xr C rfl rfl <| R.loadAgg C rfl rfl rfl isAgg25 sizeOf25 (by repeat (first | exact Mh | apply Mt)) (.take (.take (.take (.take (.take .nil))))) <| R.loadAgg C rfl rfl rfl isAgg30 sizeOf30 (by repeat (first | exact Mh | apply Mt)) (.take (.take (.take (.take .nil)))) <| R.callP C rfl rfl rfl rfl (isCaseR_c hJ hv2 hsh hk2 hks) <| Rm C rfl rfl <| R.ext C rfl rfl rfl rfl <| R.ext C rfl rfl rfl rfl <| R.asg C rfl rfl rfl <| Ad C rfl rfl <| Xs C <| X.regionD C (by kernel_rfl) (by kernel_rfl) (by kernel_rfl) fun hok => Dl 0 hok (fun _ _ A h => R.loadAgg C rfl (A.w rfl rfl) (A.x rfl rfl) isAgg25 sizeOf25 (by repeat (first | exact Mh | apply Mt)) (.take (.take (.take (.take (.take .nil))))) h) <| Dl 2 hok (fun _ _ A h => R.loadAgg C rfl (A.w rfl rfl) (A.x rfl rfl) isAgg25 sizeOf25 (by repeat (first | exact Mh | apply Mt)) (.take (.take (.take (.take (.take .nil))))) h) <| D.eP (i := 1) (dst := (some 57)) [true, false] hok rfl (by kernel_rfl) (by kernel_rfl) (fun σr rest A hk => ?_)
        refine R.callP C rfl (A.w rfl rfl) (A.x rfl rfl) (A.s rfl rfl) (checkChart_c hJ he2 hv2 hsh) (hk _ _ ⟨(QFs.cons (QF.of rfl (fun _ _ A h => R.loadAgg C rfl (A.w rfl rfl) (A.x rfl rfl) isAgg25 sizeOf25 (by repeat (first | exact Mh | apply Mt)) (.take (.take (.take (.take (.take .nil))))) h)) QFs.nil), ?_⟩)
        refine D.eP (i := 3) (dst := (some 59)) [false] hok rfl (by kernel_rfl) (by kernel_rfl) (fun σr rest A hk => ?_)
        refine R.callP C rfl (A.w rfl rfl) (A.x rfl rfl) (A.s rfl rfl) (checkChartR_c hJ hv2 hsh) (hk _ _ ⟨QFs.nil, ?_⟩)
        refine Di C 4 hok rfl rfl rfl rfl rfl b_eql <| D.fixv (t := 60) (v' := .bool true) rfl (by (exact congrArg Value.bool (by simp))) <| Dm C 5 hok rfl rfl rfl <| Dm C 6 hok rfl rfl rfl <| Dm C 7 hok rfl rfl rfl <| Di C 8 hok rfl rfl rfl rfl rfl b_eql <| D.fixv (t := 64) (v' := .bool true) rfl (by (exact congrArg Value.bool (by simp))) <| Dp 9 hok (fun _ _ _ A h => R.pickT C rfl (A.w rfl rfl) (A.x rfl rfl) (A.x rfl rfl) h) <| Dm C 10 hok rfl rfl rfl <| Dm C 11 hok rfl rfl rfl <| Dm C 12 hok rfl rfl rfl <| Dp 13 hok (fun _ _ _ A h => R.eqBool C rfl (A.w rfl rfl) (A.x rfl rfl) (A.x rfl rfl) runUnderlying4 h) <| D.fixv (t := 69) (v' := .bool true) rfl (by (exact congrArg Value.bool (by simp))) <| Dp 14 hok (fun _ _ _ A h => R.pickT C rfl (A.w rfl rfl) (A.x rfl rfl) (A.x rfl rfl) h) <| Dm C 15 hok rfl rfl rfl <| Dm C 16 hok rfl rfl rfl <| Dm C 17 hok rfl rfl rfl <| Di C 18 hok rfl rfl rfl rfl rfl b_eql <| D.fixv (t := 74) (v' := .bool true) rfl (by (exact congrArg Value.bool (by simp))) <| Dp 19 hok (fun _ _ _ A h => R.pickT C rfl (A.w rfl rfl) (A.x rfl rfl) (A.x rfl rfl) h) <| Dm C 20 hok rfl rfl rfl <| Dm C 21 hok rfl rfl rfl <| Dm C 22 hok rfl rfl rfl <| Di C 23 hok rfl rfl rfl rfl rfl b_eql <| D.fixv (t := 79) (v' := .bool true) rfl (by (exact congrArg Value.bool (by simp))) <| Dp 24 hok (fun _ _ _ A h => R.pickT C rfl (A.w rfl rfl) (A.x rfl rfl) (A.x rfl rfl) h) <| Dm C 25 hok rfl rfl rfl <| D.eP (i := 26) (dst := (some 82)) [] hok rfl (by kernel_rfl) (by kernel_rfl) (fun σr rest A hk => ?_)
        refine R.callR C rfl (A.w rfl rfl) (A.x rfl rfl) (A.s rfl rfl) ((found_c _ he2)) fun v9 ro9 hl9 hq9 => hk _ _ ⟨QFs.nil, ?_⟩
        refine Dp 27 hok (fun _ _ _ A h => R.pickT C rfl (A.w rfl rfl) (A.x rfl rfl) (A.x rfl rfl) h) <| Dp 28 hok (fun _ _ _ A h => R.asg C rfl (A.w rfl rfl) (A.x rfl rfl) h) <| D.done C hok (by kernel_rfl) <| X.ret0 C (by kernel_rfl) rfl rfl func3 rfl (by exact (.tmp rfl .nil)) fun w9 hs9 => hret _ _ _ (RO.le_trans hl2 hl9) ?_ w9 hs9
        exact hq9
end Go.Lg.B
namespace Go.Lg.B
open Go Go.Proofs Go.Proofs.YtlkmnfdipiielaaGreatDoor Go.Proofs.Tryz
set_option maxRecDepth 100000
theorem true_k1 : (Rows.bearingTrueRow.inPlace == prog.inPlace 3) = true := by kernel_rfl
theorem true_k2 : (Rows.bearingTrueRow.unfollowed == prog.unfollowed 3) = true := by kernel_rfl
theorem true_k3 : (Rows.bearingTrueRow.recurses == prog.recurses 3) = true := by kernel_rfl
theorem true_k4 : (Rows.bearingTrueRow.named == prog.varsNamed 3) = true := by kernel_rfl
theorem true_name : prog.funcNamed "lagan/laganlaw01.BearingTrue" = some 3 := by kernel_rfl
theorem true_goes : true = Rows.bearingTrueRow.goesBy prog := by kernel_rfl
theorem true_wf : Rows.bearingTrueRow.wfByText (OpenSpec.ofChange Rows.bearingTrueSpec) = true := by kernel_rfl
theorem true_facts : joinedFacts prog 3 Tryz.f3 Rows.bearingTrueSpec Rows.bearingTrueRow = true := by
  unfold joinedFacts
  exact (and_mk (and_mk (and_mk (and_mk (and_mk (and_mk (and_mk (and_mk (and_mk (and_mk (and_mk (and_mk (and_mk (and_mk (and_mk (and_mk (and_mk (and_mk (and_mk (and_mk (and_mk (and_mk (and_mk (and_mk (and_mk (and_mk (and_mk (and_mk (and_mk (and_mk (and_mk (by as_aux_lemma => kernel_rfl)
    k_lo)
    k_mr)
    (by as_aux_lemma => kernel_rfl))
    (by as_aux_lemma => kernel_rfl))
    (by as_aux_lemma => kernel_rfl))
    k_stops)
    (by as_aux_lemma => kernel_rfl))
    k_knobs)
    true_k1)
    true_k2)
    true_k3)
    true_k4)
    (by as_aux_lemma => kernel_rfl))
    (by as_aux_lemma => kernel_rfl))
    (by as_aux_lemma => kernel_rfl))
    (by as_aux_lemma => kernel_rfl))
    (by as_aux_lemma => kernel_rfl))
    (by as_aux_lemma => kernel_rfl))
    (by as_aux_lemma => kernel_rfl))
    (by as_aux_lemma => kernel_rfl))
    (by as_aux_lemma => kernel_rfl))
    (beq_iff_eq.2 k_pk.symm))
    (by as_aux_lemma => kernel_rfl))
    k_heard)
    k_may)
    (beq_iff_eq.2 k_lift.symm))
    (beq_iff_eq.2 k_make))
    (by as_aux_lemma => kernel_rfl))
    (by as_aux_lemma => kernel_rfl))
    (by as_aux_lemma => kernel_rfl))
    (by as_aux_lemma => kernel_rfl))
end Go.Lg.B
namespace Go.Proofs.YtlkmnfdipiielaaGreatDoor
open Go Go.Conc Go.Lg Go.Lg.B Go.ChangeShapes Go.RowKit Go.WideShapes
set_option maxRecDepth 100000
theorem true_lifted (os : Os) (started : os.Started) (H : Type) (enc : TypeId × Value → H) :
    ReturnsInLeavingWide {} Tryz.checked os 3 .any (fun w args => (Rows.bearingTrueSpec.pre enc Tryz.prog Tryz.f3 [] false w args ∧ laidMetH Tryz.prog laid1 w) ∧ sizedMet enc Tryz.prog Tryz.f3 (OpenSpec.ofChange Rows.bearingTrueSpec) false w args)
      (Rows.bearingTrueSpec.post enc Tryz.prog Tryz.f3 false true false false) := by
  refine leaving_of_root (C := Tryz.checked) (tb := 4) (X := fun w _ => laidMetH Tryz.prog laid1 w) (fun _ _ _ hh h => h.of_heap hh) own0 started Tryz.func3 laid0 (by
      intro t ht
      rw [Tryz.params3] at ht
      have hm : t ∈ [25, 27, 27, 30] := ht
      have hall : ([25, 27, 27, 30].all fun u => Tryz.prog.readableRec u && decide (u < Tryz.prog.types.size)) = true := by kernel_rfl
      have := List.all_eq_true.1 hall t hm
      rw [Bool.and_eq_true, decide_eq_true_eq] at this
      exact this) rfl (by kernel_rfl) Tryz.underlying4
    (ChangeSpec.witness_shaped (enc := enc) (C := Tryz.checked) (os := os) (X := fun w _ => laidMetH Tryz.prog laid1 w) false (World.doorLaid Tryz.prog 89 os) #[.agg #[.int .i64 0, .int .i64 0, .int .i64 0, .slice none 0 0, .slice none 0 0], .agg #[.int .i64 0, .int .i64 0], .agg #[.int .i64 0, .int .i64 0], .agg #[.int .i64 0, .int .i64 0, .slice none 0 0, .slice none 0 0]] 8 rfl (door_shaped os _) (by kernel_rfl) (by kernel_rfl) (by kernel_rfl) (door_met os _)) ?_
  intro W base args ds gs before hval hW _ _ hL
  obtain ⟨p, q, hA, hV, rfl, _, _⟩ := hW
  obtain ⟨rfl, rfl⟩ := trodVars_none hV
  have hA : DataW.TrodAll enc Tryz.prog W 0 (fun _ => true) true Tryz.f3.params.toList args.toList ds p := hA
  have hval : ∀ (j : Nat) t v, Tryz.f3.params[j]? = some t → args[j]? = some v → Value.okWide Tryz.prog W .any base t v := hval
  rw [Tryz.params3] at hA hval
  obtain ⟨v1, l1, d1, k1, p1, q1, e1, rfl, rfl, h1, hA⟩ := trodAll_cons hA
  obtain ⟨v2, l2, d2, k2, p2, q2, rfl, rfl, rfl, h2, hA⟩ := trodAll_cons hA
  obtain ⟨v3, l3, d3, k3, p3, q3, rfl, rfl, rfl, h3, hA⟩ := trodAll_cons hA
  obtain ⟨v4, l4, d4, k4, p4, q4, rfl, rfl, rfl, h4, hA⟩ := trodAll_cons hA
  obtain ⟨rfl, rfl, rfl⟩ := trodAll_nil hA
  have ea : args = #[v1, v2, v3, v4] := Array.toList_inj.1 e1
  subst ea
  obtain ⟨b, b1⟩ := argBk (hval 0 25 v1 rfl rfl) h1
  obtain ⟨s, rfl⟩ := argSq (hval 1 27 v2 rfl rfl) h2
  obtain ⟨z, rfl⟩ := argSq (hval 2 27 v3 rfl rfl) h3
  obtain ⟨c, c1⟩ := argCs (hval 3 30 v4 rfl rfl) h4
  exact ⟨rfl, true_root (env_of_laid hL) b1 c1⟩
theorem true_row : Rows.BearingTrueSaid :=
  OpenClaim.holds_of_wide_leaving 3 Tryz.f3 rfl rfl rfl rfl rfl rfl rfl ⟨rfl, rfl, rfl, rfl, rfl⟩ rfl rfl rfl rfl rfl true_name Tryz.func3 true_facts
    (of_decide_eq_true (by kernel_rfl)) (by unfold Func.isWrapper; first | (rw [if_pos (by decide +kernel)]; kernel_rfl) | (rw [if_neg (by decide +kernel)]; exact ⟨rfl, rfl⟩))
    (fun os started H enc _ => true_lifted os started H enc)
theorem true_holds : Rows.BearingTrueCardSaid :=
  card_goes .later [.funcs] true (true, "6da441031df1273c87b994104071112c0d6d76e328f9edd428a3df0ab3bd48e1") true
    true_row true_wf bearingTrue_row_tie rfl ⟨rfl, rfl⟩ k_main rfl
    (fun f fn hf hfn => by
      obtain rfl : f = 3 := Option.some.inj (true_name.symm.trans hf) |>.symm
      obtain rfl : fn = Tryz.f3 := (Option.some.inj (Tryz.func3.symm.trans hfn)).symm
      exact ⟨k_looks, fun j t ht => by
        rw [Tryz.params3] at ht
        have hm : t ∈ [25, 27, 27, 30] := by simpa using Array.mem_of_getElem? ht
        have hall : ([25, 27, 27, 30].all fun u => !Tryz.prog.wantsStandIn u) = true := by kernel_rfl
        exact (show Tryz.prog.wantsStandIn t = false by simpa using List.all_eq_true.1 hall t hm)⟩)
    true_goes
end Go.Proofs.YtlkmnfdipiielaaGreatDoor
