/-
  It is proved that the given function answers true for every input, whatever is scheduled: the statement Asked of the seat. Conditions: none but those of the given statement itself.
-/
import Derived.Test.YtlkmnfdipiielaaGreatDoorKE
import Derived.Conc.Holds
set_option maxRecDepth 100000
set_option linter.all false
set_option linter.unusedVariables false
set_option linter.unusedSimpArgs false
set_option linter.unusedSectionVars false
namespace Go.Lg.B
open Go Go.Conc Go.Lg Go.Proofs Go.Proofs.Tryz
def trueOf (x y : Int) : Int :=
  if 12 * min (max x (-x)) (max y (-y)) ≤ 5 * max (max x (-x)) (max y (-y)) then (if max x (-x) > max y (-y) then (if x > 0 then 2 else 6) else if y > 0 then 0 else 4)
  else if x > 0 then (if y > 0 then 1 else 3) else if y > 0 then 7 else 5
theorem trueOf_bearing (a z : Sq) : trueOf (z.e - a.e) (z.n - a.n) = bearing a z := by
  generalize hx : z.e - a.e = x
  generalize hy : z.n - a.n = y
  simp only [bearing, aside, hx, hy, trueOf]
  repeat' split
  all_goals first | rfl | (exfalso; simp_all; done) | (exfalso; simp_all; omega)
def climbsH (n : Int) : Option Int → List Int → Int
  | _, [] => 0
  | q, k :: l => if !between k 0 (n - 1) then 6 else if q.any (fun x => decide (k ≤ x)) then 7 else climbsH n (some k) l
theorem falls_climbs (b : Bk) : ∀ (l : List Int) (q : Option Int) (m : Nat), (falls b q m l).2 = climbsH b.ws.length q l
  | [], _, _ => rfl
  | k :: l, q, m => by
    simp only [falls, climbsH, Bk.witness, there]
    by_cases hb : between k 0 (b.ws.length - 1) = true
    · simp only [hb, if_true, ne_eq, not_true_eq_false, if_false, Bool.not_true, Bool.false_eq_true]
      split
      · rfl
      · exact falls_climbs b l _ _
    · simp [hb]
def prev (l : List Int) : Nat → Option Int
  | 0 => none
  | i + 1 => l[i]?
section
variable {main : Bool} {J : Goroutine → Mem → Prop} (hJ : Closed prog main J)
include hJ
theorem nearR_c (s : Sq) (ro : RO) : CallP prog J (fnv 83) [s.val] ro (.bool (isPlace s)) := by
  refine CallP.intro hJ (by kernel_rfl) fun c cs tail hret => enter_X (n := 11) func83 rfl rfl (Nl rfl) ?_
  have C : Ctx prog main J (bf 83 .normal) := ⟨hJ, by decide⟩
  refine Xr C rfl rfl <| R.box C rfl rfl rfl rfl fun p1 => Ad C rfl rfl <| Xr C rfl rfl <| R.fieldAddr (off' := 0) C rfl rfl rfl runUnderlying27 rfl sizeOf3 rfl <| R.loadOne C rfl rfl rfl isAgg3 (by repeat (first | exact Mh | apply Mt)) rfl <| R.callP C rfl rfl rfl rfl (betweenR_c hJ _ _ _ _) <| Rm C rfl rfl <| R.fix (t := 6) rfl (fun q1 => ?_) (fun q1 => ?_)
  · have q1 := q1
    refine R.fieldAddr (off' := 1) C rfl rfl rfl runUnderlying27 rfl sizeOf3 rfl <| R.loadOne C rfl rfl rfl isAgg3 (by repeat (first | exact Mh | apply Mt)) rfl <| R.callP C rfl rfl rfl rfl (betweenR_c hJ _ _ _ _) <| R.pickT C rfl rfl rfl rfl <| Ad C rfl rfl <| X.ret C rfl rfl func83 rfl (by exact (.tmp rfl .nil)) <| hret _ _ ?_ (by repeat (first | exact Sr | apply Sc))
    simp_all [isPlace, retVal]
  · have q1 := q1
    refine R.pass C rfl rfl <| R.pass C rfl rfl <| R.pass C rfl rfl <| R.pickF C rfl rfl rfl rfl <| Ad C rfl rfl <| X.ret C rfl rfl func83 rfl (by exact (.tmp rfl .nil)) <| hret _ _ ?_ (by repeat (first | exact Sr | apply Sc))
    simp_all [isPlace, retVal]
theorem insideR_c (x : Rc) (l m : Int) (ro : RO) : CallP prog J (fnv 90) [x.val, .int .i64 l, .int .i64 m] ro (.bool (isReach x l m)) := by
  refine CallP.intro hJ (by kernel_rfl) fun c cs tail hret => enter_X (n := 24) func90 rfl rfl (Nl rfl) ?_
  have C : Ctx prog main J (bf 90 .normal) := ⟨hJ, by decide⟩
  refine Xr C rfl rfl <| R.box C rfl rfl rfl rfl fun p3 => Ad C rfl rfl <| Xr C rfl rfl <| Rm C rfl rfl <| R.fieldAddr (off' := 0) C rfl rfl rfl runUnderlying46 rfl sizeOf3 rfl <| R.loadOne C rfl rfl rfl isAgg3 (by repeat (first | exact Mh | apply Mt)) rfl <| R.int C rfl rfl rfl rfl b_leq <| Rm C rfl rfl <| R.fix (t := 11) rfl (fun q1 => ?_) (fun q1 => ?_)
  · have q1 := q1
    refine R.fieldAddr (off' := 0) C rfl rfl rfl runUnderlying46 rfl sizeOf3 rfl <| R.loadOne C rfl rfl rfl isAgg3 (by repeat (first | exact Mh | apply Mt)) rfl <| R.fieldAddr (off' := 1) C rfl rfl rfl runUnderlying46 rfl sizeOf3 rfl <| R.loadOne C rfl rfl rfl isAgg3 (by repeat (first | exact Mh | apply Mt)) rfl <| R.int C rfl rfl rfl rfl b_leq <| R.pickT C rfl rfl rfl rfl <| Rm C rfl rfl <| R.fix (t := 18) rfl (fun q2 => ?_) (fun q2 => ?_)
    · have q2 := q2
      refine R.fieldAddr (off' := 1) C rfl rfl rfl runUnderlying46 rfl sizeOf3 rfl <| R.loadOne C rfl rfl rfl isAgg3 (by repeat (first | exact Mh | apply Mt)) rfl <| Rm C rfl rfl <| R.int C rfl rfl rfl rfl b_leq <| R.pickT C rfl rfl rfl rfl <| Ad C rfl rfl <| X.ret C rfl rfl func90 rfl (by exact (.tmp rfl .nil)) <| hret _ _ ?_ (by repeat (first | exact Sr | apply Sc))
      first | (simp_all [isReach, retVal]; done) | (simp_all [isReach, retVal]; omega)
    · have q2 := q2
      refine R.pass C rfl rfl <| R.pass C rfl rfl <| R.pass C rfl rfl <| R.pass C rfl rfl <| R.pickF C rfl rfl rfl rfl <| Ad C rfl rfl <| X.ret C rfl rfl func90 rfl (by exact (.tmp rfl .nil)) <| hret _ _ ?_ (by repeat (first | exact Sr | apply Sc))
      first | (simp_all [isReach, retVal]; done) | (simp_all [isReach, retVal]; omega)
  · have q1 := q1
    refine R.pass C rfl rfl <| R.pass C rfl rfl <| R.pass C rfl rfl <| R.pass C rfl rfl <| R.pass C rfl rfl <| R.pickF C rfl rfl rfl rfl <| Rm C rfl rfl <| R.pass C rfl rfl <| R.pass C rfl rfl <| R.pass C rfl rfl <| R.pass C rfl rfl <| R.pickF C rfl rfl rfl rfl <| Ad C rfl rfl <| X.ret C rfl rfl func90 rfl (by exact (.tmp rfl .nil)) <| hret _ _ ?_ (by repeat (first | exact Sr | apply Sc))
    first | (simp_all [isReach, retVal]; done) | (simp_all [isReach, retVal]; omega)
theorem isCompassR_c {b : Bk} {v : Value} {ro : RO} (hv : BkV ro v b) (hb : b.short) (k : Int) : CallP prog J (fnv 91) [v, .int .i64 k] ro (.bool (between k 0 (b.cs.length - 1))) := by
  obtain ⟨vc, vw, rfl, hc, hw⟩ := hv
  obtain ⟨h1, h2⟩ := hb
  obtain ⟨b1, c1, rfl⟩ := hc.form
  refine CallP.intro hJ (by kernel_rfl) fun c cs tail hret => enter_X (n := 11) func91 rfl rfl (Nl rfl) ?_
  have C : Ctx prog main J (bf 91 .normal) := ⟨hJ, by decide⟩
  refine Xr C rfl rfl <| R.box C rfl rfl rfl rfl fun p2 => Ad C rfl rfl <| Xr C rfl rfl <| Rm C rfl rfl <| R.fieldAddr (off' := 3) C rfl rfl rfl runUnderlying25 rfl sizeOf22 rfl <| R.loadOne C rfl rfl rfl isAgg22 (by repeat (first | exact Mh | apply Mt)) rfl <| R.lenSlice C rfl rfl rfl runUnderlying22 <| R.int C rfl rfl rfl rfl (b_sub (by omega) (by omega)) <| R.callP C rfl rfl rfl rfl (betweenR_c hJ _ _ _ _) <| Ad C rfl rfl <| X.ret C rfl rfl func91 rfl (by exact (.tmp rfl .nil)) <| hret _ _ ?_ (by repeat (first | exact Sr | apply Sc))
  simp_all [retVal]
theorem isWitnessR_c {b : Bk} {v : Value} {ro : RO} (hv : BkV ro v b) (hb : b.short) (k : Int) : CallP prog J (fnv 112) [v, .int .i64 k] ro (.bool (between k 0 (b.ws.length - 1))) := by
  obtain ⟨vc, vw, rfl, hc, hw⟩ := hv
  obtain ⟨h1, h2⟩ := hb
  obtain ⟨b1, c1, rfl⟩ := hw.form
  refine CallP.intro hJ (by kernel_rfl) fun c cs tail hret => enter_X (n := 11) func112 rfl rfl (Nl rfl) ?_
  have C : Ctx prog main J (bf 112 .normal) := ⟨hJ, by decide⟩
  refine Xr C rfl rfl <| R.box C rfl rfl rfl rfl fun p2 => Ad C rfl rfl <| Xr C rfl rfl <| Rm C rfl rfl <| R.fieldAddr (off' := 4) C rfl rfl rfl runUnderlying25 rfl sizeOf23 rfl <| R.loadOne C rfl rfl rfl isAgg23 (by repeat (first | exact Mh | apply Mt)) rfl <| R.lenSlice C rfl rfl rfl runUnderlying23 <| R.int C rfl rfl rfl rfl (b_sub (by omega) (by omega)) <| R.callP C rfl rfl rfl rfl (betweenR_c hJ _ _ _ _) <| Ad C rfl rfl <| X.ret C rfl rfl func112 rfl (by exact (.tmp rfl .nil)) <| hret _ _ ?_ (by repeat (first | exact Sr | apply Sc))
  simp_all [retVal]
theorem onChartR_c {b : Bk} {v : Value} {ro : RO} (hv : BkV ro v b) (hb : b.small) (s : Sq) : CallP prog J (fnv 102) [v, s.val] ro (.bool (between s.e 0 (b.w - 1) && between s.n 0 (b.h - 1))) := by
  obtain ⟨vc, vw, rfl, hc, hw⟩ := hv
  obtain ⟨h1, h2, h3, h4, h5, h6⟩ := hb
  refine CallP.intro hJ (by kernel_rfl) fun c cs tail hret => enter_X (n := 19) func102 rfl rfl (Nl rfl) ?_
  have C : Ctx prog main J (bf 102 .normal) := ⟨hJ, by decide⟩
  refine Xr C rfl rfl <| R.box C rfl rfl rfl rfl fun p2 => R.box C rfl rfl rfl rfl fun p3 => Ad C rfl rfl <| Xr C rfl rfl <| R.fieldAddr (off' := 0) C rfl rfl rfl runUnderlying27 rfl sizeOf3 rfl <| R.loadOne C rfl rfl rfl isAgg3 (by repeat (first | exact Mh | apply Mt)) rfl <| R.fieldAddr (off' := 0) C rfl rfl rfl runUnderlying25 rfl sizeOf3 rfl <| R.loadOne C rfl rfl rfl isAgg3 (by repeat (first | exact Mh | apply Mt)) rfl <| R.int C rfl rfl rfl rfl (b_sub (by omega) (by omega)) <| R.callP C rfl rfl rfl rfl (betweenR_c hJ _ _ _ _) <| Rm C rfl rfl <| R.fix (t := 11) rfl (fun q1 => ?_) (fun q1 => ?_)
  · have q1 := q1
    refine R.fieldAddr (off' := 1) C rfl rfl rfl runUnderlying27 rfl sizeOf3 rfl <| R.loadOne C rfl rfl rfl isAgg3 (by repeat (first | exact Mh | apply Mt)) rfl <| R.fieldAddr (off' := 1) C rfl rfl rfl runUnderlying25 rfl sizeOf3 rfl <| R.loadOne C rfl rfl rfl isAgg3 (by repeat (first | exact Mh | apply Mt)) rfl <| R.int C rfl rfl rfl rfl (b_sub (by omega) (by omega)) <| R.callP C rfl rfl rfl rfl (betweenR_c hJ _ _ _ _) <| R.pickT C rfl rfl rfl rfl <| Ad C rfl rfl <| X.ret C rfl rfl func102 rfl (by exact (.tmp rfl .nil)) <| hret _ _ ?_ (by repeat (first | exact Sr | apply Sc))
    simp_all [retVal]
  · have q1 := q1
    refine R.pass C rfl rfl <| R.pass C rfl rfl <| R.pass C rfl rfl <| R.pass C rfl rfl <| R.pass C rfl rfl <| R.pass C rfl rfl <| R.pickF C rfl rfl rfl rfl <| Ad C rfl rfl <| X.ret C rfl rfl func102 rfl (by exact (.tmp rfl .nil)) <| hret _ _ ?_ (by repeat (first | exact Sr | apply Sc))
    simp_all [retVal]
theorem greatR_c {b : Bk} {v : Value} {ro : RO} (hv : BkV ro v b) : CallP prog J (fnv 18) [v] ro (.bool (decide (20 < b.cs.length) || decide (20 < b.ws.length))) := by
  obtain ⟨vc, vw, rfl, hc, hw⟩ := hv
  obtain ⟨b1, c1, rfl⟩ := hc.form
  obtain ⟨b2, c2, rfl⟩ := hw.form
  refine CallP.intro hJ (by kernel_rfl) fun c cs tail hret => enter_X (n := 13) func18 rfl rfl (Nl rfl) ?_
  have C : Ctx prog main J (bf 18 .normal) := ⟨hJ, by decide⟩
  refine Xr C rfl rfl <| R.box C rfl rfl rfl rfl fun p1 => Ad C rfl rfl <| Xr C rfl rfl <| R.fieldAddr (off' := 3) C rfl rfl rfl runUnderlying25 rfl sizeOf22 rfl <| R.loadOne C rfl rfl rfl isAgg22 (by repeat (first | exact Mh | apply Mt)) rfl <| R.lenSlice C rfl rfl rfl runUnderlying22 <| R.int C rfl rfl rfl rfl b_gtr <| Rm C rfl rfl <| R.fix (t := 7) rfl (fun q1 => ?_) (fun q1 => ?_)
  · have q1 := q1
    refine R.pass C rfl rfl <| R.pass C rfl rfl <| R.pass C rfl rfl <| R.pass C rfl rfl <| R.pickT C rfl rfl rfl rfl <| Ad C rfl rfl <| X.ret C rfl rfl func18 rfl (by exact (.tmp rfl .nil)) <| hret _ _ ?_ (by repeat (first | exact Sr | apply Sc))
    (simp only [decide_eq_true_eq, decide_eq_false_iff_not, retVal] at *; refine congrArg Value.bool ?_; rw [Bool.eq_iff_iff]; simp; try omega)
  · have q1 := q1
    refine R.fieldAddr (off' := 4) C rfl rfl rfl runUnderlying25 rfl sizeOf23 rfl <| R.loadOne C rfl rfl rfl isAgg23 (by repeat (first | exact Mh | apply Mt)) rfl <| R.lenSlice C rfl rfl rfl runUnderlying23 <| R.int C rfl rfl rfl rfl b_gtr <| R.pickF C rfl rfl rfl rfl <| Ad C rfl rfl <| X.ret C rfl rfl func18 rfl (by exact (.tmp rfl .nil)) <| hret _ _ ?_ (by repeat (first | exact Sr | apply Sc))
    (simp only [decide_eq_true_eq, decide_eq_false_iff_not, retVal] at *; refine congrArg Value.bool ?_; rw [Bool.eq_iff_iff]; simp; try omega)
theorem trueOfR_c (x y : Int) (hx : -1000000 ≤ x ∧ x ≤ 1000000) (hy : -1000000 ≤ y ∧ y ≤ 1000000) (ro : RO) : CallP prog J (fnv 84) [.int .i64 x, .int .i64 y] ro (.int .i64 (trueOf x y)) := by
  obtain ⟨x1, x2⟩ := hx
  obtain ⟨y1, y2⟩ := hy
  refine CallP.intro hJ (by kernel_rfl) fun c cs tail hret => enter_X (n := 37) func84 rfl rfl (Nl rfl) ?_
  have C : Ctx prog main J (bf 84 .normal) := ⟨hJ, by decide⟩
  refine Xr C rfl rfl <| Ad C rfl rfl <| Xr C rfl rfl <| Rm C rfl rfl <| Rm C rfl rfl <| R.neg C rfl rfl rfl (by omega) (by omega) <| R.max2 C rfl rfl rfl rfl <| Rm C rfl rfl <| Rm C rfl rfl <| R.neg C rfl rfl rfl (by omega) (by omega) <| R.max2 C rfl rfl rfl rfl <| R.asg C rfl rfl rfl <| Ad C rfl rfl <| Xs C <| Xr C rfl rfl <| Rm C rfl rfl <| Rm C rfl rfl <| R.min2 C rfl rfl rfl rfl <| R.int C rfl rfl rfl rfl (b_mul (by omega) (by omega)) <| Rm C rfl rfl <| Rm C rfl rfl <| R.max2 C rfl rfl rfl rfl <| R.int C rfl rfl rfl rfl (b_mul (by omega) (by omega)) <| R.int C rfl rfl rfl rfl b_leq <| R.done C <| X.cond C.1 rfl (fun q1 => ?_) (fun q1 => ?_)
  · have q1 := q1
    refine Xs C <| Xr C rfl rfl <| Rm C rfl rfl <| Rm C rfl rfl <| R.int C rfl rfl rfl rfl b_gtr <| R.done C <| X.cond C.1 rfl (fun q2 => ?_) (fun q2 => ?_)
    · have q2 := q2
      refine Xs C <| Xr C rfl rfl <| Rm C rfl rfl <| R.int C rfl rfl rfl rfl b_gtr <| R.done C <| X.cond C.1 rfl (fun q3 => ?_) (fun q3 => ?_)
      · have q3 := q3
        refine Xr C rfl rfl <| Ad C rfl rfl <| X.ret C rfl rfl func84 rfl (by exact (.tmp rfl .nil)) <| hret _ _ ?_ (by repeat (first | exact Sr | apply Sc))
        (simp only [decide_eq_true_eq, decide_eq_false_iff_not] at *; simp only [trueOf, retVal]; repeat' split) <;> first | rfl | (exfalso; omega)
      · have q3 := q3
        refine X.skip C.1 <| Xr C rfl rfl <| Ad C rfl rfl <| X.ret C rfl rfl func84 rfl (by exact (.tmp rfl .nil)) <| hret _ _ ?_ (by repeat (first | exact Sr | apply Sc))
        (simp only [decide_eq_true_eq, decide_eq_false_iff_not] at *; simp only [trueOf, retVal]; repeat' split) <;> first | rfl | (exfalso; omega)
    · have q2 := q2
      refine X.skip C.1 <| Xs C <| Xr C rfl rfl <| Rm C rfl rfl <| R.int C rfl rfl rfl rfl b_gtr <| R.done C <| X.cond C.1 rfl (fun q4 => ?_) (fun q4 => ?_)
      · have q4 := q4
        refine Xr C rfl rfl <| Ad C rfl rfl <| X.ret C rfl rfl func84 rfl (by exact (.tmp rfl .nil)) <| hret _ _ ?_ (by repeat (first | exact Sr | apply Sc))
        (simp only [decide_eq_true_eq, decide_eq_false_iff_not] at *; simp only [trueOf, retVal]; repeat' split) <;> first | rfl | (exfalso; omega)
      · have q4 := q4
        refine X.skip C.1 <| Xr C rfl rfl <| Ad C rfl rfl <| X.ret C rfl rfl func84 rfl (by exact (.tmp rfl .nil)) <| hret _ _ ?_ (by repeat (first | exact Sr | apply Sc))
        (simp only [decide_eq_true_eq, decide_eq_false_iff_not] at *; simp only [trueOf, retVal]; repeat' split) <;> first | rfl | (exfalso; omega)
  · have q1 := q1
    refine X.skip C.1 <| Xs C <| Xr C rfl rfl <| Rm C rfl rfl <| R.int C rfl rfl rfl rfl b_gtr <| R.done C <| X.cond C.1 rfl (fun q5 => ?_) (fun q5 => ?_)
    · have q5 := q5
      refine Xs C <| Xr C rfl rfl <| Rm C rfl rfl <| R.int C rfl rfl rfl rfl b_gtr <| R.done C <| X.cond C.1 rfl (fun q6 => ?_) (fun q6 => ?_)
      · have q6 := q6
        refine Xr C rfl rfl <| Ad C rfl rfl <| X.ret C rfl rfl func84 rfl (by exact (.tmp rfl .nil)) <| hret _ _ ?_ (by repeat (first | exact Sr | apply Sc))
        (simp only [decide_eq_true_eq, decide_eq_false_iff_not] at *; simp only [trueOf, retVal]; repeat' split) <;> first | rfl | (exfalso; omega)
      · have q6 := q6
        refine X.skip C.1 <| Xr C rfl rfl <| Ad C rfl rfl <| X.ret C rfl rfl func84 rfl (by exact (.tmp rfl .nil)) <| hret _ _ ?_ (by repeat (first | exact Sr | apply Sc))
        (simp only [decide_eq_true_eq, decide_eq_false_iff_not] at *; simp only [trueOf, retVal]; repeat' split) <;> first | rfl | (exfalso; omega)
    · have q5 := q5
      refine X.skip C.1 <| Xs C <| Xr C rfl rfl <| Rm C rfl rfl <| R.int C rfl rfl rfl rfl b_gtr <| R.done C <| X.cond C.1 rfl (fun q7 => ?_) (fun q7 => ?_)
      · have q7 := q7
        refine Xr C rfl rfl <| Ad C rfl rfl <| X.ret C rfl rfl func84 rfl (by exact (.tmp rfl .nil)) <| hret _ _ ?_ (by repeat (first | exact Sr | apply Sc))
        (simp only [decide_eq_true_eq, decide_eq_false_iff_not] at *; simp only [trueOf, retVal]; repeat' split) <;> first | rfl | (exfalso; omega)
      · have q7 := q7
        refine X.skip C.1 <| Xr C rfl rfl <| Ad C rfl rfl <| X.ret C rfl rfl func84 rfl (by exact (.tmp rfl .nil)) <| hret _ _ ?_ (by repeat (first | exact Sr | apply Sc))
        (simp only [decide_eq_true_eq, decide_eq_false_iff_not] at *; simp only [trueOf, retVal]; repeat' split) <;> first | rfl | (exfalso; omega)
theorem trueR_c (a z : Sq) (ro : RO) : CallP prog J (fnv 21) [a.val, z.val] ro (.tuple [.int .i64 (true_ a z).1, .int .i64 (true_ a z).2].toArray) := by
  by_cases h1 : isPlace a = true
  · by_cases h2 : isPlace z = true
    · have oa := isPlace_ok h1
      have oz := isPlace_ok h2
      unfold Sq.ok at oa oz
      refine CallP.intro hJ (by kernel_rfl) fun c cs tail hret => enter_X (n := 28) func21 rfl rfl (Nl rfl) ?_
      have C : Ctx prog main J (bf 21 .normal) := ⟨hJ, by decide⟩
      refine Xr C rfl rfl <| R.box C rfl rfl rfl rfl fun p2 => R.box C rfl rfl rfl rfl fun p3 => R.asg C rfl rfl rfl <| Ad C rfl rfl <| Xs C <| Xr C rfl rfl <| R.loadAgg C rfl rfl rfl isAgg27 sizeOf27 (by repeat (first | exact Mh | apply Mt)) (.take (.take .nil)) <| R.callP C rfl rfl rfl rfl (nearR_c hJ _ _) <| R.not C rfl rfl rfl <| R.fixv (t := 8) (v' := .bool false) rfl (by (rw [h1]; rfl)) <| Rm C rfl rfl <| R.loadAgg C rfl rfl rfl isAgg27 sizeOf27 (by repeat (first | exact Mh | apply Mt)) (.take (.take .nil)) <| R.callP C rfl rfl rfl rfl (nearR_c hJ _ _) <| R.not C rfl rfl rfl <| R.fixv (t := 12) (v' := .bool false) rfl (by (rw [h2]; rfl)) <| R.pickF C rfl rfl rfl rfl <| R.done C <| X.cond C.1 rfl (fun h => nomatch h) (fun _ => ?_)
      refine X.skip C.1 <| Xs C <| Xr C rfl rfl <| R.loadAgg C rfl rfl rfl isAgg27 sizeOf27 (by repeat (first | exact Mh | apply Mt)) (.take (.take .nil)) <| R.loadAgg C rfl rfl rfl isAgg27 sizeOf27 (by repeat (first | exact Mh | apply Mt)) (.take (.take .nil)) <| R.eqAgg (p := [a.e, a.n]) (q := [z.e, z.n]) C rfl rfl rfl rfl eqT27 rfl rfl (by kernel_rfl) <| R.done C <| X.cond C.1 rfl (fun heq => ?_) (fun heq => ?_)
      · have heq := heq
        refine Xr C rfl rfl <| R.asg C rfl rfl rfl <| Ad C rfl rfl <| X.ret C rfl rfl func21 rfl (by exact (.tmp rfl (.tmp rfl .nil))) <| hret _ _ ?_ (by repeat (first | exact Sr | apply Sc))
        obtain ⟨ae, an⟩ := a; obtain ⟨ze, zn⟩ := z
        simp_all [true_, retVal]
      · have heq := heq
        refine X.skip C.1 <| Xr C rfl rfl <| R.fieldAddr (off' := 0) C rfl rfl rfl runUnderlying27 rfl sizeOf3 rfl <| R.loadOne C rfl rfl rfl isAgg3 (by repeat (first | exact Mh | apply Mt)) rfl <| R.fieldAddr (off' := 0) C rfl rfl rfl runUnderlying27 rfl sizeOf3 rfl <| R.loadOne C rfl rfl rfl isAgg3 (by repeat (first | exact Mh | apply Mt)) rfl <| R.int C rfl rfl rfl rfl (b_sub (by omega) (by omega)) <| R.fieldAddr (off' := 1) C rfl rfl rfl runUnderlying27 rfl sizeOf3 rfl <| R.loadOne C rfl rfl rfl isAgg3 (by repeat (first | exact Mh | apply Mt)) rfl <| R.fieldAddr (off' := 1) C rfl rfl rfl runUnderlying27 rfl sizeOf3 rfl <| R.loadOne C rfl rfl rfl isAgg3 (by repeat (first | exact Mh | apply Mt)) rfl <| R.int C rfl rfl rfl rfl (b_sub (by omega) (by omega)) <| R.callP C rfl rfl rfl rfl (trueOfR_c hJ _ _ (by omega) (by omega) _) <| R.asg C rfl rfl rfl <| Ad C rfl rfl <| X.ret C rfl rfl func21 rfl (by exact (.tmp rfl (.tmp rfl .nil))) <| hret _ _ ?_ (by repeat (first | exact Sr | apply Sc))
        obtain ⟨ae, an⟩ := a; obtain ⟨ze, zn⟩ := z
        have hn : ¬ (⟨ae, an⟩ : Sq) = ⟨ze, zn⟩ := by simpa using heq
        have e : true_ ⟨ae, an⟩ ⟨ze, zn⟩ = (trueOf (ze - ae) (zn - an), 0) := by
          rw [true_, h1, h2, if_neg (by simp), if_neg hn, ← trueOf_bearing]
        rw [e]; rfl
    · have _ := h1
      refine CallP.intro hJ (by kernel_rfl) fun c cs tail hret => enter_X (n := 28) func21 rfl rfl (Nl rfl) ?_
      have C : Ctx prog main J (bf 21 .normal) := ⟨hJ, by decide⟩
      refine Xr C rfl rfl <| R.box C rfl rfl rfl rfl fun p2 => R.box C rfl rfl rfl rfl fun p3 => R.asg C rfl rfl rfl <| Ad C rfl rfl <| Xs C <| Xr C rfl rfl <| R.loadAgg C rfl rfl rfl isAgg27 sizeOf27 (by repeat (first | exact Mh | apply Mt)) (.take (.take .nil)) <| R.callP C rfl rfl rfl rfl (nearR_c hJ _ _) <| R.not C rfl rfl rfl <| R.fixv (t := 8) (v' := .bool false) rfl (by (rw [h1]; rfl)) <| Rm C rfl rfl <| R.loadAgg C rfl rfl rfl isAgg27 sizeOf27 (by repeat (first | exact Mh | apply Mt)) (.take (.take .nil)) <| R.callP C rfl rfl rfl rfl (nearR_c hJ _ _) <| R.not C rfl rfl rfl <| R.fixv (t := 12) (v' := .bool true) rfl (by (simp only [Bool.not_eq_true] at h2; rw [h2]; rfl)) <| R.pickF C rfl rfl rfl rfl <| R.done C <| X.cond C.1 rfl (fun _ => ?_) (fun h => nomatch h)
      refine Xr C rfl rfl <| R.asg C rfl rfl rfl <| Ad C rfl rfl <| X.ret C rfl rfl func21 rfl (by exact (.tmp rfl (.tmp rfl .nil))) <| hret _ _ ?_ (by repeat (first | exact Sr | apply Sc))
      simp_all [true_, retVal]
  · have _ := h1
    refine CallP.intro hJ (by kernel_rfl) fun c cs tail hret => enter_X (n := 28) func21 rfl rfl (Nl rfl) ?_
    have C : Ctx prog main J (bf 21 .normal) := ⟨hJ, by decide⟩
    refine Xr C rfl rfl <| R.box C rfl rfl rfl rfl fun p2 => R.box C rfl rfl rfl rfl fun p3 => R.asg C rfl rfl rfl <| Ad C rfl rfl <| Xs C <| Xr C rfl rfl <| R.loadAgg C rfl rfl rfl isAgg27 sizeOf27 (by repeat (first | exact Mh | apply Mt)) (.take (.take .nil)) <| R.callP C rfl rfl rfl rfl (nearR_c hJ _ _) <| R.not C rfl rfl rfl <| R.fixv (t := 8) (v' := .bool true) rfl (by (simp only [Bool.not_eq_true] at h1; rw [h1]; rfl)) <| Rm C rfl rfl <| R.pass C rfl rfl <| R.pass C rfl rfl <| R.pass C rfl rfl <| R.pickT C rfl rfl rfl rfl <| R.done C <| X.cond C.1 rfl (fun _ => ?_) (fun h => nomatch h)
    refine Xr C rfl rfl <| R.asg C rfl rfl rfl <| Ad C rfl rfl <| X.ret C rfl rfl func21 rfl (by exact (.tmp rfl (.tmp rfl .nil))) <| hret _ _ ?_ (by repeat (first | exact Sr | apply Sc))
    simp_all [true_, retVal]
end
end Go.Lg.B
namespace Go.Lg.B
open Go Go.Conc Go.Lg Go.Proofs Go.Proofs.Tryz
theorem rz_iff {k : Int} : ∀ {m : Nat} {n : Int}, k ∈ rz n m ↔ n ≤ k ∧ k < n + m
  | 0, n => by simp only [rz, List.not_mem_nil, false_iff]; omega
  | m + 1, n => by rw [rz, List.mem_cons, rz_iff]; omega
theorem ups_iff {k : Nat} : ∀ {m n : Nat}, k ∈ ups n m ↔ n ≤ k ∧ k < n + m
  | 0, n => by simp only [ups, List.not_mem_nil, false_iff]; omega
  | m + 1, n => by rw [ups, List.mem_cons, ups_iff]; omega
theorem maskOf_bit (p : Nat → Bool) (i : Nat) : ∀ n, (maskOf p n).testBit i = (decide (i < n) && p i)
  | 0 => by simp [maskOf]
  | n + 1 => by
    simp only [maskOf]
    by_cases h : p n = true
    · rw [if_pos h, Nat.testBit_or, maskOf_bit, Nat.testBit_two_pow]
      by_cases e : i = n
      · subst e; simp [h]
      · have : (i < n + 1) ↔ i < n := by omega
        simp [Ne.symm e, this]
    · rw [if_neg h, maskOf_bit]
      by_cases e : i = n
      · subst e; simp [h]
      · have : (i < n + 1) ↔ i < n := by omega
        simp [this]
theorem andNot_zero {a c : Nat} : (andNot a c == 0) = true ↔ ∀ i, a.testBit i = true → c.testBit i = true := by
  rw [beq_iff_eq]
  constructor
  · intro h i ha
    have := congrArg (fun x => x.testBit i) h
    simp only [andNot, Nat.testBit_xor, Nat.testBit_and, ha, Nat.zero_testBit] at this
    cases hc : c.testBit i
    · rw [hc] at this; simp at this
    · rfl
  · intro h
    refine Nat.eq_of_testBit_eq fun i => ?_
    simp only [andNot, Nat.testBit_xor, Nat.testBit_and, Nat.zero_testBit]
    cases ha : a.testBit i
    · simp
    · simp [h i ha]
theorem and_zero {a c : Nat} : (a &&& c == 0) = true ↔ ∀ i, a.testBit i = true → c.testBit i = false := by
  rw [beq_iff_eq]
  constructor
  · intro h i ha
    have := congrArg (fun x => x.testBit i) h
    simpa only [Nat.testBit_and, ha, Nat.zero_testBit, Bool.true_and] using this
  · intro h
    refine Nat.eq_of_testBit_eq fun i => ?_
    simp only [Nat.testBit_and, Nat.zero_testBit]
    cases ha : a.testBit i
    · simp
    · simp [h i ha]
theorem falls_ok {b : Bk} : ∀ (l : List Int) (q : Option Int) (m : Nat), (falls b q m l).2 = 0 →
    (∀ k ∈ l, 0 ≤ k ∧ k < b.ws.length) ∧ List.Pairwise (· < ·) l ∧ (∀ x, q = some x → ∀ k ∈ l, x < k) ∧ ∀ i : Nat, (falls b q m l).1.testBit i = (m.testBit i || l.contains (i : Int))
  | [], q, m, _ => by simp [falls]
  | k :: l, q, m, h => by
    rw [falls] at h ⊢
    by_cases hw : b.witness k ≠ 0
    · rw [if_pos hw] at h; exact absurd h hw
    · rw [if_neg hw] at h ⊢
      by_cases hq : (q.any fun x => decide (k ≤ x)) = true
      · rw [if_pos hq] at h; cases h
      · rw [if_neg hq] at h ⊢
        obtain ⟨h1, h2, h3, h4⟩ := falls_ok l _ _ h
        have hk : 0 ≤ k ∧ k < b.ws.length := by
          have : between k 0 (b.ws.length - 1) = true := there_zero.1 (by simpa [Bk.witness] using hw)
          simp only [between, Bool.and_eq_true, decide_eq_true_eq] at this
          omega
        refine ⟨fun x hx => ?_, List.pairwise_cons.2 ⟨fun x hx => h3 k rfl x hx, h2⟩, fun x hx y hy => ?_, fun i => ?_⟩
        · rcases List.mem_cons.1 hx with rfl | hx
          · exact hk
          · exact h1 x hx
        · subst hx
          simp only [Option.any_some, decide_eq_true_eq] at hq
          rcases List.mem_cons.1 hy with rfl | hy
          · omega
          · have := h3 k rfl y hy; omega
        · rw [h4, Nat.testBit_or, Nat.testBit_two_pow, List.contains_cons, Bool.or_assoc]
          have : decide (k.toNat = i) = ((i : Int) == k) := by
            rw [Bool.eq_iff_iff]; simp only [decide_eq_true_eq, beq_iff_eq]; omega
          rw [this]
theorem bits_mem (m : Nat) (k : Int) : ∀ n, k ∈ bitsUpto m n ↔ ∃ i : Nat, i < n ∧ m.testBit i = true ∧ k = i
  | 0 => by simp [bitsUpto]
  | n + 1 => by
    simp only [bitsUpto]
    have ih := bits_mem m k n
    by_cases h : m.testBit n = true
    · rw [if_pos h, List.mem_append, ih, List.mem_singleton]
      constructor
      · rintro (⟨i, h1, h2, h3⟩ | rfl)
        · exact ⟨i, by omega, h2, h3⟩
        · exact ⟨n, by omega, h, rfl⟩
      · rintro ⟨i, h1, h2, h3⟩
        by_cases e : i = n
        · exact .inr (by rw [h3, e])
        · exact .inl ⟨i, by omega, h2, h3⟩
    · rw [if_neg h, ih]
      constructor
      · rintro ⟨i, h1, h2, h3⟩; exact ⟨i, by omega, h2, h3⟩
      · rintro ⟨i, h1, h2, h3⟩
        by_cases e : i = n
        · rw [e] at h2; exact absurd h2 h
        · exact ⟨i, by omega, h2, h3⟩
theorem bits_up (m : Nat) : ∀ n, List.Pairwise (· < ·) (bitsUpto m n)
  | 0 => List.Pairwise.nil
  | n + 1 => by
    simp only [bitsUpto]
    split
    · refine List.pairwise_append.2 ⟨bits_up m n, List.pairwise_singleton _ _, fun x hx y hy => ?_⟩
      obtain ⟨i, h1, _, rfl⟩ := (bits_mem m x n).1 hx
      obtain rfl := List.mem_singleton.1 hy
      omega
    · exact bits_up m n
theorem up_nodup {l : List Int} (h : List.Pairwise (· < ·) l) : l.Nodup := h.imp fun h => by omega
theorem up_ext {l m : List Int} (hl : List.Pairwise (· < ·) l) (hm : List.Pairwise (· < ·) m) (h : ∀ x, x ∈ l ↔ x ∈ m) : l = m :=
  List.Perm.eq_of_pairwise (fun a b _ _ h1 h2 => by omega) hl hm ((List.perm_ext_iff_of_nodup (up_nodup hl) (up_nodup hm)).2 h)
theorem listOf_eq {m : Nat} {l : List Int} (hl : List.Pairwise (· < ·) l) (hr : ∀ k ∈ l, 0 ≤ k ∧ k < 5) (hm : ∀ i : Nat, m.testBit i = l.contains (i : Int)) : listOf m = l := by
  refine up_ext (bits_up m 5) hl fun x => ?_
  unfold listOf
  rw [bits_mem]
  constructor
  · rintro ⟨i, _, h2, rfl⟩
    rw [hm] at h2; simpa using h2
  · intro hx
    obtain ⟨h1, h2⟩ := hr x hx
    refine ⟨x.toNat, by omega, ?_, by omega⟩
    rw [hm, show ((x.toNat : Nat) : Int) = x by omega]
    simpa using hx
def offsIn : List Int → List Rc → Bool
  | o :: l, x :: r => between o x.lo x.hi && offsIn l r
  | _, _ => true
theorem handed_ok {b : Bk} {c : Cs} (hh : (handed b c).2 = 0) : b.square c.s = 0 ∧ c.o.length = b.cs.length ∧ (∀ n ∈ c.o, -3 ≤ n ∧ n ≤ 3) ∧ (falls b none 0 c.f).2 = 0 ∧ (handed b c).1 = ⟨c.aim, (falls b none 0 c.f).1⟩ := by
  unfold handed at hh ⊢
  by_cases h1 : b.square c.s ≠ 0
  · rw [if_pos h1] at hh; exact absurd hh h1
  rw [if_neg h1] at hh ⊢
  by_cases h2 : c.o.length ≠ b.cs.length
  · rw [if_pos h2] at hh; cases hh
  rw [if_neg h2] at hh ⊢
  by_cases h3 : (c.o.any fun n => !between n (-3) 3) = true
  · rw [if_pos h3] at hh; cases hh
  rw [if_neg h3] at hh ⊢
  by_cases h4 : (falls b none 0 c.f).2 ≠ 0
  · rw [if_pos h4] at hh; exact absurd hh h4
  rw [if_neg h4]
  refine ⟨by simpa using h1, by simpa using h2, fun n hn => ?_, by simpa using h4, rfl⟩
  have := mt (fun h => List.any_eq_true.2 ⟨n, hn, h⟩) h3
  simpa [between] using this
theorem aim_mem {b : Bk} {c : Cs} (hb : b.good) (hs : b.square c.s = 0) (hl : c.o.length = b.cs.length) : c.aim ∈ aims b ↔ offsIn c.o b.cs = true := by
  have hsq : between c.s.e 0 (b.w - 1) = true ∧ between c.s.n 0 (b.h - 1) = true := by
    have := there_zero.1 hs
    simpa using this
  simp only [between, Bool.and_eq_true, decide_eq_true_eq] at hsq
  obtain ⟨hw, hh, _, hn, _, _, _⟩ := hb
  obtain ⟨⟨e, m⟩, o, f⟩ := c
  obtain ⟨w, h, bf, cs, ws⟩ := b
  simp only at hsq hw hh hn hl
  have key : (∃ n : Nat, n < (w * h).toNat ∧ e = (n : Int) % w ∧ m = (n : Int) / w) := by
    have h0 : 0 ≤ m * w := Int.mul_nonneg hsq.2.1 (by omega)
    refine ⟨(m * w + e).toNat, ?_, ?_, ?_⟩
    · have : m * w + e < w * h := by
        have : m * w ≤ (h - 1) * w := Int.mul_le_mul_of_nonneg_right (by omega) (by omega)
        have e2 : (h - 1) * w = w * h - w := by rw [Int.sub_mul, Int.mul_comm, Int.one_mul]
        omega
      omega
    · rw [Int.toNat_of_nonneg (by omega), Int.add_comm, Int.add_mul_emod_self_right, Int.emod_eq_of_lt (by omega) (by omega)]
    · rw [Int.toNat_of_nonneg (by omega), Int.add_comm, Int.add_mul_ediv_right _ _ (by omega), Int.ediv_eq_zero_of_lt (by omega) (by omega), Int.zero_add]
  obtain ⟨n0, k1, k2, k3⟩ := key
  simp only [aims, List.mem_flatMap, ups_iff]
  have fin : ∀ {p : Nat → Prop} {q : Prop}, (∀ n : Nat, p n → e = (n : Int) % w ∧ m = (n : Int) / w) → ((∃ n : Nat, (e = (n : Int) % w ∧ m = (n : Int) / w) ∧ p n) → q) → (q → p n0) → ((∃ n : Nat, (0 ≤ n ∧ n < 0 + (w * h).toNat) ∧ p n) ↔ q) :=
    fun h1 h2 h3 => ⟨fun ⟨n, _, h⟩ => h2 ⟨n, h1 n h, h⟩, fun hq => ⟨n0, ⟨Nat.zero_le _, by omega⟩, h3 hq⟩⟩
  have s0 : ∀ (a : Aim) (n : Int), a.set ((0 : Nat) : Int) n = { a with x := n } := fun _ _ => rfl
  have s1 : ∀ (a : Aim) (n : Int), a.set ((0 + 1 : Nat) : Int) n = { a with y := n } := fun _ _ => rfl
  have s2 : ∀ (a : Aim) (n : Int), a.set ((0 + 1 + 1 : Nat) : Int) n = { a with z := n } := fun _ _ => rfl
  match cs, o, hl, hn with
  | [x], [o0], _, _ =>
    simp only [offs, s0, aimAt, Cs.aim, List.mem_flatMap, rz_iff, List.mem_singleton, offsIn, between, Bool.and_true, Bool.and_eq_true, decide_eq_true_eq, List.getD_cons_zero, List.getD_cons_succ, List.getD_nil, Aim.mk.injEq, Sq.mk.injEq]
    exact fin (fun n ⟨k, _, ⟨h1, h2⟩, _⟩ => ⟨h1, h2⟩) (fun ⟨n, _, k, h1, _, h2, _⟩ => by omega) fun hq => ⟨o0, by omega, ⟨k2, k3⟩, by simp⟩
  | [x, y], [o0, o1], _, _ =>
    simp only [offs, s0, s1, aimAt, Cs.aim, List.mem_flatMap, rz_iff, List.mem_singleton, offsIn, between, Bool.and_true, Bool.and_eq_true, decide_eq_true_eq, List.getD_cons_zero, List.getD_cons_succ, List.getD_nil, Aim.mk.injEq, Sq.mk.injEq]
    exact fin (fun n ⟨k, _, k', _, ⟨h1, h2⟩, _⟩ => ⟨h1, h2⟩) (fun ⟨n, _, k, h1, k', h1', _, h2, h3, _⟩ => by omega) fun hq => ⟨o0, by omega, o1, by omega, ⟨k2, k3⟩, by simp⟩
  | [x, y, z], [o0, o1, o2], _, _ =>
    simp only [offs, s0, s1, s2, aimAt, Cs.aim, List.mem_flatMap, rz_iff, List.mem_singleton, offsIn, between, Bool.and_true, Bool.and_eq_true, decide_eq_true_eq, List.getD_cons_zero, List.getD_cons_succ, Aim.mk.injEq, Sq.mk.injEq]
    exact fin (fun n ⟨k, _, k', _, k'', _, ⟨h1, h2⟩, _⟩ => ⟨h1, h2⟩) (fun ⟨n, _, k, h1, k', h1', k'', h1'', _, h2, h3, h4⟩ => by omega) fun hq => ⟨o0, by omega, o1, by omega, o2, by omega, ⟨k2, k3⟩, by simp⟩
theorem cases_iff {b : Bk} {c : Lot} : c ∈ cases b ↔ c.a ∈ aims b ∧ c.m < 2 ^ b.ws.length ∧ okMask b c.a c.m = true := by
  obtain ⟨a, m⟩ := c
  simp only [cases, lots, List.mem_flatMap, List.mem_map, List.mem_filter, ups_iff, Lot.mk.injEq]
  constructor
  · rintro ⟨a', h1, m', ⟨⟨_, h2⟩, h3⟩, rfl, rfl⟩; exact ⟨h1, by omega, h3⟩
  · rintro ⟨h1, h2, h3⟩; exact ⟨a, h1, m, ⟨⟨Nat.zero_le _, by omega⟩, h3⟩, rfl, rfl⟩
def refCase (b : Bk) (c : Cs) : Bool := offsIn c.o b.cs && (decide ((c.f.length : Int) ≤ b.f) && (!(c.f.any fun k => (b.wt k.toNat).sure) && (List.range b.ws.length).all fun i => c.f.contains (i : Int) || right (b.wt i) c.aim))
theorem isCase_law {b : Bk} {c : Cs} (hb : b.good) (hh : (handed b c).2 = 0) : decide ((handed b c).1 ∈ cases b) = refCase b c := by
  obtain ⟨h1, h2, _, h4, h5⟩ := handed_ok hh
  obtain ⟨f1, f2, _, f4⟩ := falls_ok c.f none 0 h4
  have hw := hb.nw
  generalize hM : (falls b none 0 c.f).1 = M at *
  have hbit : ∀ i : Nat, M.testBit i = c.f.contains (i : Int) := fun i => by rw [f4]; simp
  have hM2 : M < 2 ^ b.ws.length := by
    refine Nat.lt_pow_two_of_testBit _ fun j hj => ?_
    rw [hbit, Bool.eq_false_iff]
    intro h
    have := f1 _ (by simpa using h)
    omega
  rw [h5, Bool.eq_iff_iff, decide_eq_true_eq, cases_iff]
  simp only [refCase, Bool.and_eq_true, aim_mem hb h1 h2, okMask, andNot_zero, and_zero, listOf_eq f2 (fun k hk => by have := f1 k hk; omega) hbit, hM2, true_and, hbit, odd, sureM, maskOf_bit, decide_eq_true_eq]
  refine and_congr_right fun _ => ?_
  constructor
  · rintro ⟨k1, k2, k3⟩
    refine ⟨k3, ?_, ?_⟩
    · rw [Bool.not_eq_true', List.any_eq_false]
      intro k hk
      obtain ⟨g1, g2⟩ := f1 k hk
      have := k2 k.toNat (by rw [show ((k.toNat : Nat) : Int) = k by omega]; simpa using hk)
      rw [decide_eq_true (by omega), Bool.true_and] at this
      rw [this]; simp
    · rw [List.all_eq_true]
      intro i hi
      have hi := List.mem_range.1 hi
      cases hr : right (b.wt i) c.aim
      · have := k1 i ⟨hi, by rw [hr]; rfl⟩
        rw [this]; rfl
      · simp
  · rintro ⟨k3, k2, k1⟩
    refine ⟨fun i hi => ?_, fun i hi => ?_, k3⟩
    · have := List.all_eq_true.1 k1 i (List.mem_range.2 hi.1)
      simp only [Bool.not_eq_true'] at hi
      rw [hi.2, Bool.or_false] at this
      exact this
    · rw [Bool.not_eq_true', List.any_eq_false] at k2
      have hm : (i : Int) ∈ c.f := by simpa using hi
      have := k2 _ hm
      rw [show ((i : Int)).toNat = i by omega] at this
      simp only [Bool.not_eq_true] at this
      rw [this]; simp
end Go.Lg.B
namespace Go.Lg.B
open Go Go.Conc Go.Lg Go.Proofs Go.Proofs.Tryz
section
variable {main : Bool} {J : Goroutine → Mem → Prop} (hJ : Closed prog main J)
include hJ
theorem checkChartR_c {b : Bk} {v : Value} {ro : RO} (hv : BkV ro v b) (hs : b.short) : CallP prog J (fnv 25) [v] ro (.int .i64 (checkChart b)) := by
  have hvv := hv
  obtain ⟨vc, vw, rfl, hc, hw⟩ := hv
  obtain ⟨b1, c1, rfl⟩ := hc.form
  obtain ⟨b2, c2, rfl⟩ := hw.form
  have hs0 := hs
  obtain ⟨hs1, hs2⟩ := hs
  by_cases hch : b.chart = 0
  · have hch' : between b.w 2 7 = true ∧ between b.h 2 7 = true ∧ between b.f 0 2 = true := by
      simp only [Bk.chart] at hch
      cases h1 : between b.w 2 7 <;> cases h2 : between b.h 2 7 <;> cases h3 : between b.f 0 2 <;> simp [h1, h2, h3] at hch ⊢
    obtain ⟨g1, g2, g3⟩ := hch'
    refine CallP.intro hJ (by kernel_rfl) fun c cs tail hret => enter_X (n := 82) func25 rfl rfl (Nl rfl) ?_
    have C : Ctx prog main J (bf 25 .normal) := ⟨hJ, by decide⟩
    refine Xr C rfl rfl <| R.box C rfl rfl rfl rfl fun p1 => Ad C rfl rfl <| Xs C <| Xr C rfl rfl <| R.fieldAddr (off' := 0) C rfl rfl rfl runUnderlying25 rfl sizeOf3 rfl <| R.loadOne C rfl rfl rfl isAgg3 (by repeat (first | exact Mh | apply Mt)) rfl <| R.callP C rfl rfl rfl rfl (betweenR_c hJ _ _ _ _) <| R.not C rfl rfl rfl <| R.fixv (t := 10) (v' := .bool false) rfl (by (rw [g1]; rfl)) <| Rm C rfl rfl <| R.fieldAddr (off' := 1) C rfl rfl rfl runUnderlying25 rfl sizeOf3 rfl <| R.loadOne C rfl rfl rfl isAgg3 (by repeat (first | exact Mh | apply Mt)) rfl <| R.callP C rfl rfl rfl rfl (betweenR_c hJ _ _ _ _) <| R.not C rfl rfl rfl <| R.fixv (t := 15) (v' := .bool false) rfl (by (rw [g2]; rfl)) <| R.pickF C rfl rfl rfl rfl <| Rm C rfl rfl <| R.fieldAddr (off' := 2) C rfl rfl rfl runUnderlying25 rfl sizeOf3 rfl <| R.loadOne C rfl rfl rfl isAgg3 (by repeat (first | exact Mh | apply Mt)) rfl <| R.callP C rfl rfl rfl rfl (betweenR_c hJ _ _ _ _) <| R.not C rfl rfl rfl <| R.fixv (t := 21) (v' := .bool false) rfl (by (rw [g3]; rfl)) <| R.pickF C rfl rfl rfl rfl <| R.done C <| X.cond C.1 rfl (fun h => nomatch h) (fun _ => ?_)
    refine X.skip C.1 <| Xs C <| Xr C rfl rfl <| R.fieldAddr (off' := 3) C rfl rfl rfl runUnderlying25 rfl sizeOf22 rfl <| R.loadOne C rfl rfl rfl isAgg22 (by repeat (first | exact Mh | apply Mt)) rfl <| R.lenSlice C rfl rfl rfl runUnderlying22 <| R.callP C rfl rfl rfl rfl (betweenR_c hJ _ _ _ _) <| R.not C rfl rfl rfl <| R.done C <| X.cond C.1 rfl (fun hn => ?_) (fun hn => ?_)
    · have hn := hn
      refine Xr C rfl rfl <| Ad C rfl rfl <| X.ret C rfl rfl func25 rfl (by exact (.tmp rfl .nil)) <| hret _ _ ?_ (by repeat (first | exact Sr | apply Sc))
      simp only [checkChart, hch, Bk.compassesH]
      simp_all [retVal]
    · have hn := hn
      have hn' : between (b.cs.length : Int) 1 3 = true := by simpa using hn
      refine X.skip C.1 <| Xs C <| Xr C rfl rfl <| Ad C rfl rfl <| X.block C.1 <| X.loopI (ι := Nat) C.1 (fun i => i ≤ b.cs.length ∧ csH (b.cs.drop i) = csH b.cs) (fun i => [(1, .pointer (some ⟨p1, 0, none⟩)), (3, .int .i64 (i : Int))])
        (fun _ => ⟨ro, (p1, .cells [.int .i64 b.w, .int .i64 b.h, .int .i64 b.f, .slice b1 b.cs.length c1, .slice b2 b.ws.length c2].toArray 25 (0, 0)) :: tail⟩) (fun i => b.cs.length - i) 0 ⟨Nat.zero_le _, rfl⟩ rfl ⟨rfl, rfl, trivial⟩ fun i hi hnext => ?_
      obtain ⟨hi, hr⟩ := hi
      refine Xs C <| Xr C rfl rfl <| Rm C rfl rfl <| R.fieldAddr (off' := 3) C rfl rfl rfl runUnderlying25 rfl sizeOf22 rfl <| R.loadOne C rfl rfl rfl isAgg22 (by repeat (first | exact Mh | apply Mt)) rfl <| R.lenSlice C rfl rfl rfl runUnderlying22 <| R.int C rfl rfl rfl rfl b_lss <| R.done C <| X.cond C.1 rfl (fun hlt => ?_) (fun hlt => ?_)
      · have hlt := hlt
        simp only [decide_eq_true_eq] at hlt
        have hi' : i < b.cs.length := by omega
        obtain ⟨p, off, cap, l, t, fq, hsl, hrop, hsub⟩ := hc.at Rc.len (by omega)
        cases hsl
        rw [List.drop_eq_getElem_cons hi'] at hr
        simp only [csH] at hr
        refine X.skip C.1 <| Xs C <| X.block C.1 <| Xr C rfl rfl <| R.fieldAddr (off' := 3) C rfl rfl rfl runUnderlying25 rfl sizeOf22 rfl <| R.loadOne C rfl rfl rfl isAgg22 (by repeat (first | exact Mh | apply Mt)) rfl <| Rm C rfl rfl <| R.indexAddr C rfl rfl rfl rfl runUnderlying22 sizeOf46 (by omega) (by omega) <| R.loadAggRo C rfl rfl rfl isAgg46 sizeOf46 hrop (hsub i hi') <| R.alloc C rfl rfl zeroValue46 rfl fun p4 => R.store C rfl rfl rfl rfl sizeOf46 rfl rfl rfl (by repeat (first | exact Uh | apply Ut)) (.here (.here .nil)) <| R.done C <| Xr C rfl rfl <| R.loadAgg C rfl rfl rfl isAgg46 sizeOf46 (by repeat (first | exact Mh | apply Mt)) (.take (.take .nil)) <| R.callP C rfl rfl rfl rfl (insideR_c hJ b.cs[i] _ _ _) <| R.not C rfl rfl rfl <| Rm C rfl rfl <| R.fix (t := 43) rfl (fun hg => ?_) (fun hg => ?_)
        · have hg := hg
          have hf : (b.cs[i]).fine = false := by simp at hg; simp [Rc.fine, hg]
          simp [hf] at hr
          refine R.pass C rfl rfl <| R.pass C rfl rfl <| R.pass C rfl rfl <| R.pass C rfl rfl <| R.pass C rfl rfl <| R.pass C rfl rfl <| R.pickT C rfl rfl rfl rfl <| R.done C <| X.cond C.1 rfl (fun _ => ?_) (fun h => nomatch h)
          refine Xr C rfl rfl <| Ad C rfl rfl <| X.ret C rfl rfl func25 rfl (by exact (.tmp rfl .nil)) <| hret _ _ ?_ (by repeat (first | exact Sr | apply Sc))
          simp [checkChart, hch, Bk.compassesH, hn', retVal, ← hr]
        · have hg := hg
          have hbd := isReach_bd (x := b.cs[i]) (by simpa using hg)
          refine R.fieldAddr (off' := 1) C rfl rfl rfl runUnderlying46 rfl sizeOf3 rfl <| R.loadOne C rfl rfl rfl isAgg3 (by repeat (first | exact Mh | apply Mt)) rfl <| R.fieldAddr (off' := 0) C rfl rfl rfl runUnderlying46 rfl sizeOf3 rfl <| R.loadOne C rfl rfl rfl isAgg3 (by repeat (first | exact Mh | apply Mt)) rfl <| R.int C rfl rfl rfl rfl (b_sub (by omega) (by omega)) <| R.int C rfl rfl rfl rfl b_geq <| R.pickF C rfl rfl rfl rfl <| R.done C <| X.cond C.1 rfl (fun hd => ?_) (fun hd => ?_)
          · have hd := hd
            have hf : (b.cs[i]).fine = false := by simp at hd; simp [Rc.fine]; intro _; omega
            simp [hf] at hr
            refine Xr C rfl rfl <| Ad C rfl rfl <| X.ret C rfl rfl func25 rfl (by exact (.tmp rfl .nil)) <| hret _ _ ?_ (by repeat (first | exact Sr | apply Sc))
            simp [checkChart, hch, Bk.compassesH, hn', retVal, ← hr]
          · have hd := hd
            refine X.skip C.1 <| X.inBlock C.1 <| X.region C rfl rfl <| Rm C rfl rfl <| R.int C rfl rfl rfl rfl (b_add (by omega) (by omega)) <| Ad C rfl rfl ?_
            have hf : (b.cs[i]).fine = true := by simp at hd hg; simp [Rc.fine, hg]; omega
            simp [hf] at hr
            refine X.weak C.1 (Weak.sub (List.sublist_cons_self _ _)) (X.weaken ?_ (hnext (i + 1) ⟨by omega, hr⟩ (by omega)))
            exact ⟨rfl, by simp [look], trivial⟩
      · have hlt := hlt
        simp only [decide_eq_false_iff_not] at hlt
        obtain rfl : i = b.cs.length := by omega
        have hcs : b.compassesH = 0 := by simp [csH] at hr; simp [Bk.compassesH, hn', ← hr]
        have hcc : checkChart b = b.witnessesH := by simp [checkChart, hch, hcs]
        refine X.exit C.1 rfl <| Xs C <| Xr C rfl rfl <| R.fieldAddr (off' := 4) C rfl rfl rfl runUnderlying25 rfl sizeOf23 rfl <| R.loadOne C rfl rfl rfl isAgg23 (by repeat (first | exact Mh | apply Mt)) rfl <| R.lenSlice C rfl rfl rfl runUnderlying23 <| R.int C rfl rfl rfl rfl b_gtr <| R.done C <| X.cond C.1 rfl (fun h5 => ?_) (fun h5 => ?_)
        · have h5 := h5
          refine Xr C rfl rfl <| Ad C rfl rfl <| X.ret C rfl rfl func25 rfl (by exact (.tmp rfl .nil)) <| hret _ _ ?_ (by repeat (first | exact Sr | apply Sc))
          simp at h5
          rw [hcc]
          simp [Bk.witnessesH, retVal]; omega
        · have h5 := h5
          simp at h5
          refine X.skip C.1 <| Xs C <| Xr C rfl rfl <| Ad C rfl rfl <| X.block C.1 <| X.loopI (ι := Nat) C.1 (fun i => i ≤ b.ws.length ∧ wtsH b.cs.length (b.ws.drop i) = wtsH b.cs.length b.ws) (fun i => [(1, .pointer (some ⟨p1, 0, none⟩)), (5, .int .i64 (i : Int))])
            (fun _ => ⟨ro, (p1, .cells [.int .i64 b.w, .int .i64 b.h, .int .i64 b.f, .slice b1 b.cs.length c1, .slice b2 b.ws.length c2].toArray 25 (0, 0)) :: tail⟩) (fun i => b.ws.length - i) 0 ⟨Nat.zero_le _, rfl⟩ rfl ⟨rfl, rfl, trivial⟩ fun i hi hnext2 => ?_
          obtain ⟨hi, hr⟩ := hi
          refine Xs C <| Xr C rfl rfl <| Rm C rfl rfl <| R.fieldAddr (off' := 4) C rfl rfl rfl runUnderlying25 rfl sizeOf23 rfl <| R.loadOne C rfl rfl rfl isAgg23 (by repeat (first | exact Mh | apply Mt)) rfl <| R.lenSlice C rfl rfl rfl runUnderlying23 <| R.int C rfl rfl rfl rfl b_lss <| R.done C <| X.cond C.1 rfl (fun hlt2 => ?_) (fun hlt2 => ?_)
          · have hlt2 := hlt2
            simp only [decide_eq_true_eq] at hlt2
            have hi' : i < b.ws.length := by omega
            obtain ⟨p, off, cap, l, t, fq, hsl, hrop, hsub⟩ := hw.at Wt.len (by omega)
            cases hsl
            rw [List.drop_eq_getElem_cons hi'] at hr
            simp only [wtsH] at hr
            refine X.skip C.1 <| Xs C <| X.block C.1 <| Xr C rfl rfl <| R.fieldAddr (off' := 4) C rfl rfl rfl runUnderlying25 rfl sizeOf23 rfl <| R.loadOne C rfl rfl rfl isAgg23 (by repeat (first | exact Mh | apply Mt)) rfl <| Rm C rfl rfl <| R.indexAddr C rfl rfl rfl rfl runUnderlying23 sizeOf58 (by omega) (by omega) <| R.loadAggRo C rfl rfl rfl isAgg58 sizeOf58 hrop (hsub i hi') <| R.alloc C rfl rfl zeroValue58 rfl fun p6 => R.store C rfl rfl rfl rfl sizeOf58 rfl rfl rfl (by repeat (first | exact Uh | apply Ut)) (.here (.here (.here (.here (.here .nil))))) <| R.done C <| Xs C <| Xr C rfl rfl <| R.fieldAddr (off' := 0) C rfl rfl rfl runUnderlying58 rfl sizeOf27 rfl <| R.loadAgg C rfl rfl rfl isAgg27 sizeOf27 (by repeat (first | exact Mh | apply Mt)) (.take (.take .nil)) <| R.callP C rfl rfl rfl rfl (nearR_c hJ (b.ws[i]).s _) <| R.not C rfl rfl rfl <| Rm C rfl rfl <| R.fix (t := 71) rfl (fun hg2 => ?_) (fun hg2 => ?_)
            · have hg2 := hg2
              refine R.pass C rfl rfl <| R.pass C rfl rfl <| R.pass C rfl rfl <| R.pass C rfl rfl <| R.pickT C rfl rfl rfl rfl <| R.done C <| X.cond C.1 rfl (fun _ => ?_) (fun h => nomatch h)
              refine Xr C rfl rfl <| Ad C rfl rfl <| X.ret C rfl rfl func25 rfl (by exact (.tmp rfl .nil)) <| hret _ _ ?_ (by repeat (first | exact Sr | apply Sc))
              simp at hg2
              simp [hg2] at hr
              rw [hcc]
              simp [Bk.witnessesH, retVal, ← hr]; omega
            · have hg2 := hg2
              refine R.fieldAddr (off' := 2) C rfl rfl rfl runUnderlying58 rfl sizeOf3 rfl <| R.loadOne C rfl rfl rfl isAgg3 (by repeat (first | exact Mh | apply Mt)) rfl <| R.callP C rfl rfl rfl rfl (betweenR_c hJ _ _ _ _) <| R.not C rfl rfl rfl <| R.pickF C rfl rfl rfl rfl <| R.done C <| X.cond C.1 rfl (fun hd => ?_) (fun hd => ?_)
              · have hd := hd
                refine Xr C rfl rfl <| Ad C rfl rfl <| X.ret C rfl rfl func25 rfl (by exact (.tmp rfl .nil)) <| hret _ _ ?_ (by repeat (first | exact Sr | apply Sc))
                simp at hg2 hd
                simp [hg2, hd] at hr
                rw [hcc]
                simp [Bk.witnessesH, retVal, ← hr]; omega
              · have hd := hd
                refine X.skip C.1 <| Xr C rfl rfl <| R.loadAgg C rfl rfl rfl isAgg25 sizeOf25 (by repeat (first | exact Mh | apply Mt)) (.take (.take (.take (.take (.take .nil))))) <| R.fieldAddr (off' := 3) C rfl rfl rfl runUnderlying58 rfl sizeOf3 rfl <| R.loadOne C rfl rfl rfl isAgg3 (by repeat (first | exact Mh | apply Mt)) rfl <| R.callP C rfl rfl rfl rfl (isCompassR_c hJ hvv hs0 _) <| R.not C rfl rfl rfl <| R.done C <| X.cond C.1 rfl (fun hk => ?_) (fun hk => ?_)
                · have hk := hk
                  refine Xr C rfl rfl <| Ad C rfl rfl <| X.ret C rfl rfl func25 rfl (by exact (.tmp rfl .nil)) <| hret _ _ ?_ (by repeat (first | exact Sr | apply Sc))
                  simp at hg2 hd hk
                  simp [hg2, hd, there, hk] at hr
                  rw [hcc]
                  simp [Bk.witnessesH, retVal, ← hr]; omega
                · have hk := hk
                  refine X.skip C.1 <| X.inBlock C.1 <| X.region C rfl rfl <| Rm C rfl rfl <| R.int C rfl rfl rfl rfl (b_add (by omega) (by omega)) <| Ad C rfl rfl ?_
                  simp at hg2 hd hk
                  simp [hg2, hd, there, hk] at hr
                  refine X.weak C.1 (Weak.sub (List.sublist_cons_self _ _)) (X.weaken ?_ (hnext2 (i + 1) ⟨by omega, hr⟩ (by omega)))
                  exact ⟨rfl, by simp [look], trivial⟩
          · have hlt2 := hlt2
            simp only [decide_eq_false_iff_not] at hlt2
            obtain rfl : i = b.ws.length := by omega
            simp [wtsH] at hr
            refine X.exit C.1 rfl <| Xr C rfl rfl <| Ad C rfl rfl <| X.ret C rfl rfl func25 rfl (by exact (.tmp rfl .nil)) <| hret _ _ ?_ (by repeat (first | exact Sr | apply Sc))
            rw [hcc]
            simp [Bk.witnessesH, retVal, ← hr]; omega
  · have hone : b.chart = 1 := by
      simp only [Bk.chart] at hch ⊢
      split at hch
      · rename_i h; rw [if_pos h]
      · exact absurd rfl hch
    have hcc : checkChart b = 1 := by rw [checkChart, if_pos hch, hone]
    have hany : (!between b.w 2 7 || !between b.h 2 7 || !between b.f 0 2) = true := by
      simp only [Bk.chart] at hch
      split at hch
      · assumption
      · exact absurd rfl hch
    by_cases g1 : between b.w 2 7 = true
    · by_cases g2 : between b.h 2 7 = true
      · have g3 : between b.f 0 2 = false := by simpa [g1, g2] using hany
        refine CallP.intro hJ (by kernel_rfl) fun c cs tail hret => enter_X (n := 82) func25 rfl rfl (Nl rfl) ?_
        have C : Ctx prog main J (bf 25 .normal) := ⟨hJ, by decide⟩
        refine Xr C rfl rfl <| R.box C rfl rfl rfl rfl fun p1 => Ad C rfl rfl <| Xs C <| Xr C rfl rfl <| R.fieldAddr (off' := 0) C rfl rfl rfl runUnderlying25 rfl sizeOf3 rfl <| R.loadOne C rfl rfl rfl isAgg3 (by repeat (first | exact Mh | apply Mt)) rfl <| R.callP C rfl rfl rfl rfl (betweenR_c hJ _ _ _ _) <| R.not C rfl rfl rfl <| R.fixv (t := 10) (v' := .bool false) rfl (by (rw [g1]; rfl)) <| Rm C rfl rfl <| R.fieldAddr (off' := 1) C rfl rfl rfl runUnderlying25 rfl sizeOf3 rfl <| R.loadOne C rfl rfl rfl isAgg3 (by repeat (first | exact Mh | apply Mt)) rfl <| R.callP C rfl rfl rfl rfl (betweenR_c hJ _ _ _ _) <| R.not C rfl rfl rfl <| R.fixv (t := 15) (v' := .bool false) rfl (by (rw [g2]; rfl)) <| R.pickF C rfl rfl rfl rfl <| Rm C rfl rfl <| R.fieldAddr (off' := 2) C rfl rfl rfl runUnderlying25 rfl sizeOf3 rfl <| R.loadOne C rfl rfl rfl isAgg3 (by repeat (first | exact Mh | apply Mt)) rfl <| R.callP C rfl rfl rfl rfl (betweenR_c hJ _ _ _ _) <| R.not C rfl rfl rfl <| R.fixv (t := 21) (v' := .bool true) rfl (by (rw [g3]; rfl)) <| R.pickF C rfl rfl rfl rfl <| R.done C <| X.cond C.1 rfl (fun _ => ?_) (fun h => nomatch h)
        refine Xr C rfl rfl <| Ad C rfl rfl <| X.ret C rfl rfl func25 rfl (by exact (.tmp rfl .nil)) <| hret _ _ ?_ (by repeat (first | exact Sr | apply Sc))
        rw [hcc]; rfl
      · have g2 : between b.h 2 7 = false := by simpa using g2
        refine CallP.intro hJ (by kernel_rfl) fun c cs tail hret => enter_X (n := 82) func25 rfl rfl (Nl rfl) ?_
        have C : Ctx prog main J (bf 25 .normal) := ⟨hJ, by decide⟩
        refine Xr C rfl rfl <| R.box C rfl rfl rfl rfl fun p1 => Ad C rfl rfl <| Xs C <| Xr C rfl rfl <| R.fieldAddr (off' := 0) C rfl rfl rfl runUnderlying25 rfl sizeOf3 rfl <| R.loadOne C rfl rfl rfl isAgg3 (by repeat (first | exact Mh | apply Mt)) rfl <| R.callP C rfl rfl rfl rfl (betweenR_c hJ _ _ _ _) <| R.not C rfl rfl rfl <| R.fixv (t := 10) (v' := .bool false) rfl (by (rw [g1]; rfl)) <| Rm C rfl rfl <| R.fieldAddr (off' := 1) C rfl rfl rfl runUnderlying25 rfl sizeOf3 rfl <| R.loadOne C rfl rfl rfl isAgg3 (by repeat (first | exact Mh | apply Mt)) rfl <| R.callP C rfl rfl rfl rfl (betweenR_c hJ _ _ _ _) <| R.not C rfl rfl rfl <| R.fixv (t := 15) (v' := .bool true) rfl (by (rw [g2]; rfl)) <| R.pickF C rfl rfl rfl rfl <| Rm C rfl rfl <| R.pass C rfl rfl <| R.pass C rfl rfl <| R.pass C rfl rfl <| R.pass C rfl rfl <| R.pickT C rfl rfl rfl rfl <| R.done C <| X.cond C.1 rfl (fun _ => ?_) (fun h => nomatch h)
        refine Xr C rfl rfl <| Ad C rfl rfl <| X.ret C rfl rfl func25 rfl (by exact (.tmp rfl .nil)) <| hret _ _ ?_ (by repeat (first | exact Sr | apply Sc))
        rw [hcc]; rfl
    · have g1 : between b.w 2 7 = false := by simpa using g1
      refine CallP.intro hJ (by kernel_rfl) fun c cs tail hret => enter_X (n := 82) func25 rfl rfl (Nl rfl) ?_
      have C : Ctx prog main J (bf 25 .normal) := ⟨hJ, by decide⟩
      refine Xr C rfl rfl <| R.box C rfl rfl rfl rfl fun p1 => Ad C rfl rfl <| Xs C <| Xr C rfl rfl <| R.fieldAddr (off' := 0) C rfl rfl rfl runUnderlying25 rfl sizeOf3 rfl <| R.loadOne C rfl rfl rfl isAgg3 (by repeat (first | exact Mh | apply Mt)) rfl <| R.callP C rfl rfl rfl rfl (betweenR_c hJ _ _ _ _) <| R.not C rfl rfl rfl <| R.fixv (t := 10) (v' := .bool true) rfl (by (rw [g1]; rfl)) <| Rm C rfl rfl <| R.pass C rfl rfl <| R.pass C rfl rfl <| R.pass C rfl rfl <| R.pass C rfl rfl <| R.pickT C rfl rfl rfl rfl <| Rm C rfl rfl <| R.pass C rfl rfl <| R.pass C rfl rfl <| R.pass C rfl rfl <| R.pass C rfl rfl <| R.pickT C rfl rfl rfl rfl <| R.done C <| X.cond C.1 rfl (fun _ => ?_) (fun h => nomatch h)
      refine Xr C rfl rfl <| Ad C rfl rfl <| X.ret C rfl rfl func25 rfl (by exact (.tmp rfl .nil)) <| hret _ _ ?_ (by repeat (first | exact Sr | apply Sc))
      rw [hcc]; rfl
end
end Go.Lg.B
namespace Go.Lg.B
open Go Go.Conc Go.Lg Go.Proofs Go.Proofs.Tryz
def worst (L : List Lot) (i : Nat) : Int := max (cnt L i : Int) (L.length - cnt L i)
theorem askUpto_law (L : List Lot) : ∀ n, -1 ≤ (askUpto L n).1 ∧ (askUpto L n).1 < n ∧ (askUpto L n).2 ≤ L.length ∧ ((askUpto L n).1 < 0 ↔ (askUpto L n).2 = L.length) ∧ (∀ i : Nat, i < n → (askUpto L n).2 ≤ worst L i) ∧
    (0 ≤ (askUpto L n).1 → (askUpto L n).2 = worst L (askUpto L n).1.toNat ∧ ∀ i : Nat, (i : Int) < (askUpto L n).1 → (askUpto L n).2 < worst L i)
  | 0 => by
    simp only [askUpto]
    refine ⟨by simp, by simp, by simp, by simp, fun i hi => absurd hi (Nat.not_lt_zero _), fun h => absurd h (by simp)⟩
  | n + 1 => by
    obtain ⟨h1, h2, h3, h4, h5, h6⟩ := askUpto_law L n
    simp only [askUpto]
    by_cases hlt : max (cnt L n : Int) (L.length - cnt L n) < (askUpto L n).2
    · rw [if_pos hlt]
      have hw : worst L n = max (cnt L n : Int) (L.length - cnt L n) := rfl
      refine ⟨by simp only; omega, by simp only; omega, by simp only; omega, ?_, fun i hi => ?_, fun _ => ⟨by simp only [Int.toNat_natCast, hw], fun i hi => ?_⟩⟩
      · simp only; constructor
        · intro h; omega
        · intro h; omega
      · simp only
        by_cases e : i = n
        · rw [e, hw]; exact Int.le_refl _
        · have := h5 i (by omega); omega
      · simp only at hi ⊢
        have := h5 i (by omega); omega
    · rw [if_neg hlt]
      refine ⟨h1, by omega, h3, h4, fun i hi => ?_, h6⟩
      by_cases e : i = n
      · rw [e]; unfold worst; omega
      · exact h5 i (by omega)
theorem cnt_le (L : List Lot) (i : Nat) : cnt L i ≤ L.length := List.countP_le_length
theorem wt_set (b : Bk) {k : Int} (i : Nat) : (trusted b k).wt i = if i = k.toNat ∧ i < b.ws.length then sured (b.wt i) else b.wt i := by
  simp only [Bk.wt, trusted, List.getD_eq_getElem?_getD, List.getElem?_set]
  by_cases e : k.toNat = i
  · subst e
    by_cases h : k.toNat < b.ws.length
    · simp [h]
    · simp [h]
  · simp [e, Ne.symm e]
theorem right_sured (w : Wt) (a : Aim) : right (sured w) a = right w a := rfl
theorem odd_trusted (b : Bk) (k : Int) (a : Aim) : odd (trusted b k) a = odd b a := by
  unfold odd
  have e : (trusted b k).ws.length = b.ws.length := by simp [trusted]
  rw [e]
  congr 1
  funext i
  rw [wt_set]
  split
  · rw [right_sured]
  · rfl
theorem sure_trusted (b : Bk) {k : Int} (h : k.toNat < b.ws.length) (m : Nat) : (m &&& sureM (trusted b k) == 0) = ((m &&& sureM b == 0) && !m.testBit k.toNat) := by
  have e : (trusted b k).ws.length = b.ws.length := by simp [trusted]
  rw [Bool.eq_iff_iff, Bool.and_eq_true, and_zero, and_zero]
  simp only [sureM, maskOf_bit, e, wt_set]
  constructor
  · intro hh
    refine ⟨fun i hi => ?_, ?_⟩
    · have := hh i hi
      by_cases hik : i = k.toNat ∧ i < b.ws.length
      · rw [if_pos hik] at this
        simp [sured, hik.2] at this
      · rw [if_neg hik] at this; exact this
    · cases hb : m.testBit k.toNat
      · rfl
      · have := hh _ hb
        simp [h, sured] at this
  · rintro ⟨h1, h2⟩ i hi
    by_cases hik : i = k.toNat ∧ i < b.ws.length
    · rw [hik.1] at hi; rw [hi] at h2; cases h2
    · rw [if_neg hik]; exact h1 i hi
theorem okMask_trusted (b : Bk) {k : Int} (h : k.toNat < b.ws.length) (a : Aim) (m : Nat) : okMask (trusted b k) a m = (okMask b a m && !m.testBit k.toNat) := by
  have ef : (trusted b k).f = b.f := rfl
  simp only [okMask, odd_trusted, sure_trusted b h, ef]
  cases andNot (odd b a) m == 0 <;> cases m &&& sureM b == 0 <;> cases m.testBit k.toNat <;> simp
theorem cases_trusted (b : Bk) {k : Int} (h : k.toNat < b.ws.length) : cases (trusted b k) = (cases b).filter fun c => !c.m.testBit k.toNat := by
  have e : (trusted b k).ws.length = b.ws.length := by simp [trusted]
  have ea : aims (trusted b k) = aims b := rfl
  unfold cases
  rw [ea, e, List.filter_flatMap]
  congr 1
  funext a
  simp only [lots, List.filter_map, List.filter_filter, okMask_trusted b h]
  congr 1
  refine List.filter_congr fun m _ => ?_
  simp only [Function.comp]
  rw [okMask_trusted b h, Bool.and_comm]
theorem cases_trusted_len (b : Bk) {k : Int} (h : k.toNat < b.ws.length) : ((cases (trusted b k)).length : Int) = (cases b).length - cnt (cases b) k.toNat := by
  rw [cases_trusted b h, ← List.countP_eq_length_filter]
  have := List.length_eq_countP_add_countP (fun c : Lot => c.m.testBit k.toNat) (l := cases b)
  have e : List.countP (fun c : Lot => !c.m.testBit k.toNat) (cases b) = List.countP (fun c : Lot => decide ¬(c.m.testBit k.toNat = true)) (cases b) := by
    refine List.countP_congr fun c _ => ?_
    cases c.m.testBit k.toNat <;> simp
  unfold cnt
  rw [e]; omega
theorem good_trusted {b : Bk} {k : Int} (hb : b.good) : (trusted b k).good := by
  obtain ⟨h1, h2, h3, h4, h5, h6, h7⟩ := hb
  refine ⟨h1, h2, h3, h4, h5, by simpa [trusted] using h6, fun x hx => ?_⟩
  show x.fine b.cs.length = true
  by_cases h : k.toNat < b.ws.length
  · rcases List.mem_or_eq_of_mem_set (show x ∈ b.ws.set k.toNat (sured (b.wt k.toNat)) from hx) with h8 | h8
    · exact h7 x h8
    · rw [h8]
      have := h7 _ (List.getElem_mem h)
      rw [Bk.wt_get h] at this
      exact this
  · have : b.ws.set k.toNat (sured (b.wt k.toNat)) = b.ws := List.set_eq_of_length_le (by omega)
    exact h7 x (by rw [← this]; exact hx)
end Go.Lg.B
namespace Go.Lg.B
open Go Go.Conc Go.Lg Go.Proofs Go.Proofs.Tryz
theorem good_small {b : Bk} (h : checkChart b = 0) : b.cs.length ≤ 3 ∧ b.ws.length ≤ 5 := by
  have := good_iff.1 h
  exact ⟨this.nc.2, this.nw⟩
section
variable {main : Bool} {J : Goroutine → Mem → Prop} (hJ : Closed prog main J)
include hJ
theorem fitR_c {b : Bk} {v : Value} {ro : RO} (hv : BkV ro v b) : CallP prog J (fnv 47) [v] ro (.bool (checkChart b == 0)) := by
  have hvv := hv
  obtain ⟨vc, vw, rfl, hc, hw⟩ := hv
  by_cases hg : (decide (20 < b.cs.length) || decide (20 < b.ws.length)) = true
  · have hne : checkChart b ≠ 0 := fun h => by
      have := good_small h
      simp only [Bool.or_eq_true, decide_eq_true_eq] at hg; omega
    refine CallP.intro hJ (by kernel_rfl) fun c cs tail hret => enter_X (n := 11) func47 rfl rfl (Nl rfl) ?_
    have C : Ctx prog main J (bf 47 .normal) := ⟨hJ, by decide⟩
    refine Xr C rfl rfl <| R.box C rfl rfl rfl rfl fun p1 => Ad C rfl rfl <| Xr C rfl rfl <| R.loadAgg C rfl rfl rfl isAgg25 sizeOf25 (by repeat (first | exact Mh | apply Mt)) (.take (.take (.take (.take (.take .nil))))) <| R.callP C rfl rfl rfl rfl (greatR_c hJ hvv) <| R.not C rfl rfl rfl <| R.fixv (t := 5) (v' := .bool false) rfl (by (rw [hg]; rfl)) <| Rm C rfl rfl <| R.pass C rfl rfl <| R.pass C rfl rfl <| R.pass C rfl rfl <| R.pickF C rfl rfl rfl rfl <| Ad C rfl rfl <| X.ret C rfl rfl func47 rfl (by exact (.tmp rfl .nil)) <| hret _ _ ?_ (by repeat (first | exact Sr | apply Sc))
    rw [beq_eq_false_iff_ne.2 hne]; rfl
  · have hg2 : (decide (20 < b.cs.length) || decide (20 < b.ws.length)) = false := by simpa using hg
    have hsh : b.short := by
      simp only [Bool.or_eq_false_iff, decide_eq_false_iff_not] at hg2
      unfold Bk.short; omega
    refine CallP.intro hJ (by kernel_rfl) fun c cs tail hret => enter_X (n := 11) func47 rfl rfl (Nl rfl) ?_
    have C : Ctx prog main J (bf 47 .normal) := ⟨hJ, by decide⟩
    refine Xr C rfl rfl <| R.box C rfl rfl rfl rfl fun p1 => Ad C rfl rfl <| Xr C rfl rfl <| R.loadAgg C rfl rfl rfl isAgg25 sizeOf25 (by repeat (first | exact Mh | apply Mt)) (.take (.take (.take (.take (.take .nil))))) <| R.callP C rfl rfl rfl rfl (greatR_c hJ hvv) <| R.not C rfl rfl rfl <| R.fixv (t := 5) (v' := .bool true) rfl (by (rw [hg2]; rfl)) <| Rm C rfl rfl <| R.loadAgg C rfl rfl rfl isAgg25 sizeOf25 (by repeat (first | exact Mh | apply Mt)) (.take (.take (.take (.take (.take .nil))))) <| R.callP C rfl rfl rfl rfl (checkChartR_c hJ hvv hsh) <| R.int C rfl rfl rfl rfl b_eql <| R.pickT C rfl rfl rfl rfl <| Ad C rfl rfl <| X.ret C rfl rfl func47 rfl (by exact (.tmp rfl .nil)) <| hret _ _ ?_ (by repeat (first | exact Sr | apply Sc))
    rfl
theorem trustedR_c {b : Bk} {v : Value} {ro : RO} (hv : BkV ro v b) (hb : b.good) {k : Int} (hk0 : 0 ≤ k) (hk1 : k < b.ws.length) : CallR prog J (fnv 59) [v, .int .i64 k] ro (fun x ro' => BkV ro' x (trusted b k)) := by
  have hnw := hb.nw
  obtain ⟨vc, vw, rfl, hc, hw⟩ := hv
  obtain ⟨cb, cc, rfl⟩ := hc.form
  have hw0 := hw
  obtain ⟨wb, wc, rfl⟩ := hw.form
  have hki : k.toNat < b.ws.length := by omega
  have hwt := Bk.wt_get hki
  have hfl := flatMap_len Wt.len b.ws
  have hfl2 := flatMap_len Wt.len (b.ws.set k.toNat (sured (b.wt k.toNat)))
  rw [List.length_set] at hfl2
  refine CallR.intro hJ (by kernel_rfl) fun c cs tail hret => enter_X (n := 16) func59 rfl rfl (Nl rfl) ?_
  have C : Ctx prog main J (bf 59 .normal) := ⟨hJ, by decide⟩
  refine Xr C rfl rfl <| R.box C rfl rfl rfl rfl fun p2 => R.alloc C rfl rfl zeroValue25 rfl fun p4 => R.done C <| Xr C rfl rfl <| R.buildSlice C (vs := _) rfl rfl (show pvals _ _ = some (numbered 0 []) from rfl) rfl runUnderlying23 sizeOf58 zeroValue58 (by decide) (.nil) fun p5 => R.fieldAddr (off' := 4) C rfl rfl rfl runUnderlying25 rfl sizeOf23 rfl <| R.loadOne C rfl rfl rfl isAgg23 (by repeat (first | exact Mh | apply Mt)) rfl <| R.append (kk := 5) C rfl rfl rfl rfl runUnderlying23 runUnderlying23 (fun _ => nofun) (show prog.info? 58 = some Tryz.t58 by kernel_rfl) rfl rfl rfl (by decide) (by decide) (Buf.blk (cells := []) (spare := []) (len := 0) (cap := 0) rfl rfl (Nat.le_refl _)) (hw0.rd Wt.len) (ones_W b.ws) (by simp only [List.length_nil]; omega) fun v' own' hb' => ?_
  obtain ⟨own0, rfl, hb0⟩ := Buf.unapp (tail := []) (H := (p4, .cells [.int .i64 0, .int .i64 0, .int .i64 0, .slice none 0 0, .slice none 0 0].toArray 25 (0, 0)) :: (p2, .cells [.int .i64 b.w, .int .i64 b.h, .int .i64 b.f, .slice cb b.cs.length cc, .slice wb b.ws.length wc].toArray 25 (0, 0)) :: tail) hb'
  obtain ⟨pW, len, capW, spare, rfl, hlen, rfl, hset⟩ := hb0.at (by simp only [List.nil_append]; omega)
  simp only [List.nil_append] at hlen
  obtain rfl : len = b.ws.length := by omega
  refine R.fieldAddr (off' := 4) C rfl rfl rfl runUnderlying25 rfl sizeOf23 rfl <| R.store C rfl rfl rfl rfl sizeOf23 rfl rfl rfl (by repeat (first | exact Uh | apply Ut | apply Upd.app)) (.skip (.skip (.skip (.skip (.here .nil))))) <| R.done C <| Xr C rfl rfl <| R.fieldAddr (off' := 4) C rfl rfl rfl runUnderlying25 rfl sizeOf23 rfl <| R.loadOne C rfl rfl rfl isAgg23 (by repeat (first | exact Mh | apply Mt | apply List.mem_append_right)) rfl <| Rm C rfl rfl <| R.indexAddr C rfl rfl rfl rfl runUnderlying23 sizeOf58 hk0 hk1 <| R.fieldAddr C rfl rfl rfl runUnderlying58 rfl sizeOf4 rfl <| R.store C rfl rfl rfl rfl sizeOf4 rfl rfl rfl (by repeat (first | exact Uh | apply Ut | apply Upd.app)) (by rw [Nat.zero_add]; exact Put.flat Wt.len b.ws k.toNat hki (sured (b.wt k.toNat)) spare (by rw [hwt]; exact .skip (.skip (.skip (.skip (.here .nil)))))) <| R.done C <| Xr C rfl rfl ?_
  have hb1 := hset ((b.ws.set k.toNat (sured (b.wt k.toNat))).flatMap Wt.cells) (by simp only [List.nil_append]; omega)
  refine R.finish C.1 Wt.len (by decide) (hb1.app _) fun ro3 hl3 hls3 => R.loadAgg C rfl rfl rfl isAgg25 sizeOf25 (by repeat (first | exact Mh | apply Mt)) (.take (.take (.take (.take (.take .nil))))) <| R.store C rfl rfl rfl rfl sizeOf25 rfl rfl rfl (by repeat (first | exact Uh | apply Ut)) (.here (.here (.here (.here (.here .nil))))) <| R.done C <| X.ret C rfl rfl func59 rfl (by exact (.agg rfl isAgg25 sizeOf25 (by repeat (first | exact Mh | apply Mt)) (.take (.take (.take (.take (.take .nil))))) .nil)) <| hret _ _ _ hl3 (by repeat (first | exact Sr | apply Sc)) ?_
  exact ⟨_, _, rfl, hc.mono hl3, hls3⟩
end
theorem asked_root {b : Bk} {vb : Value} {o : Int} (ho : 0 ≤ o ∧ o ≤ 255) {ro : RO} (he : Env ro) (hv : BkV ro vb b) : Root prog 9 [vb, .int .u8 o] ro (fun w _ => w = .bool true) := by
  intro Post hret
  have hJ : Closed prog true (JM prog (Go.Conc.Good prog Post)) := JM.closed
  have hvv := hv
  obtain ⟨vc, vw, rfl, hc, hw⟩ := hv
  obtain ⟨wb, wc, rfl⟩ := hw.form
  let main := true
  let J := JM prog (Go.Conc.Good prog Post)
  refine enter_X (n := 144) func9 rfl rfl (Nl rfl) ?_
  have C : Ctx prog main J (bf 9 .normal) := ⟨hJ, by decide⟩
  refine Xr C rfl rfl <| R.box C rfl rfl rfl rfl fun p2 => Ad C rfl rfl <| Xs C <| Xr C rfl rfl <| R.loadAgg C rfl rfl rfl isAgg25 sizeOf25 (by repeat (first | exact Mh | apply Mt)) (.take (.take (.take (.take (.take .nil))))) <| R.callP C rfl rfl rfl rfl (fitR_c hJ hvv) <| R.not C rfl rfl rfl <| R.done C <| X.cond C.1 rfl (fun hfit => ?_) (fun hfit => ?_)
  · have hfit := hfit
    refine Xr C rfl rfl <| R.callR C rfl rfl rfl rfl ((found_c _ he)) fun v9 ro9 hl9 hq9 => Ad C rfl rfl <| X.ret0 C (by kernel_rfl) rfl rfl func9 rfl (by exact (.tmp rfl .nil)) fun w9 hs9 => hret _ _ _ hl9 ?_ w9 hs9
    exact hq9
  · have hfit := hfit
    have hch : checkChart b = 0 := by simpa using hfit
    have hg := good_iff.1 hch
    have hnw := hg.nw
    have hnc := hg.nc
    have hsh : b.short := ⟨by omega, by omega⟩
    refine X.skip C.1 <| Xr C rfl rfl <| R.loadAgg C rfl rfl rfl isAgg25 sizeOf25 (by repeat (first | exact Mh | apply Mt)) (.take (.take (.take (.take (.take .nil))))) <| R.callR C rfl rfl rfl rfl ((ask_c hJ he hvv hsh)) fun v1 ro1 hl1 hp1 => ?_
    subst hp1
    have hv1 := hvv.mono hl1
    have he1 := he.mono hl1
    refine Rm C rfl rfl <| R.ext C rfl rfl rfl rfl <| R.ext C rfl rfl rfl rfl <| R.ext C rfl rfl rfl rfl <| R.asg C rfl rfl rfl <| R.asg C rfl rfl rfl <| Ad C rfl rfl <| Xr C rfl rfl <| R.loadAgg C rfl rfl rfl isAgg25 sizeOf25 (by repeat (first | exact Mh | apply Mt)) (.take (.take (.take (.take (.take .nil))))) <| R.callR C rfl rfl rfl rfl ((cases_c hJ he1 hv1 hsh)) fun v2 ro2 hl2 hp2 => ?_
    subst hp2
    rw [if_neg (show ¬ checkChart b ≠ 0 by simp [hch]), hch]
    have hv2 := hv1.mono hl2
    have he2 := he1.mono hl2
    have hle := cases_le hg
    by_cases hL : cases b = []
    · have hop : openH b 0 = 9 := by rw [openH, if_neg (by simp [hch]), if_neg (by simp), if_pos hL]
      have hask : ask b = (0, 0, 9) := by rw [ask, if_pos (by rw [hop]; decide), hop]
      have hlen : ((cases b).length : Int) = 0 := by rw [hL]; rfl
      rw [hask, hlen]
      refine Rm C rfl rfl <| R.ext C rfl rfl rfl rfl <| R.ext C rfl rfl rfl rfl <| R.asg C rfl rfl rfl <| Ad C rfl rfl <| Xs C <| Xr C rfl rfl <| Rm C rfl rfl <| R.int C rfl rfl rfl rfl b_neq <| R.fixv (t := 30) (v' := .bool false) rfl (by rfl) <| Rm C rfl rfl <| Rm C rfl rfl <| R.int C rfl rfl rfl rfl b_eql <| Rm C rfl rfl <| R.int C rfl rfl rfl rfl b_gtr <| R.neBool C rfl rfl rfl rfl runUnderlying4 <| R.fixv (t := 36) (v' := .bool false) rfl (by rfl) <| R.pickF C rfl rfl rfl rfl <| R.done C <| X.cond C.1 rfl (fun h => nomatch h) (fun _ => ?_)
      refine X.skip C.1 <| Xs C <| Xr C rfl rfl <| Rm C rfl rfl <| R.int C rfl rfl rfl rfl b_neq <| R.fixv (t := 39) (v' := .bool true) rfl (by rfl) <| R.done C <| X.cond C.1 rfl (fun _ => ?_) (fun h => nomatch h)
      refine Xr C rfl rfl <| Rm C rfl rfl <| R.int C rfl rfl rfl rfl b_eql <| R.fixv (t := 41) (v' := .bool true) rfl (by rfl) <| Rm C rfl rfl <| Rm C rfl rfl <| R.int C rfl rfl rfl rfl b_eql <| R.fixv (t := 44) (v' := .bool true) rfl (by rfl) <| R.pickT C rfl rfl rfl rfl <| Rm C rfl rfl <| Rm C rfl rfl <| R.int C rfl rfl rfl rfl b_eql <| R.fixv (t := 48) (v' := .bool true) rfl (by rfl) <| R.pickT C rfl rfl rfl rfl <| Rm C rfl rfl <| R.callR C rfl rfl rfl rfl ((found_c _ he2)) fun v9 ro9 hl9 hq9 => R.pickT C rfl rfl rfl rfl <| Ad C rfl rfl <| X.ret0 C (by kernel_rfl) rfl rfl func9 rfl (by exact (.tmp rfl .nil)) fun w9 hs9 => hret _ _ _ (RO.le_trans hl1 (RO.le_trans hl2 hl9)) ?_ w9 hs9
      exact hq9
    · have hop : openH b 0 = 0 := by rw [openH, if_neg (by simp [hch]), if_neg (by simp), if_neg hL]
      have hask : ask b = ((askUpto (cases b) b.ws.length).1, (askUpto (cases b) b.ws.length).2, 0) := by rw [ask, if_neg (by simp [hop])]
      rw [hask]
      have hpos : 0 < (cases b).length := List.length_pos_iff.2 hL
      obtain ⟨a1, a2, a3, a4, a5, a6⟩ := askUpto_law (cases b) b.ws.length
      generalize hk : (askUpto (cases b) b.ws.length).1 = k at *
      generalize hlf : (askUpto (cases b) b.ws.length).2 = left at *
      generalize hN : (cases b).length = N at *
      have hleft : 0 ≤ left := by
        by_cases h0 : k < 0
        · have := a4.1 h0; omega
        · have := (a6 (by omega)).1
          have hc1 := cnt_le (cases b) k.toNat
          unfold worst at this; omega
      refine Rm C rfl rfl <| R.ext C rfl rfl rfl rfl <| R.ext C rfl rfl rfl rfl <| R.asg C rfl rfl rfl <| Ad C rfl rfl <| Xs C <| Xr C rfl rfl <| Rm C rfl rfl <| R.int C rfl rfl rfl rfl b_neq <| R.fixv (t := 30) (v' := .bool false) rfl (by rfl) <| Rm C rfl rfl <| Rm C rfl rfl <| R.int C rfl rfl rfl rfl b_eql <| R.fixv (t := 33) (v' := .bool true) rfl (by rfl) <| Rm C rfl rfl <| R.int C rfl rfl rfl rfl b_gtr <| R.fixv (t := 35) (v' := .bool true) rfl (by (exact congrArg Value.bool (by simp; omega))) <| R.neBool C rfl rfl rfl rfl runUnderlying4 <| R.fixv (t := 36) (v' := .bool false) rfl (by rfl) <| R.pickF C rfl rfl rfl rfl <| R.done C <| X.cond C.1 rfl (fun h => nomatch h) (fun _ => ?_)
      refine X.skip C.1 <| Xs C <| Xr C rfl rfl <| Rm C rfl rfl <| R.int C rfl rfl rfl rfl b_neq <| R.fixv (t := 39) (v' := .bool false) rfl (by rfl) <| R.done C <| X.cond C.1 rfl (fun h => nomatch h) (fun _ => ?_)
      refine X.skip C.1 <| Xs C <| Xr C rfl rfl <| Rm C rfl rfl <| R.fieldAddr (off' := 4) C rfl rfl rfl runUnderlying25 rfl sizeOf23 rfl <| R.loadOne C rfl rfl rfl isAgg23 (by repeat (first | exact Mh | apply Mt)) rfl <| R.lenSlice C rfl rfl rfl runUnderlying23 <| R.int C rfl rfl rfl rfl (b_sub (by omega) (by omega)) <| R.callP C rfl rfl rfl rfl (betweenR_c hJ _ _ _ _) <| R.not C rfl rfl rfl <| R.fixv (t := 59) (v' := .bool false) rfl (by (exact congrArg Value.bool (by simp [between]; omega))) <| Rm C rfl rfl <| Rm C rfl rfl <| R.int C rfl rfl rfl rfl b_lss <| Rm C rfl rfl <| Rm C rfl rfl <| R.int C rfl rfl rfl rfl b_eql <| R.neBool C rfl rfl rfl rfl runUnderlying4 <| R.fixv (t := 66) (v' := .bool false) rfl (by (exact congrArg Value.bool (by by_cases h0 : k < 0 <;> simp [h0]; exact a4.1 h0; exact fun h => h0 (a4.2 h)))) <| R.pickF C rfl rfl rfl rfl <| Rm C rfl rfl <| Rm C rfl rfl <| Rm C rfl rfl <| R.int C rfl rfl rfl rfl b_gtr <| R.fixv (t := 71) (v' := .bool false) rfl (by (exact congrArg Value.bool (by simp; omega))) <| R.pickF C rfl rfl rfl rfl <| R.done C <| X.cond C.1 rfl (fun h => nomatch h) (fun _ => ?_)
      refine X.skip C.1 <| Xs C <| Xr C rfl rfl <| R.fieldAddr (off' := 4) C rfl rfl rfl runUnderlying25 rfl sizeOf23 rfl <| R.loadOne C rfl rfl rfl isAgg23 (by repeat (first | exact Mh | apply Mt)) rfl <| R.lenSlice C rfl rfl rfl runUnderlying23 <| R.int C rfl rfl rfl rfl b_eql <| R.done C <| X.cond C.1 rfl (fun hz => ?_) (fun hz => ?_)
      · have hz := hz
        refine Xr C rfl rfl <| R.callR C rfl rfl rfl rfl ((found_c _ he2)) fun v9 ro9 hl9 hq9 => Ad C rfl rfl <| X.ret0 C (by kernel_rfl) rfl rfl func9 rfl (by exact (.tmp rfl .nil)) fun w9 hs9 => hret _ _ _ (RO.le_trans hl1 (RO.le_trans hl2 hl9)) ?_ w9 hs9
        exact hq9
      · have hz := hz
        have hnp : 0 < b.ws.length := List.length_pos_iff.2 (by simpa using hz)
        obtain ⟨i, hi⟩ : ∃ i, i = o % (b.ws.length : Int) := ⟨_, rfl⟩
        have hi0 : 0 ≤ i := by rw [hi]; exact Int.emod_nonneg _ (by omega)
        have hi1 : i < b.ws.length := by rw [hi]; exact Int.emod_lt_of_pos _ (by omega)
        refine X.skip C.1 <| Xr C rfl rfl <| Rm C rfl rfl <| R.convInt C rfl rfl rfl runUnderlying5 runUnderlying3 (wrap64 (by omega) (by omega)) <| R.fieldAddr (off' := 4) C rfl rfl rfl runUnderlying25 rfl sizeOf23 rfl <| R.loadOne C rfl rfl rfl isAgg23 (by repeat (first | exact Mh | apply Mt)) rfl <| R.lenSlice C rfl rfl rfl runUnderlying23 <| R.int C rfl rfl rfl rfl (b_remP (by omega) (by omega)) <| R.fixv (t := 83) (v' := .int .i64 i) rfl (by exact congrArg (Value.int .i64) hi.symm) <| Ad C rfl rfl <| Xr C rfl rfl <| R.loadAgg C rfl rfl rfl isAgg25 sizeOf25 (by repeat (first | exact Mh | apply Mt)) (.take (.take (.take (.take (.take .nil))))) <| Rm C rfl rfl <| R.callR C rfl rfl rfl rfl ((trustedR_c hJ hv2 hg hi0 hi1)) fun v3 ro3 hl3 hv3 => ?_
        have he3 := he2.mono hl3
        have hg3 : (trusted b i).good := good_trusted hg
        have hch3 : checkChart (trusted b i) = 0 := good_iff.2 hg3
        have hsh3 : (trusted b i).short := by have := hg3.nc; have := hg3.nw; exact ⟨by omega, by omega⟩
        refine R.callR C rfl rfl rfl rfl ((cases_c hJ he3 hv3 hsh3)) fun v4 ro4 hl4 hp4 => ?_
        subst hp4
        rw [if_neg (show ¬ checkChart (trusted b i) ≠ 0 by simp [hch3]), hch3, cases_trusted_len b (show i.toNat < b.ws.length by omega), hN]
        have hci := cnt_le (cases b) i.toNat
        rw [hN] at hci
        have hwi := a5 i.toNat (by omega)
        have hwi2 : worst (cases b) i.toNat = max (cnt (cases b) i.toNat : Int) (N - cnt (cases b) i.toNat) := by rw [worst, hN]
        have hwi3 : 0 ≤ k → i < k → left < worst (cases b) i.toNat := fun h0 h1 => (a6 h0).2 i.toNat (by omega)
        generalize hcn : cnt (cases b) i.toNat = cn at *
        have he4 := he3.mono hl4
        have hv4 := (hv2.mono hl3).mono hl4
        by_cases hk0 : k < 0
        · have _ := hk0
          refine Rm C rfl rfl <| R.ext C rfl rfl rfl rfl <| R.ext C rfl rfl rfl rfl <| R.asg C rfl rfl rfl <| Ad C rfl rfl <| Xs C <| Xr C rfl rfl <| Rm C rfl rfl <| R.int C rfl rfl rfl rfl b_neq <| R.fixv (t := 92) (v' := .bool false) rfl (by rfl) <| Rm C rfl rfl <| Rm C rfl rfl <| Rm C rfl rfl <| R.int C rfl rfl rfl rfl b_gtr <| R.fixv (t := 96) (v' := .bool false) rfl (by (exact congrArg Value.bool (by simp; omega))) <| R.pickF C rfl rfl rfl rfl <| R.done C <| X.cond C.1 rfl (fun h => nomatch h) (fun _ => ?_)
          refine X.skip C.1 <| Xr C rfl rfl <| Rm C rfl rfl <| Rm C rfl rfl <| Rm C rfl rfl <| R.int C rfl rfl rfl rfl (b_sub (by omega) (by omega)) <| R.max2 C rfl rfl rfl rfl <| Ad C rfl rfl <| Xs C <| Xr C rfl rfl <| Rm C rfl rfl <| Rm C rfl rfl <| R.int C rfl rfl rfl rfl b_lss <| R.fixv (t := 105) (v' := .bool false) rfl (by (exact congrArg Value.bool (by simp; omega))) <| Rm C rfl rfl <| Rm C rfl rfl <| Rm C rfl rfl <| R.int C rfl rfl rfl rfl b_eql <| Rm C rfl rfl <| R.fix (t := 110) rfl (fun hq => ?_) (fun hq => ?_)
          · have hq := hq
            refine Rm C rfl rfl <| R.int C rfl rfl rfl rfl b_geq <| R.fixv (t := 112) (v' := .bool false) rfl (by (exact congrArg Value.bool (by simp; omega))) <| R.pickT C rfl rfl rfl rfl <| Rm C rfl rfl <| R.pass C rfl rfl <| R.pass C rfl rfl <| R.pass C rfl rfl <| R.pickF C rfl rfl rfl rfl <| R.pickF C rfl rfl rfl rfl <| R.done C <| X.cond C.1 rfl (fun h => nomatch h) (fun _ => ?_)
            refine X.skip C.1 <| Xs C <| Xr C rfl rfl <| Rm C rfl rfl <| R.int C rfl rfl rfl rfl b_lss <| R.fixv (t := 121) (v' := .bool true) rfl (by (exact congrArg Value.bool (by simp; omega))) <| R.done C <| X.cond C.1 rfl (fun _ => ?_) (fun h => nomatch h)
            refine Xr C rfl rfl <| R.callR C rfl rfl rfl rfl ((found_c _ he4)) fun v9 ro9 hl9 hq9 => Ad C rfl rfl <| X.ret0 C (by kernel_rfl) rfl rfl func9 rfl (by exact (.tmp rfl .nil)) fun w9 hs9 => hret _ _ _ (RO.le_trans hl1 (RO.le_trans hl2 (RO.le_trans hl3 (RO.le_trans hl4 hl9)))) ?_ w9 hs9
            exact hq9
          · have hq := hq
            refine R.pass C rfl rfl <| R.pass C rfl rfl <| R.pickF C rfl rfl rfl rfl <| Rm C rfl rfl <| R.pass C rfl rfl <| R.pass C rfl rfl <| R.pass C rfl rfl <| R.pickF C rfl rfl rfl rfl <| R.pickF C rfl rfl rfl rfl <| R.done C <| X.cond C.1 rfl (fun h => nomatch h) (fun _ => ?_)
            refine X.skip C.1 <| Xs C <| Xr C rfl rfl <| Rm C rfl rfl <| R.int C rfl rfl rfl rfl b_lss <| R.fixv (t := 121) (v' := .bool true) rfl (by (exact congrArg Value.bool (by simp; omega))) <| R.done C <| X.cond C.1 rfl (fun _ => ?_) (fun h => nomatch h)
            refine Xr C rfl rfl <| R.callR C rfl rfl rfl rfl ((found_c _ he4)) fun v9 ro9 hl9 hq9 => Ad C rfl rfl <| X.ret0 C (by kernel_rfl) rfl rfl func9 rfl (by exact (.tmp rfl .nil)) fun w9 hs9 => hret _ _ _ (RO.le_trans hl1 (RO.le_trans hl2 (RO.le_trans hl3 (RO.le_trans hl4 hl9)))) ?_ w9 hs9
            exact hq9
        · have hkk := a6 (by omega)
          have hk2 : k < b.ws.length := a2
          have hck := cnt_le (cases b) k.toNat
          rw [hN] at hck
          have hwk : left = max (cnt (cases b) k.toNat : Int) (N - cnt (cases b) k.toNat) := by rw [hkk.1, worst, hN]
          by_cases hm : left = max ((N : Int) - cn) (N - (N - cn))
          · have hik : ¬ i < k := fun h => by have := hwi3 (by omega) h; omega
            refine Rm C rfl rfl <| R.ext C rfl rfl rfl rfl <| R.ext C rfl rfl rfl rfl <| R.asg C rfl rfl rfl <| Ad C rfl rfl <| Xs C <| Xr C rfl rfl <| Rm C rfl rfl <| R.int C rfl rfl rfl rfl b_neq <| R.fixv (t := 92) (v' := .bool false) rfl (by rfl) <| Rm C rfl rfl <| Rm C rfl rfl <| Rm C rfl rfl <| R.int C rfl rfl rfl rfl b_gtr <| R.fixv (t := 96) (v' := .bool false) rfl (by (exact congrArg Value.bool (by simp; omega))) <| R.pickF C rfl rfl rfl rfl <| R.done C <| X.cond C.1 rfl (fun h => nomatch h) (fun _ => ?_)
            refine X.skip C.1 <| Xr C rfl rfl <| Rm C rfl rfl <| Rm C rfl rfl <| Rm C rfl rfl <| R.int C rfl rfl rfl rfl (b_sub (by omega) (by omega)) <| R.max2 C rfl rfl rfl rfl <| Ad C rfl rfl <| Xs C <| Xr C rfl rfl <| Rm C rfl rfl <| Rm C rfl rfl <| R.int C rfl rfl rfl rfl b_lss <| R.fixv (t := 105) (v' := .bool false) rfl (by (exact congrArg Value.bool (by simp; omega))) <| Rm C rfl rfl <| Rm C rfl rfl <| Rm C rfl rfl <| R.int C rfl rfl rfl rfl b_eql <| R.fixv (t := 109) (v' := .bool true) rfl (by (exact congrArg Value.bool (by simp; omega))) <| Rm C rfl rfl <| Rm C rfl rfl <| R.int C rfl rfl rfl rfl b_geq <| R.fixv (t := 112) (v' := .bool true) rfl (by (exact congrArg Value.bool (by simp; omega))) <| R.pickT C rfl rfl rfl rfl <| Rm C rfl rfl <| Rm C rfl rfl <| Rm C rfl rfl <| R.int C rfl rfl rfl rfl b_lss <| R.fixv (t := 117) (v' := .bool false) rfl (by (exact congrArg Value.bool (by simp; omega))) <| R.pickT C rfl rfl rfl rfl <| R.pickF C rfl rfl rfl rfl <| R.done C <| X.cond C.1 rfl (fun h => nomatch h) (fun _ => ?_)
            refine X.skip C.1 <| Xs C <| Xr C rfl rfl <| Rm C rfl rfl <| R.int C rfl rfl rfl rfl b_lss <| R.fixv (t := 121) (v' := .bool false) rfl (by (exact congrArg Value.bool (by simp; omega))) <| R.done C <| X.cond C.1 rfl (fun h => nomatch h) (fun _ => ?_)
            refine X.skip C.1 <| Xr C rfl rfl <| R.loadAgg C rfl rfl rfl isAgg25 sizeOf25 (by repeat (first | exact Mh | apply Mt)) (.take (.take (.take (.take (.take .nil))))) <| Rm C rfl rfl <| R.callR C rfl rfl rfl rfl ((trustedR_c hJ hv4 hg (by omega) hk2)) fun v5 ro5 hl5 hv5 => ?_
            have he5 := he4.mono hl5
            have hg5 : (trusted b k).good := good_trusted hg
            have hch5 : checkChart (trusted b k) = 0 := good_iff.2 hg5
            have hsh5 : (trusted b k).short := by have := hg5.nc; have := hg5.nw; exact ⟨by omega, by omega⟩
            refine R.callR C rfl rfl rfl rfl ((cases_c hJ he5 hv5 hsh5)) fun v6 ro6 hl6 hp6 => ?_
            subst hp6
            rw [if_neg (show ¬ checkChart (trusted b k) ≠ 0 by simp [hch5]), hch5, cases_trusted_len b (show k.toNat < b.ws.length by omega), hN]
            have he6 := he5.mono hl6
            refine Rm C rfl rfl <| R.ext C rfl rfl rfl rfl <| R.ext C rfl rfl rfl rfl <| R.asg C rfl rfl rfl <| Ad C rfl rfl <| Xr C rfl rfl <| Rm C rfl rfl <| R.int C rfl rfl rfl rfl b_eql <| R.fixv (t := 131) (v' := .bool true) rfl (by rfl) <| Rm C rfl rfl <| Rm C rfl rfl <| Rm C rfl rfl <| Rm C rfl rfl <| R.int C rfl rfl rfl rfl (b_sub (by omega) (by omega)) <| R.max2 C rfl rfl rfl rfl <| Rm C rfl rfl <| R.int C rfl rfl rfl rfl b_eql <| R.fixv (t := 139) (v' := .bool true) rfl (by (exact congrArg Value.bool (by simp; omega))) <| R.pickT C rfl rfl rfl rfl <| Rm C rfl rfl <| R.callR C rfl rfl rfl rfl ((found_c _ he6)) fun v9 ro9 hl9 hq9 => R.pickT C rfl rfl rfl rfl <| Ad C rfl rfl <| X.ret0 C (by kernel_rfl) rfl rfl func9 rfl (by exact (.tmp rfl .nil)) fun w9 hs9 => hret _ _ _ (RO.le_trans hl1 (RO.le_trans hl2 (RO.le_trans hl3 (RO.le_trans hl4 (RO.le_trans hl5 (RO.le_trans hl6 hl9)))))) ?_ w9 hs9
            exact hq9
          · have _ := hm
            refine Rm C rfl rfl <| R.ext C rfl rfl rfl rfl <| R.ext C rfl rfl rfl rfl <| R.asg C rfl rfl rfl <| Ad C rfl rfl <| Xs C <| Xr C rfl rfl <| Rm C rfl rfl <| R.int C rfl rfl rfl rfl b_neq <| R.fixv (t := 92) (v' := .bool false) rfl (by rfl) <| Rm C rfl rfl <| Rm C rfl rfl <| Rm C rfl rfl <| R.int C rfl rfl rfl rfl b_gtr <| R.fixv (t := 96) (v' := .bool false) rfl (by (exact congrArg Value.bool (by simp; omega))) <| R.pickF C rfl rfl rfl rfl <| R.done C <| X.cond C.1 rfl (fun h => nomatch h) (fun _ => ?_)
            refine X.skip C.1 <| Xr C rfl rfl <| Rm C rfl rfl <| Rm C rfl rfl <| Rm C rfl rfl <| R.int C rfl rfl rfl rfl (b_sub (by omega) (by omega)) <| R.max2 C rfl rfl rfl rfl <| Ad C rfl rfl <| Xs C <| Xr C rfl rfl <| Rm C rfl rfl <| Rm C rfl rfl <| R.int C rfl rfl rfl rfl b_lss <| R.fixv (t := 105) (v' := .bool false) rfl (by (exact congrArg Value.bool (by simp; omega))) <| Rm C rfl rfl <| Rm C rfl rfl <| Rm C rfl rfl <| R.int C rfl rfl rfl rfl b_eql <| R.fixv (t := 109) (v' := .bool false) rfl (by (exact congrArg Value.bool (by simp; omega))) <| Rm C rfl rfl <| R.pass C rfl rfl <| R.pass C rfl rfl <| R.pickF C rfl rfl rfl rfl <| Rm C rfl rfl <| R.pass C rfl rfl <| R.pass C rfl rfl <| R.pass C rfl rfl <| R.pickF C rfl rfl rfl rfl <| R.pickF C rfl rfl rfl rfl <| R.done C <| X.cond C.1 rfl (fun h => nomatch h) (fun _ => ?_)
            refine X.skip C.1 <| Xs C <| Xr C rfl rfl <| Rm C rfl rfl <| R.int C rfl rfl rfl rfl b_lss <| R.fixv (t := 121) (v' := .bool false) rfl (by (exact congrArg Value.bool (by simp; omega))) <| R.done C <| X.cond C.1 rfl (fun h => nomatch h) (fun _ => ?_)
            refine X.skip C.1 <| Xr C rfl rfl <| R.loadAgg C rfl rfl rfl isAgg25 sizeOf25 (by repeat (first | exact Mh | apply Mt)) (.take (.take (.take (.take (.take .nil))))) <| Rm C rfl rfl <| R.callR C rfl rfl rfl rfl ((trustedR_c hJ hv4 hg (by omega) hk2)) fun v5 ro5 hl5 hv5 => ?_
            have he5 := he4.mono hl5
            have hg5 : (trusted b k).good := good_trusted hg
            have hch5 : checkChart (trusted b k) = 0 := good_iff.2 hg5
            have hsh5 : (trusted b k).short := by have := hg5.nc; have := hg5.nw; exact ⟨by omega, by omega⟩
            refine R.callR C rfl rfl rfl rfl ((cases_c hJ he5 hv5 hsh5)) fun v6 ro6 hl6 hp6 => ?_
            subst hp6
            rw [if_neg (show ¬ checkChart (trusted b k) ≠ 0 by simp [hch5]), hch5, cases_trusted_len b (show k.toNat < b.ws.length by omega), hN]
            have he6 := he5.mono hl6
            refine Rm C rfl rfl <| R.ext C rfl rfl rfl rfl <| R.ext C rfl rfl rfl rfl <| R.asg C rfl rfl rfl <| Ad C rfl rfl <| Xr C rfl rfl <| Rm C rfl rfl <| R.int C rfl rfl rfl rfl b_eql <| R.fixv (t := 131) (v' := .bool true) rfl (by rfl) <| Rm C rfl rfl <| Rm C rfl rfl <| Rm C rfl rfl <| Rm C rfl rfl <| R.int C rfl rfl rfl rfl (b_sub (by omega) (by omega)) <| R.max2 C rfl rfl rfl rfl <| Rm C rfl rfl <| R.int C rfl rfl rfl rfl b_eql <| R.fixv (t := 139) (v' := .bool true) rfl (by (exact congrArg Value.bool (by simp; omega))) <| R.pickT C rfl rfl rfl rfl <| Rm C rfl rfl <| R.callR C rfl rfl rfl rfl ((found_c _ he6)) fun v9 ro9 hl9 hq9 => R.pickT C rfl rfl rfl rfl <| Ad C rfl rfl <| X.ret0 C (by kernel_rfl) rfl rfl func9 rfl (by exact (.tmp rfl .nil)) fun w9 hs9 => hret _ _ _ (RO.le_trans hl1 (RO.le_trans hl2 (RO.le_trans hl3 (RO.le_trans hl4 (RO.le_trans hl5 (RO.le_trans hl6 hl9)))))) ?_ w9 hs9
            exact hq9
end Go.Lg.B
namespace Go.Lg.B
open Go Go.Proofs Go.Proofs.YtlkmnfdipiielaaGreatDoor Go.Proofs.Tryz
set_option maxRecDepth 100000
theorem asked_k1 : (Rows.bearingAskedRow.inPlace == prog.inPlace 9) = true := by kernel_rfl
theorem asked_k2 : (Rows.bearingAskedRow.unfollowed == prog.unfollowed 9) = true := by kernel_rfl
theorem asked_k3 : (Rows.bearingAskedRow.recurses == prog.recurses 9) = true := by kernel_rfl
theorem asked_k4 : (Rows.bearingAskedRow.named == prog.varsNamed 9) = true := by kernel_rfl
theorem asked_name : prog.funcNamed "lagan/laganlaw01.BearingAsked" = some 9 := by kernel_rfl
theorem asked_goes : true = Rows.bearingAskedRow.goesBy prog := by kernel_rfl
theorem asked_wf : Rows.bearingAskedRow.wfByText (OpenSpec.ofChange Rows.bearingAskedSpec) = true := by kernel_rfl
theorem asked_facts : joinedFacts prog 9 Tryz.f9 Rows.bearingAskedSpec Rows.bearingAskedRow = true := by
  unfold joinedFacts
  exact (and_mk (and_mk (and_mk (and_mk (and_mk (and_mk (and_mk (and_mk (and_mk (and_mk (and_mk (and_mk (and_mk (and_mk (and_mk (and_mk (and_mk (and_mk (and_mk (and_mk (and_mk (and_mk (and_mk (and_mk (and_mk (and_mk (and_mk (and_mk (and_mk (and_mk (and_mk (by as_aux_lemma => kernel_rfl)
    k_lo)
    k_mr)
    (by as_aux_lemma => kernel_rfl))
    (by as_aux_lemma => kernel_rfl))
    (by as_aux_lemma => kernel_rfl))
    k_stops)
    (by as_aux_lemma => kernel_rfl))
    k_knobs)
    asked_k1)
    asked_k2)
    asked_k3)
    asked_k4)
    (by as_aux_lemma => kernel_rfl))
    (by as_aux_lemma => kernel_rfl))
    (by as_aux_lemma => kernel_rfl))
    (by as_aux_lemma => kernel_rfl))
    (by as_aux_lemma => kernel_rfl))
    (by as_aux_lemma => kernel_rfl))
    (by as_aux_lemma => kernel_rfl))
    (by as_aux_lemma => kernel_rfl))
    (by as_aux_lemma => kernel_rfl))
    (beq_iff_eq.2 k_pk.symm))
    (by as_aux_lemma => kernel_rfl))
    k_heard)
    k_may)
    (beq_iff_eq.2 k_lift.symm))
    (beq_iff_eq.2 k_make))
    (by as_aux_lemma => kernel_rfl))
    (by as_aux_lemma => kernel_rfl))
    (by as_aux_lemma => kernel_rfl))
    (by as_aux_lemma => kernel_rfl))
end Go.Lg.B
namespace Go.Proofs.YtlkmnfdipiielaaGreatDoor
open Go Go.Conc Go.Lg Go.Lg.B Go.ChangeShapes Go.RowKit Go.WideShapes
set_option maxRecDepth 100000
theorem asked_lifted (os : Os) (started : os.Started) (H : Type) (enc : TypeId × Value → H) :
    ReturnsInLeavingWide {} Tryz.checked os 9 .any (fun w args => (Rows.bearingAskedSpec.pre enc Tryz.prog Tryz.f9 [] false w args ∧ laidMetH Tryz.prog laid1 w) ∧ sizedMet enc Tryz.prog Tryz.f9 (OpenSpec.ofChange Rows.bearingAskedSpec) false w args)
      (Rows.bearingAskedSpec.post enc Tryz.prog Tryz.f9 false true false false) := by
  refine leaving_of_root (C := Tryz.checked) (tb := 4) (X := fun w _ => laidMetH Tryz.prog laid1 w) (fun _ _ _ hh h => h.of_heap hh) own0 started Tryz.func9 laid0 (by
      intro t ht
      rw [Tryz.params9] at ht
      have hm : t ∈ [25, 5] := ht
      have hall : ([25, 5].all fun u => Tryz.prog.readableRec u && decide (u < Tryz.prog.types.size)) = true := by kernel_rfl
      have := List.all_eq_true.1 hall t hm
      rw [Bool.and_eq_true, decide_eq_true_eq] at this
      exact this) rfl (by kernel_rfl) Tryz.underlying4
    (ChangeSpec.witness_shaped (enc := enc) (C := Tryz.checked) (os := os) (X := fun w _ => laidMetH Tryz.prog laid1 w) false (World.doorLaid Tryz.prog 89 os) #[.agg #[.int .i64 0, .int .i64 0, .int .i64 0, .slice none 0 0, .slice none 0 0], .int .u8 0] 8 rfl (door_shaped os _) (by kernel_rfl) (by kernel_rfl) (by kernel_rfl) (door_met os _)) ?_
  intro W base args ds gs before hval hW _ _ hL
  obtain ⟨p, q, hA, hV, rfl, _, _⟩ := hW
  obtain ⟨rfl, rfl⟩ := trodVars_none hV
  have hA : DataW.TrodAll enc Tryz.prog W 0 (fun _ => true) true Tryz.f9.params.toList args.toList ds p := hA
  have hval : ∀ (j : Nat) t v, Tryz.f9.params[j]? = some t → args[j]? = some v → Value.okWide Tryz.prog W .any base t v := hval
  rw [Tryz.params9] at hA hval
  obtain ⟨v1, l1, d1, k1, p1, q1, e1, rfl, rfl, h1, hA⟩ := trodAll_cons hA
  obtain ⟨v2, l2, d2, k2, p2, q2, rfl, rfl, rfl, h2, hA⟩ := trodAll_cons hA
  obtain ⟨rfl, rfl, rfl⟩ := trodAll_nil hA
  have ea : args = #[v1, v2] := Array.toList_inj.1 e1
  subst ea
  obtain ⟨b, b1⟩ := argBk (hval 0 25 v1 rfl rfl) h1
  obtain ⟨o, rfl, o1⟩ := argU8 (hval 1 5 v2 rfl rfl) h2
  exact ⟨rfl, asked_root o1 (env_of_laid hL) b1⟩
theorem asked_row : Rows.BearingAskedSaid :=
  OpenClaim.holds_of_wide_leaving 9 Tryz.f9 rfl rfl rfl rfl rfl rfl rfl ⟨rfl, rfl, rfl, rfl, rfl⟩ rfl rfl rfl rfl rfl asked_name Tryz.func9 asked_facts
    (of_decide_eq_true (by kernel_rfl)) (by unfold Func.isWrapper; first | (rw [if_pos (by decide +kernel)]; kernel_rfl) | (rw [if_neg (by decide +kernel)]; exact ⟨rfl, rfl⟩))
    (fun os started H enc _ => asked_lifted os started H enc)
theorem asked_holds : Rows.BearingAskedCardSaid :=
  card_goes .later [.funcs] true (true, "6da441031df1273c87b994104071112c0d6d76e328f9edd428a3df0ab3bd48e1") true
    asked_row asked_wf bearingAsked_row_tie rfl ⟨rfl, rfl⟩ k_main rfl
    (fun f fn hf hfn => by
      obtain rfl : f = 9 := Option.some.inj (asked_name.symm.trans hf) |>.symm
      obtain rfl : fn = Tryz.f9 := (Option.some.inj (Tryz.func9.symm.trans hfn)).symm
      exact ⟨k_looks, fun j t ht => by
        rw [Tryz.params9] at ht
        have hm : t ∈ [25, 5] := by simpa using Array.mem_of_getElem? ht
        have hall : ([25, 5].all fun u => !Tryz.prog.wantsStandIn u) = true := by kernel_rfl
        exact (show Tryz.prog.wantsStandIn t = false by simpa using List.all_eq_true.1 hall t hm)⟩)
    asked_goes
end Go.Proofs.YtlkmnfdipiielaaGreatDoor
