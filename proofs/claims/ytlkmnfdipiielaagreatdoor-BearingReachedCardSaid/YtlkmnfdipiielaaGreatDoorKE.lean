/-
  Part 5 of what all proofs of this seat share: laws of the model that the walks use, and what functions of the program reckon. Conditions: the premises that each theorem states.
-/
import Derived.Test.YtlkmnfdipiielaaGreatDoorKD
import Derived.Conc.LeavingOf
import Derived.LaidMore
import Derived.WideKeyArgs
import Derived.WideShapes
import Derived.ChangeShapes
import Derived.Test.YtlkmnfdipiielaaGreatDoorTie
import Derived.Test.YtlkmnfdipiielaaGreatDoorCards
import Derived.OpenShut
import Derived.SevenTiedAt
import Derived.Test.YtlkmnfdipiielaaGreatDoorRows
import Derived.JoinedOf
set_option maxRecDepth 100000
set_option linter.all false
set_option linter.unusedVariables false
set_option linter.unusedSimpArgs false
set_option linter.unusedSectionVars false
namespace Go.Lg.B
open Go Go.Conc Go.Lg Go.Proofs Go.Proofs.Tryz
noncomputable def b19 : Code := Tryz.f19.body.getD .skip
noncomputable def g20 : Code := cR (cR (cR (cR (cR (cR (cR (cR (cR (cR (cR (cR (cR (cR (cR (cR (cR (cR (cR (cR (b19))))))))))))))))))))
variable {Q : Machine → Outcome → World → Trace → Prop}
theorem found_end {p1 p24 : Nat} {cb wb : Option Addr} {cc wc : Nat} {ro : RO} {c : Frame} {cs : List Frame} {tail : List (Nat × Obj)} {x1 x2 x3 x4 x5 : Value} (he : Env ro) (hc : Ls Rc.cells 2 ro (.slice cb 2 cc) exB.cs) (hw : Ls Wt.cells 5 ro (.slice wb 3 wc) exB.ws)
    (hret : ∀ ro' own, ro.le ro' → tail.Sublist own → JM prog Q (G (c.finish (.bool true)) cs) ⟨ro', own⟩) :
    X (JM prog Q) (bf 19 .normal) (c :: cs) 340 [.code g20] [] [(1, .pointer (some ⟨p1, 0, none⟩)), (24, .pointer (some ⟨p24, 0, none⟩))] ⟨ro, (p24, .cells [x1, x2, x3, x4, x5].toArray 25 (0, 0)) :: (p1, .cells [.int .i64 3, .int .i64 3, .int .i64 1, .slice cb 2 cc, .slice wb 3 wc].toArray 25 (0, 0)) :: tail⟩ := by
  have hJ : Closed prog true (JM prog Q) := JM.closed
  let main := true
  let J := JM prog Q
  have C : Ctx prog true (JM prog Q) (bf 19 .normal) := ⟨hJ, by decide⟩
  have hv : BkV ro (.agg [.int .i64 3, .int .i64 3, .int .i64 1, .slice cb 2 cc, .slice wb 3 wc].toArray) exB := ⟨_, _, rfl, hc, hw⟩
  refine Xr C rfl rfl <| R.loadAgg C rfl rfl rfl isAgg25 sizeOf25 (by repeat (first | exact Mh | apply Mt)) Tk5 <| R.callR C rfl rfl rfl rfl ((x_trust hJ he hv)) fun v1 ro1 hl1 hq1 => ?_
  obtain ⟨v1, hv1, rfl⟩ := hq1
  have hv1' := hv1
  obtain ⟨vc1, vw1, rfl, hc1, hw1⟩ := hv1
  obtain ⟨cb1, cc1, rfl⟩ := hc1.form
  obtain ⟨wb1, wc1, rfl⟩ := hw1.form
  have he1 := he.mono hl1
  refine Rm C rfl rfl <| R.ext C rfl rfl rfl rfl <| R.ext C rfl rfl rfl rfl <| R.store C rfl rfl rfl rfl sizeOf25 rfl rfl rfl (by repeat (first | exact Uh | apply Ut)) (.here (.here (.here (.here (.here .nil))))) <| Ad C rfl rfl <| Xr C rfl rfl <| R.loadAgg C rfl rfl rfl isAgg25 sizeOf25 (by repeat (first | exact Mh | apply Mt)) Tk5 <| R.callR C rfl rfl rfl rfl ((x_casesT hJ he1 hv1')) fun v2 ro2 hl2 hq2 => ?_
  subst hq2
  have he2 := he1.mono hl2
  have hl12 := RO.le_trans hl1 hl2
  refine Rm C rfl rfl <| R.ext C rfl rfl rfl rfl <| R.ext C rfl rfl rfl rfl <| R.asg C rfl rfl rfl <| Ad C rfl rfl <| Xs C <| Xd C fun hok => D5 C 0 hok rfl rfl isAgg25 sizeOf25 (by repeat (first | exact Mh | apply Mt)) Tk5 <| De 1 (some 278) [true] hok (fun σr rest A hk => ?_)
  refine R.callP C rfl (A.w rfl rfl) (A.x rfl rfl) (A.s rfl rfl) (one_c hJ _ _) (hk _ _ ⟨(QFs.cons (QF.of rfl (fun _ _ A h => R.loadAgg C rfl (A.w rfl rfl) (A.x rfl rfl) isAgg25 sizeOf25 (by repeat (first | exact Mh | apply Mt)) Tk5 h)) QFs.nil), ?_⟩)
  refine De 2 (some 279) [false] hok (fun σr rest A hk => ?_)
  refine R.callR C rfl (A.w rfl rfl) (A.x rfl rfl) (A.s rfl rfl) ((x_swing hJ he2 (hv.mono hl12))) fun v3 ro3 hl3 hq3 => hk _ _ ⟨QFs.nil, ?_⟩
  obtain ⟨v3, hv3, rfl⟩ := hq3
  have hv3' := hv3
  obtain ⟨vc3, vw3, rfl, hc3, hw3⟩ := hv3
  obtain ⟨cb3, cc3, rfl⟩ := hc3.form
  obtain ⟨wb3, wc3, rfl⟩ := hw3.form
  have he3 := he2.mono hl3
  refine Dm C 3 hok rfl rfl rfl <| Dp 4 hok (fun _ _ _ A h => R.ext C rfl (A.w rfl rfl) (A.x rfl rfl) rfl h) <| Dp 5 hok (fun _ _ _ A h => R.ext C rfl (A.w rfl rfl) (A.x rfl rfl) rfl h) <| De 6 none [] hok (fun σr rest A hk => ?_)
  refine R.store C rfl (A.w rfl rfl) (A.x rfl rfl) (A.x rfl rfl) sizeOf25 rfl rfl rfl (by repeat (first | exact Uh | apply Ut)) (.here (.here (.here (.here (.here .nil))))) (hk undef _ ⟨QFs.nil, ?_⟩)
  refine Dp 7 hok (fun _ _ _ A h => R.asg C rfl (A.w rfl rfl) (A.x rfl rfl) h) <| D.done C hok (by kernel_rfl) <| Xr C rfl rfl <| R.loadAgg C rfl rfl rfl isAgg25 sizeOf25 (by repeat (first | exact Mh | apply Mt)) Tk5 <| R.callR C rfl rfl rfl rfl ((x_casesS hJ he3 hv3')) fun v4 ro4 hl4 hq4 => ?_
  subst hq4
  have he4 := he3.mono hl4
  have hl14 := RO.le_trans hl12 (RO.le_trans hl3 hl4)
  have hv0 : BkV ro4 (.agg [.int .i64 3, .int .i64 3, .int .i64 0, .slice cb 2 cc, .slice wb 3 wc].toArray) ex0 := ⟨_, _, rfl, hc.mono hl14, hw.mono hl14⟩
  refine Rm C rfl rfl <| R.ext C rfl rfl rfl rfl <| R.ext C rfl rfl rfl rfl <| R.asg C rfl rfl rfl <| Ad C rfl rfl <| Xr C rfl rfl <| Rf C 2 rfl rfl runUnderlying25 rfl sizeOf3 <| R.store C rfl rfl rfl rfl sizeOf3 rfl rfl rfl (by repeat (first | exact Uh | apply Ut)) (.skip (.skip (.here .nil))) <| R.done C <| Xr C rfl rfl <| R.loadAgg C rfl rfl rfl isAgg25 sizeOf25 (by repeat (first | exact Mh | apply Mt)) Tk5 <| R.callR C rfl rfl rfl rfl ((x_where0 hJ he4 hv0)) fun v5 ro5 hl5 hq5 => ?_
  obtain ⟨vs, hvs, rfl⟩ := hq5
  have he5 := he4.mono hl5
  refine Rm C rfl rfl <| R.ext C rfl rfl rfl rfl <| R.ext C rfl rfl rfl rfl <| R.asg C rfl rfl rfl <| Ad C rfl rfl <| Xr C rfl rfl <| R.loadAgg C rfl rfl rfl isAgg25 sizeOf25 (by repeat (first | exact Mh | apply Mt)) Tk5 <| R.callR C rfl rfl rfl rfl ((x_off0 hJ he5 (hv0.mono hl5))) fun v6 ro6 hl6 hq6 => ?_
  obtain ⟨vl, hvl, rfl⟩ := hq6
  refine Rm C rfl rfl <| R.ext C rfl rfl rfl rfl <| R.ext C rfl rfl rfl rfl <| R.asg C rfl rfl rfl <| Ad C rfl rfl <| Xr C rfl rfl <| Rm C rfl rfl <| R.int C rfl rfl rfl rfl b_eql <| R.fixv (t := 299) (v' := .bool true) rfl (by rfl) <| Rm C rfl rfl <| Rm C rfl rfl <| R.int C rfl rfl rfl rfl b_eql <| R.fixv (t := 302) (v' := .bool true) rfl (by rfl) <| R.pickT C rfl rfl rfl rfl <| Rm C rfl rfl <| Rm C rfl rfl <| R.int C rfl rfl rfl rfl b_eql <| R.fixv (t := 306) (v' := .bool true) rfl (by rfl) <| R.pickT C rfl rfl rfl rfl <| Rm C rfl rfl <| Rm C rfl rfl <| R.int C rfl rfl rfl rfl b_eql <| R.fixv (t := 310) (v' := .bool true) rfl (by rfl) <| R.pickT C rfl rfl rfl rfl <| Rm C rfl rfl <| Rm C rfl rfl <| R.int C rfl rfl rfl rfl b_eql <| R.fixv (t := 314) (v' := .bool true) rfl (by rfl) <| R.pickT C rfl rfl rfl rfl <| Rm C rfl rfl <| Rm C rfl rfl <| R.int C rfl rfl rfl rfl b_eql <| R.fixv (t := 318) (v' := .bool true) rfl (by rfl) <| R.pickT C rfl rfl rfl rfl <| Rm C rfl rfl <| Rm C rfl rfl <| R.int C rfl rfl rfl rfl b_eql <| R.fixv (t := 322) (v' := .bool true) rfl (by rfl) <| R.pickT C rfl rfl rfl rfl <| Rm C rfl rfl ?_; refine Rm C rfl rfl <| R.int C rfl rfl rfl rfl b_eql <| R.fixv (t := 326) (v' := .bool true) rfl (by rfl) <| R.pickT C rfl rfl rfl rfl <| Rm C rfl rfl <| Rm C rfl rfl <| R.buildSlice C (vs := _) rfl rfl (show pvals _ _ = some (numbered 0 [_]) from rfl) rfl runUnderlying28 sizeOf3 zeroValue3 (by decide) (Cat.one rfl rfl) fun p330 => R.persist C.1 fun ro7 hl7 hp7 => R.callP C rfl rfl rfl rfl (sameInts_c hJ (hvl.mono hl7) (Ls.lit (xs := [1]) ic_len hp7) (by decide) (by decide)) <| R.fixv (t := 331) (v' := .bool true) rfl (by exact congrArg Value.bool (by kernel_rfl)) <| R.pickT C rfl rfl rfl rfl <| Rm C rfl rfl <| Rm C rfl rfl <| R.callP C rfl rfl rfl rfl (sq_c hJ _ _ _) <| R.callP C rfl rfl rfl rfl (sq_c hJ _ _ _) <| R.buildSlice C (vs := _) rfl rfl (show pvals _ _ = some (numbered 0 [_, _]) from rfl) rfl runUnderlying41 sizeOf27 zeroValue27 (by decide) ((.cons rfl rfl (.cons rfl rfl .nil))) fun p337 => R.persist C.1 fun ro8 hl8 hp8 => R.callP C rfl rfl rfl rfl (sameSquares_c hJ (hvs.mono (RO.le_trans hl6 (RO.le_trans hl7 hl8))) (Ls.lit (xs := ([⟨2, 0⟩, ⟨2, 1⟩] : List Sq)) (t := 27) (fq := (0, 0)) Sq.len (show ro8 p337 = some (.cells (([⟨2, 0⟩, ⟨2, 1⟩] : List Sq).flatMap Sq.cells).toArray 27 (0, 0)) from hp8)) (by decide) (by decide)) <| R.fixv (t := 338) (v' := .bool true) rfl (by rfl) <| R.pickT C rfl rfl rfl rfl <| Ad C rfl rfl <| X.ret C rfl rfl func19 rfl (by exact .tmp rfl .nil) ?_
  exact hret _ _ (RO.le_trans hl14 (RO.le_trans hl5 (RO.le_trans hl6 (RO.le_trans hl7 hl8)))) (by repeat (first | exact Sr | apply Sc))
noncomputable def g17 : Code := cR (cR (cR (cR (cR (cR (cR (cR (cR (cR (cR (cR (cR (cR (cR (cR (b19))))))))))))))))
theorem found_two {p1 p24 : Nat} {cb wb cbO wbO : Option Addr} {cc wc ccO wcO : Nat} {vl : Value} {ro : RO} {c : Frame} {cs : List Frame} {tail : List (Nat × Obj)} (he : Env ro) (hc : Ls Rc.cells 2 ro (.slice cb 2 cc) exB.cs) (hw : Ls Wt.cells 5 ro (.slice wb 3 wc) exB.ws)
    (hvl : LsI ro vl [0, 1]) (hcO : Ls Rc.cells 2 ro (.slice cbO 2 ccO) exO.cs) (hwO : Ls Wt.cells 5 ro (.slice wbO 4 wcO) exO.ws)
    (hret : ∀ ro' own, ro.le ro' → tail.Sublist own → JM prog Q (G (c.finish (.bool true)) cs) ⟨ro', own⟩) :
    X (JM prog Q) (bf 19 .normal) (c :: cs) 340 [.code g17] [] [(1, .pointer (some ⟨p1, 0, none⟩)), (24, .pointer (some ⟨p24, 0, none⟩)), (21, vl), (3, .int .i64 0), (17, .int .i64 0), (5, .int .i64 0), (22, .int .i64 0), (23, .int .i64 10), (7, .int .i64 0), (9, .int .i64 0)]
      ⟨ro, (p24, .cells [.int .i64 3, .int .i64 3, .int .i64 1, .slice cbO 2 ccO, .slice wbO 4 wcO].toArray 25 (0, 0)) :: (p1, .cells [.int .i64 3, .int .i64 3, .int .i64 1, .slice cb 2 cc, .slice wb 3 wc].toArray 25 (0, 0)) :: tail⟩ := by
  have hJ : Closed prog true (JM prog Q) := JM.closed
  let main := true
  let J := JM prog Q
  have C : Ctx prog true (JM prog Q) (bf 19 .normal) := ⟨hJ, by decide⟩
  have hv : BkV ro (.agg [.int .i64 3, .int .i64 3, .int .i64 1, .slice cbO 2 ccO, .slice wbO 4 wcO].toArray) exO := ⟨_, _, rfl, hcO, hwO⟩
  refine Xr C rfl rfl <| R.loadAgg C rfl rfl rfl isAgg25 sizeOf25 (by repeat (first | exact Mh | apply Mt)) Tk5 <| R.callR C rfl rfl rfl rfl ((x_casesO hJ he hv)) fun v1 ro1 hl1 hq1 => ?_
  subst hq1
  have he1 := he.mono hl1
  refine Rm C rfl rfl <| R.ext C rfl rfl rfl rfl <| R.ext C rfl rfl rfl rfl <| R.asg C rfl rfl rfl <| Ad C rfl rfl <| Xr C rfl rfl <| R.loadAgg C rfl rfl rfl isAgg25 sizeOf25 (by repeat (first | exact Mh | apply Mt)) Tk5 <| R.callR C rfl rfl rfl rfl ((x_few he1 (hv.mono hl1))) fun v2 ro2 hl2 hq2 => ?_
  obtain ⟨vf, hvf, rfl⟩ := hq2
  have he2 := he1.mono hl2
  have hl12 := RO.le_trans hl1 hl2
  refine Rm C rfl rfl <| R.ext C rfl rfl rfl rfl <| R.ext C rfl rfl rfl rfl <| R.asg C rfl rfl rfl <| Ad C rfl rfl <| Xr C rfl rfl <| R.loadAgg C rfl rfl rfl isAgg25 sizeOf25 (by repeat (first | exact Mh | apply Mt)) Tk5 <| R.callR C rfl rfl rfl rfl ((x_clash he2 (hv.mono hl12))) fun v3 ro3 hl3 hq3 => ?_
  obtain ⟨vk, hvk, rfl⟩ := hq3
  have hl13 := RO.le_trans hl12 hl3
  refine Rm C rfl rfl <| R.ext C rfl rfl rfl rfl <| R.ext C rfl rfl rfl rfl <| R.asg C rfl rfl rfl <| Ad C rfl rfl <| Xs C <| Xr C rfl rfl <| Rm C rfl rfl <| R.int C rfl rfl rfl rfl b_neq <| R.fixv (t := 207) (v' := .bool false) rfl (by rfl) <| Rm C rfl rfl <| Rm C rfl rfl <| R.int C rfl rfl rfl rfl b_neq <| R.fixv (t := 210) (v' := .bool false) rfl (by rfl) <| R.pickF C rfl rfl rfl rfl <| Rm C rfl rfl <| Rm C rfl rfl <| R.int C rfl rfl rfl rfl b_neq <| R.fixv (t := 214) (v' := .bool false) rfl (by rfl) <| R.pickF C rfl rfl rfl rfl <| Rm C rfl rfl <| Rm C rfl rfl <| R.int C rfl rfl rfl rfl b_neq <| R.fixv (t := 218) (v' := .bool false) rfl (by rfl) <| R.pickF C rfl rfl rfl rfl <| Rm C rfl rfl <| Rm C rfl rfl <| R.int C rfl rfl rfl rfl b_neq <| R.fixv (t := 222) (v' := .bool false) rfl (by rfl) <| R.pickF C rfl rfl rfl rfl <| Rm C rfl rfl <| Rm C rfl rfl <| R.int C rfl rfl rfl rfl b_neq <| R.fixv (t := 226) (v' := .bool false) rfl (by rfl) <| R.pickF C rfl rfl rfl rfl <| Rm C rfl rfl <| Rm C rfl rfl <| R.int C rfl rfl rfl rfl b_neq <| R.fixv (t := 230) (v' := .bool false) rfl (by rfl) <| R.pickF C rfl rfl rfl rfl ?_; refine Rm C rfl rfl <| Rm C rfl rfl <| R.int C rfl rfl rfl rfl b_neq <| R.fixv (t := 234) (v' := .bool false) rfl (by rfl) <| R.pickF C rfl rfl rfl rfl <| Rm C rfl rfl <| Rm C rfl rfl <| R.int C rfl rfl rfl rfl b_neq <| R.fixv (t := 238) (v' := .bool false) rfl (by rfl) <| R.pickF C rfl rfl rfl rfl <| Rm C rfl rfl <| Rm C rfl rfl <| R.int C rfl rfl rfl rfl b_neq <| R.fixv (t := 242) (v' := .bool false) rfl (by rfl) <| R.pickF C rfl rfl rfl rfl <| Rm C rfl rfl <| Rm C rfl rfl <| R.int C rfl rfl rfl rfl b_neq <| R.fixv (t := 246) (v' := .bool false) rfl (by rfl) <| R.pickF C rfl rfl rfl rfl <| Rm C rfl rfl <| Rm C rfl rfl <| R.buildSlice C (vs := _) rfl rfl (show pvals _ _ = some (numbered 0 [_, _]) from rfl) rfl runUnderlying28 sizeOf3 zeroValue3 (by decide) ((.cons rfl rfl (.cons rfl rfl .nil))) fun p250 => R.persist C.1 fun ro4 hl4 hp4 => R.callP C rfl rfl rfl rfl (sameInts_c hJ (hvl.mono (RO.le_trans hl13 hl4)) (Ls.lit (xs := ([0, 1] : List Int)) (t := 3) (fq := (0, 0)) ic_len hp4) (by decide) (by decide)) <| R.fixv (t := 251) (v' := .bool true) rfl (by exact congrArg Value.bool (by kernel_rfl)) <| R.not C rfl rfl rfl <| R.fixv (t := 252) (v' := .bool false) rfl rfl <| R.pickF C rfl rfl rfl rfl <| Rm C rfl rfl <| Rm C rfl rfl <| R.buildSlice C (vs := _) rfl rfl (show pvals _ _ = some (numbered 0 [_]) from rfl) rfl runUnderlying28 sizeOf3 zeroValue3 (by decide) (Cat.one rfl rfl) fun p256 => R.persist C.1 fun ro5 hl5 hp5 => R.callP C rfl rfl rfl rfl (sameInts_c hJ (hvf.mono (RO.le_trans hl3 (RO.le_trans hl4 hl5))) (Ls.lit (xs := ([0] : List Int)) (t := 3) (fq := (0, 0)) ic_len hp5) (by decide) (by decide)) <| R.fixv (t := 257) (v' := .bool true) rfl (by exact congrArg Value.bool (by kernel_rfl)) <| R.not C rfl rfl rfl <| R.fixv (t := 258) (v' := .bool false) rfl rfl <| R.pickF C rfl rfl rfl rfl <| Rm C rfl rfl <| Rm C rfl rfl ?_; refine R.buildSlice C (vs := _) rfl rfl (show pvals _ _ = some (numbered 0 [_, _]) from rfl) rfl runUnderlying28 sizeOf3 zeroValue3 (by decide) ((.cons rfl rfl (.cons rfl rfl .nil))) fun p262 => R.persist C.1 fun ro6 hl6 hp6 => R.callP C rfl rfl rfl rfl (sameInts_c hJ (hvk.mono (RO.le_trans hl4 (RO.le_trans hl5 hl6))) (Ls.lit (xs := ([0, 3] : List Int)) (t := 3) (fq := (0, 0)) ic_len hp6) (by decide) (by decide)) <| R.fixv (t := 263) (v' := .bool true) rfl (by exact congrArg Value.bool (by kernel_rfl)) <| R.not C rfl rfl rfl <| R.fixv (t := 264) (v' := .bool false) rfl rfl <| R.pickF C rfl rfl rfl rfl <| R.done C <| X.cond C.1 rfl (fun h => nomatch h) (fun _ => ?_)
  refine X.skip C.1 ?_
  have hl := RO.le_trans hl13 (RO.le_trans hl4 (RO.le_trans hl5 hl6))
  refine X.weaken ?_ (found_end (he.mono hl) (hc.mono hl) (hw.mono hl) fun ro' own h1 h2 => hret ro' own (RO.le_trans hl h1) h2)
  exact ⟨rfl, rfl, trivial⟩
end Go.Lg.B
namespace Go.Lg.B
open Go Go.Conc Go.Lg Go.Proofs Go.Proofs.Tryz
variable {Q : Machine → Outcome → World → Trace → Prop}
theorem eqT46 : IntT prog 10000 46 2 true := IntT.struct runUnderlying46 (by kernel_rfl) (.cons (by decide) rfl sizeOf3 isAgg3 (fun _ => rfl) (IntT.int runUnderlying3) (.cons (by decide) rfl sizeOf3 isAgg3 (fun _ => rfl) (IntT.int runUnderlying3) .nil))
noncomputable def g16 : Code := cR (cR (cR (cR (cR (cR (cR (cR (cR (cR (cR (cR (cR (cR (cR (b19)))))))))))))))
theorem found_hear {p1 : Nat} {cb wb : Option Addr} {cc wc : Nat} {vl : Value} {ro : RO} {c : Frame} {cs : List Frame} {tail : List (Nat × Obj)} (he : Env ro) (hc : Ls Rc.cells 2 ro (.slice cb 2 cc) exB.cs) (hw : Ls Wt.cells 5 ro (.slice wb 3 wc) exB.ws)
    (hvl : LsI ro vl [0, 1])
    (hret : ∀ ro' own, ro.le ro' → tail.Sublist own → JM prog Q (G (c.finish (.bool true)) cs) ⟨ro', own⟩) :
    X (JM prog Q) (bf 19 .normal) (c :: cs) 340 [.code g16] [] [(1, .pointer (some ⟨p1, 0, none⟩)), (21, vl), (3, .int .i64 0), (17, .int .i64 0), (5, .int .i64 0), (22, .int .i64 0), (23, .int .i64 10), (7, .int .i64 0)]
      ⟨ro, (p1, .cells [.int .i64 3, .int .i64 3, .int .i64 1, .slice cb 2 cc, .slice wb 3 wc].toArray 25 (0, 0)) :: tail⟩ := by
  have hJ : Closed prog true (JM prog Q) := JM.closed
  let main := true
  let J := JM prog Q
  have C : Ctx prog true (JM prog Q) (bf 19 .normal) := ⟨hJ, by decide⟩
  have hv : BkV ro (.agg [.int .i64 3, .int .i64 3, .int .i64 1, .slice cb 2 cc, .slice wb 3 wc].toArray) exB := ⟨_, _, rfl, hc, hw⟩
  refine Xs C <| Xd C fun hok => D5 C 0 hok rfl rfl isAgg25 sizeOf25 (by repeat (first | exact Mh | apply Mt)) Tk5 <| D.eP2 (i := 1) (i' := 7) (dst := (some 186)) (dst' := (some 24)) [true] [true] hok rfl rfl (by kernel_rfl) (by kernel_rfl) (by kernel_rfl) (fun σr rest A hk => ?_) (fun σr rest A hk => ?_)
  ·
    refine R.callP C rfl (A.w rfl rfl) (A.x rfl rfl) (A.s rfl rfl) (sq_c hJ _ _ _) (hk _ _ ⟨(QFs.cons (QF.of rfl (fun _ _ A h => R.loadAgg C rfl (A.w rfl rfl) (A.x rfl rfl) isAgg25 sizeOf25 (by repeat (first | exact Mh | apply Mt)) Tk5 h)) QFs.nil), ?_⟩)
    refine Dp 2 hok (fun _ _ _ A h => R.build C rfl (A.w rfl rfl) (A.p rfl rfl) zeroValue58 rfl runUnderlying58 (by kernel_rfl) (Fills.part rfl rfl sizeOf27 rfl (.here (.here .nil)) (Fills.part rfl rfl sizeOf3 rfl (.skip (.skip (.here .nil))) .nil)) h) <| D.eP2 (i := 3) (i' := 7) (dst := (some 188)) (dst' := (some 24)) [false] [true] hok rfl rfl (by kernel_rfl) (by kernel_rfl) (by kernel_rfl) (fun σr rest A hk => ?_) (fun σr rest A hk => ?_)
    ·
      refine R.callR C rfl (A.w rfl rfl) (A.x rfl rfl) (A.s rfl rfl) ((x_hear hJ he hv)) fun v1 ro1 hl1 hq1 => hk _ _ ⟨QFs.nil, ?_⟩
      obtain ⟨v1, hv1, rfl⟩ := hq1
      obtain ⟨vc1, vw1, rfl, hc1, hw1⟩ := hv1
      obtain ⟨cb1, cc1, rfl⟩ := hc1.form
      obtain ⟨wb1, wc1, rfl⟩ := hw1.form
      refine Dm C 4 hok rfl rfl rfl <| Dp 5 hok (fun _ _ _ A h => R.ext C rfl (A.w rfl rfl) (A.x rfl rfl) rfl h) <| Dp 6 hok (fun _ _ _ A h => R.ext C rfl (A.w rfl rfl) (A.x rfl rfl) rfl h) <| De 7 (some 24) [] hok (fun σr rest A hk => ?_)
      refine R.alloc C rfl (A.w rfl rfl) zeroValue25 rfl fun p24 => hk _ _ ⟨QFs.nil, ?_⟩
      refine De 8 none [] hok (fun σr rest A hk => ?_)
      refine R.store C rfl (A.w rfl rfl) (A.x rfl rfl) (A.x rfl rfl) sizeOf25 rfl rfl rfl (by repeat (first | exact Uh | apply Ut)) (.here (.here (.here (.here (.here .nil))))) (hk undef _ ⟨QFs.nil, ?_⟩)
      refine Dp 9 hok (fun _ _ _ A h => R.asg C rfl (A.w rfl rfl) (A.x rfl rfl) h) <| D.done C hok (by kernel_rfl) <| X.weaken ?_ (found_two (he.mono hl1) (hc.mono hl1) (hw.mono hl1) (hvl.mono hl1) hc1 hw1 fun ro' own h1 h2 => hret ro' own (RO.le_trans hl1 h1) h2)
      exact ⟨rfl, rfl, rfl, rfl, rfl, rfl, rfl, rfl, rfl, rfl, trivial⟩
    ·
      refine R.alloc C rfl (A.w rfl rfl) zeroValue25 rfl fun p24 => hk _ _ ⟨(QFs.cons (QF.of rfl (fun _ _ A h => R.loadAgg C rfl (A.w rfl rfl) (A.x rfl rfl) isAgg25 sizeOf25 (by repeat (first | exact Mh | apply Mt)) Tk5 h)) QFs.nil), ?_⟩
      refine De 3 (some 188) [false] hok (fun σr rest A hk => ?_)
      refine R.callR C rfl (A.w rfl rfl) (A.x rfl rfl) (A.s rfl rfl) ((x_hear hJ he hv)) fun v1 ro1 hl1 hq1 => hk _ _ ⟨QFs.nil, ?_⟩
      obtain ⟨v1, hv1, rfl⟩ := hq1
      obtain ⟨vc1, vw1, rfl, hc1, hw1⟩ := hv1
      obtain ⟨cb1, cc1, rfl⟩ := hc1.form
      obtain ⟨wb1, wc1, rfl⟩ := hw1.form
      refine Dm C 4 hok rfl rfl rfl <| Dp 5 hok (fun _ _ _ A h => R.ext C rfl (A.w rfl rfl) (A.x rfl rfl) rfl h) <| Dp 6 hok (fun _ _ _ A h => R.ext C rfl (A.w rfl rfl) (A.x rfl rfl) rfl h) <| De 8 none [] hok (fun σr rest A hk => ?_)
      refine R.store C rfl (A.w rfl rfl) (A.x rfl rfl) (A.x rfl rfl) sizeOf25 rfl rfl rfl (by repeat (first | exact Uh | apply Ut)) (.here (.here (.here (.here (.here .nil))))) (hk undef _ ⟨QFs.nil, ?_⟩)
      refine Dp 9 hok (fun _ _ _ A h => R.asg C rfl (A.w rfl rfl) (A.x rfl rfl) h) <| D.done C hok (by kernel_rfl) <| X.weaken ?_ (found_two (he.mono hl1) (hc.mono hl1) (hw.mono hl1) (hvl.mono hl1) hc1 hw1 fun ro' own h1 h2 => hret ro' own (RO.le_trans hl1 h1) h2)
      exact ⟨rfl, rfl, rfl, rfl, rfl, rfl, rfl, rfl, rfl, rfl, trivial⟩
  ·
    refine R.alloc C rfl (A.w rfl rfl) zeroValue25 rfl fun p24 => hk _ _ ⟨(QFs.cons (QF.of rfl (fun _ _ A h => R.loadAgg C rfl (A.w rfl rfl) (A.x rfl rfl) isAgg25 sizeOf25 (by repeat (first | exact Mh | apply Mt)) Tk5 h)) QFs.nil), ?_⟩
    refine De 1 (some 186) [true] hok (fun σr rest A hk => ?_)
    refine R.callP C rfl (A.w rfl rfl) (A.x rfl rfl) (A.s rfl rfl) (sq_c hJ _ _ _) (hk _ _ ⟨(QFs.cons (QF.of rfl (fun _ _ A h => R.loadAgg C rfl (A.w rfl rfl) (A.x rfl rfl) isAgg25 sizeOf25 (by repeat (first | exact Mh | apply Mt)) Tk5 h)) QFs.nil), ?_⟩)
    refine Dp 2 hok (fun _ _ _ A h => R.build C rfl (A.w rfl rfl) (A.p rfl rfl) zeroValue58 rfl runUnderlying58 (by kernel_rfl) (Fills.part rfl rfl sizeOf27 rfl (.here (.here .nil)) (Fills.part rfl rfl sizeOf3 rfl (.skip (.skip (.here .nil))) .nil)) h) <| De 3 (some 188) [false] hok (fun σr rest A hk => ?_)
    refine R.callR C rfl (A.w rfl rfl) (A.x rfl rfl) (A.s rfl rfl) ((x_hear hJ he hv)) fun v1 ro1 hl1 hq1 => hk _ _ ⟨QFs.nil, ?_⟩
    obtain ⟨v1, hv1, rfl⟩ := hq1
    obtain ⟨vc1, vw1, rfl, hc1, hw1⟩ := hv1
    obtain ⟨cb1, cc1, rfl⟩ := hc1.form
    obtain ⟨wb1, wc1, rfl⟩ := hw1.form
    refine Dm C 4 hok rfl rfl rfl <| Dp 5 hok (fun _ _ _ A h => R.ext C rfl (A.w rfl rfl) (A.x rfl rfl) rfl h) <| Dp 6 hok (fun _ _ _ A h => R.ext C rfl (A.w rfl rfl) (A.x rfl rfl) rfl h) <| De 8 none [] hok (fun σr rest A hk => ?_)
    refine R.store C rfl (A.w rfl rfl) (A.x rfl rfl) (A.x rfl rfl) sizeOf25 rfl rfl rfl (by repeat (first | exact Uh | apply Ut)) (.here (.here (.here (.here (.here .nil))))) (hk undef _ ⟨QFs.nil, ?_⟩)
    refine Dp 9 hok (fun _ _ _ A h => R.asg C rfl (A.w rfl rfl) (A.x rfl rfl) h) <| D.done C hok (by kernel_rfl) <| X.weaken ?_ (found_two (he.mono hl1) (hc.mono hl1) (hw.mono hl1) (hvl.mono hl1) hc1 hw1 fun ro' own h1 h2 => hret ro' own (RO.le_trans hl1 h1) h2)
    exact ⟨rfl, rfl, rfl, rfl, rfl, rfl, rfl, rfl, rfl, rfl, trivial⟩
noncomputable def g6 : Code := cR (cR (cR (cR (cR (cR b19)))))
theorem found_one {p1 : Nat} {cb wb : Option Addr} {cc wc : Nat} {ro : RO} {c : Frame} {cs : List Frame} {tail : List (Nat × Obj)} (he : Env ro) (hc : Ls Rc.cells 2 ro (.slice cb 2 cc) exB.cs) (hw : Ls Wt.cells 5 ro (.slice wb 3 wc) exB.ws)
    (hret : ∀ ro' own, ro.le ro' → tail.Sublist own → JM prog Q (G (c.finish (.bool true)) cs) ⟨ro', own⟩) :
    X (JM prog Q) (bf 19 .normal) (c :: cs) 340 [.code g6] [] [(1, .pointer (some ⟨p1, 0, none⟩)), (2, .int .i64 1), (3, .int .i64 0), (4, .int .i64 2), (5, .int .i64 0), (6, .bool true), (7, .int .i64 0), (8, .bool false), (9, .int .i64 0)]
      ⟨ro, (p1, .cells [.int .i64 3, .int .i64 3, .int .i64 1, .slice cb 2 cc, .slice wb 3 wc].toArray 25 (0, 0)) :: tail⟩ := by
  have hJ : Closed prog true (JM prog Q) := JM.closed
  let main := true
  let J := JM prog Q
  have C : Ctx prog true (JM prog Q) (bf 19 .normal) := ⟨hJ, by decide⟩
  have hv : BkV ro (.agg [.int .i64 3, .int .i64 3, .int .i64 1, .slice cb 2 cc, .slice wb 3 wc].toArray) exB := ⟨_, _, rfl, hc, hw⟩
  refine Xr C rfl rfl <| R.loadAgg C rfl rfl rfl isAgg25 sizeOf25 (by repeat (first | exact Mh | apply Mt)) Tk5 <| R.callR C rfl rfl rfl rfl ((x_cases hJ he hv)) fun v1 ro1 hl1 hq1 => ?_
  subst hq1
  have he1 := he.mono hl1
  refine Rm C rfl rfl <| R.ext C rfl rfl rfl rfl <| R.ext C rfl rfl rfl rfl <| R.asg C rfl rfl rfl <| Ad C rfl rfl <| Xr C rfl rfl <| R.loadAgg C rfl rfl rfl isAgg25 sizeOf25 (by repeat (first | exact Mh | apply Mt)) Tk5 <| R.callR C rfl rfl rfl rfl ((x_where hJ he1 (hv.mono hl1))) fun v2 ro2 hl2 hq2 => ?_
  obtain ⟨vs, hvs, rfl⟩ := hq2
  have he2 := he1.mono hl2
  have hl12 := RO.le_trans hl1 hl2
  refine Rm C rfl rfl <| R.ext C rfl rfl rfl rfl <| R.ext C rfl rfl rfl rfl <| R.asg C rfl rfl rfl <| Ad C rfl rfl <| Xr C rfl rfl <| R.loadAgg C rfl rfl rfl isAgg25 sizeOf25 (by repeat (first | exact Mh | apply Mt)) Tk5 <| R.callR C rfl rfl rfl rfl ((x_box hJ he2 (hv.mono hl12))) fun v3 ro3 hl3 hq3 => ?_
  subst hq3
  have he3 := he2.mono hl3
  have hl13 := RO.le_trans hl12 hl3
  refine Rm C rfl rfl <| R.ext C rfl rfl rfl rfl <| R.ext C rfl rfl rfl rfl <| R.ext C rfl rfl rfl rfl <| R.alloc C rfl rfl zeroValue46 rfl fun p14 => R.alloc C rfl rfl zeroValue46 rfl fun p15 => R.store C rfl rfl rfl rfl sizeOf46 rfl rfl rfl (by repeat (first | exact Uh | apply Ut)) (.here (.here .nil)) <| R.store C rfl rfl rfl rfl sizeOf46 rfl rfl rfl (by repeat (first | exact Uh | apply Ut)) (.here (.here .nil)) <| Ad C rfl rfl <| Xs C <| Xd C fun hok => D5 C 0 hok rfl rfl isAgg25 sizeOf25 (by repeat (first | exact Mh | apply Mt)) Tk5 <| De 1 (some 75) [true] hok (fun σr rest A hk => ?_)
  refine R.callP C rfl (A.w rfl rfl) (A.x rfl rfl) (A.s rfl rfl) (sq_c hJ _ _ _) (hk _ _ ⟨(QFs.cons (QF.of rfl (fun _ _ A h => R.loadAgg C rfl (A.w rfl rfl) (A.x rfl rfl) isAgg25 sizeOf25 (by repeat (first | exact Mh | apply Mt)) Tk5 h)) QFs.nil), ?_⟩)
  refine De 2 (some 76) [false] hok (fun σr rest A hk => ?_)
  refine R.callR C rfl (A.w rfl rfl) (A.x rfl rfl) (A.s rfl rfl) ((x_at1 hJ he3 (hv.mono hl13))) fun v4 ro4 hl4 hq4 => hk _ _ ⟨QFs.nil, ?_⟩
  subst hq4
  have he4 := he3.mono hl4
  have hl14 := RO.le_trans hl13 hl4
  refine Dm C 3 hok rfl rfl rfl <| Dp 4 hok (fun _ _ _ A h => R.ext C rfl (A.w rfl rfl) (A.x rfl rfl) rfl h) <| Dp 5 hok (fun _ _ _ A h => R.ext C rfl (A.w rfl rfl) (A.x rfl rfl) rfl h) <| Dp 6 hok (fun _ _ _ A h => R.asg C rfl (A.w rfl rfl) (A.x rfl rfl) h) <| Dp 7 hok (fun _ _ _ A h => R.asg C rfl (A.w rfl rfl) (A.x rfl rfl) h) <| D.done C hok (by kernel_rfl) <| Xs C <| Xd C fun hok => D5 C 0 hok rfl rfl isAgg25 sizeOf25 (by repeat (first | exact Mh | apply Mt)) Tk5 <| De 1 (some 81) [true] hok (fun σr rest A hk => ?_)
  refine R.callP C rfl (A.w rfl rfl) (A.x rfl rfl) (A.s rfl rfl) (sq_c hJ _ _ _) (hk _ _ ⟨(QFs.cons (QF.of rfl (fun _ _ A h => R.loadAgg C rfl (A.w rfl rfl) (A.x rfl rfl) isAgg25 sizeOf25 (by repeat (first | exact Mh | apply Mt)) Tk5 h)) QFs.nil), ?_⟩)
  refine De 2 (some 82) [false] hok (fun σr rest A hk => ?_)
  refine R.callR C rfl (A.w rfl rfl) (A.x rfl rfl) (A.s rfl rfl) ((x_at2 hJ he4 (hv.mono hl14))) fun v5 ro5 hl5 hq5 => hk _ _ ⟨QFs.nil, ?_⟩
  subst hq5
  have he5 := he4.mono hl5
  have hl15 := RO.le_trans hl14 hl5
  refine Dm C 3 hok rfl rfl rfl <| Dp 4 hok (fun _ _ _ A h => R.ext C rfl (A.w rfl rfl) (A.x rfl rfl) rfl h) <| Dp 5 hok (fun _ _ _ A h => R.ext C rfl (A.w rfl rfl) (A.x rfl rfl) rfl h) <| Dp 6 hok (fun _ _ _ A h => R.asg C rfl (A.w rfl rfl) (A.x rfl rfl) h) <| Dp 7 hok (fun _ _ _ A h => R.asg C rfl (A.w rfl rfl) (A.x rfl rfl) h) <| D.done C hok (by kernel_rfl) <| Xs C <| Xs C <| Xd C fun hok => Dm C 0 hok rfl rfl rfl <| Di C 1 hok rfl rfl rfl rfl rfl b_neq <| D.fixv (t := 86) (v' := .bool false) rfl (by rfl) <| Dm C 2 hok rfl rfl rfl <| Dm C 3 hok rfl rfl rfl <| Di C 4 hok rfl rfl rfl rfl rfl b_neq <| D.fixv (t := 89) (v' := .bool false) rfl (by rfl) <| Dp 5 hok (fun _ _ _ A h => R.pickF C rfl (A.w rfl rfl) (A.x rfl rfl) (A.x rfl rfl) h) <| Dm C 6 hok rfl rfl rfl <| Dm C 7 hok rfl rfl rfl <| Di C 8 hok rfl rfl rfl rfl rfl b_neq <| D.fixv (t := 93) (v' := .bool false) rfl (by rfl) <| Dp 9 hok (fun _ _ _ A h => R.pickF C rfl (A.w rfl rfl) (A.x rfl rfl) (A.x rfl rfl) h) <| Dm C 10 hok rfl rfl rfl <| Dm C 11 hok rfl rfl rfl <| Di C 12 hok rfl rfl rfl rfl rfl b_neq <| D.fixv (t := 97) (v' := .bool false) rfl (by rfl) <| Dp 13 hok (fun _ _ _ A h => R.pickF C rfl (A.w rfl rfl) (A.x rfl rfl) (A.x rfl rfl) h) <| Dm C 14 hok rfl rfl rfl <| Dm C 15 hok rfl rfl rfl <| Di C 16 hok rfl rfl rfl rfl rfl b_neq <| D.fixv (t := 101) (v' := .bool false) rfl (by rfl) <| Dp 17 hok (fun _ _ _ A h => R.pickF C rfl (A.w rfl rfl) (A.x rfl rfl) (A.x rfl rfl) h) <| Dm C 18 hok rfl rfl rfl <| Dm C 19 hok rfl rfl rfl <| Di C 20 hok rfl rfl rfl rfl rfl b_neq <| D.fixv (t := 105) (v' := .bool false) rfl (by rfl) <| Dp 21 hok (fun _ _ _ A h => R.pickF C rfl (A.w rfl rfl) (A.x rfl rfl) (A.x rfl rfl) h) <| Dm C 22 hok rfl rfl rfl <| Dm C 23 hok rfl rfl rfl <| Di C 24 hok rfl rfl rfl rfl rfl b_neq ?_; refine D.fixv (t := 109) (v' := .bool false) rfl (by rfl) <| Dp 25 hok (fun _ _ _ A h => R.pickF C rfl (A.w rfl rfl) (A.x rfl rfl) (A.x rfl rfl) h) <| Dm C 26 hok rfl rfl rfl <| Dm C 27 hok rfl rfl rfl <| Di C 28 hok rfl rfl rfl rfl rfl b_neq <| D.fixv (t := 113) (v' := .bool false) rfl (by rfl) <| Dp 29 hok (fun _ _ _ A h => R.pickF C rfl (A.w rfl rfl) (A.x rfl rfl) (A.x rfl rfl) h) <| Dm C 30 hok rfl rfl rfl <| Dm C 31 hok rfl rfl rfl <| Di C 32 hok rfl rfl rfl rfl rfl b_neq <| D.fixv (t := 117) (v' := .bool false) rfl (by rfl) <| Dp 33 hok (fun _ _ _ A h => R.pickF C rfl (A.w rfl rfl) (A.x rfl rfl) (A.x rfl rfl) h) <| Dm C 34 hok rfl rfl rfl <| Dm C 35 hok rfl rfl rfl <| Di C 36 hok rfl rfl rfl rfl rfl b_neq <| D.fixv (t := 121) (v' := .bool false) rfl (by rfl) <| Dp 37 hok (fun _ _ _ A h => R.pickF C rfl (A.w rfl rfl) (A.x rfl rfl) (A.x rfl rfl) h) <| Dm C 38 hok rfl rfl rfl <| Dm C 39 hok rfl rfl rfl <| Di C 40 hok rfl rfl rfl rfl rfl b_neq <| D.fixv (t := 125) (v' := .bool false) rfl (by rfl) <| Dp 41 hok (fun _ _ _ A h => R.pickF C rfl (A.w rfl rfl) (A.x rfl rfl) (A.x rfl rfl) h) <| Dm C 42 hok rfl rfl rfl <| Dm C 43 hok rfl rfl rfl <| Dp 44 hok (fun _ _ _ A h => R.not C rfl (A.w rfl rfl) (A.x rfl rfl) h) <| D.fixv (t := 129) (v' := .bool false) rfl rfl <| Dp 45 hok (fun _ _ _ A h => R.pickF C rfl (A.w rfl rfl) (A.x rfl rfl) (A.x rfl rfl) h) <| Dm C 46 hok rfl rfl rfl <| Dm C 47 hok rfl rfl rfl <| Dp 48 hok (fun _ _ _ A h => R.pickF C rfl (A.w rfl rfl) (A.x rfl rfl) (A.x rfl rfl) h) <| Dm C 49 hok rfl rfl rfl <| Dm C 50 hok rfl rfl rfl <| Di C 51 hok rfl rfl rfl rfl rfl b_neq <| D.fixv (t := 136) (v' := .bool false) rfl (by rfl) <| Dp 52 hok (fun _ _ _ A h => R.pickF C rfl (A.w rfl rfl) (A.x rfl rfl) (A.x rfl rfl) h) <| Dm C 53 hok rfl rfl rfl <| D5 C 54 hok rfl rfl isAgg46 sizeOf46 (by repeat (first | exact Mh | apply Mt)) Tk2 <| De 55 (some 140) [true] hok (fun σr rest A hk => ?_)
  refine R.callP C rfl (A.w rfl rfl) (A.x rfl rfl) (A.s rfl rfl) (reach_c hJ _ _ _) (hk _ _ ⟨(QFs.cons (QF.of rfl (fun _ _ A h => R.loadAgg C rfl (A.w rfl rfl) (A.x rfl rfl) isAgg46 sizeOf46 (by repeat (first | exact Mh | apply Mt)) Tk2 h)) QFs.nil), ?_⟩)
  refine Dp 56 hok (fun _ _ _ A h => R.neAgg (p := [0, 2]) (q := [0, 2]) C rfl (A.w rfl rfl) (A.x rfl rfl) (A.x rfl rfl) eqT46 rfl rfl (by kernel_rfl) h) <| D.fixv (t := 141) (v' := .bool false) rfl (by rfl) <| Dp 57 hok (fun _ _ _ A h => R.pickF C rfl (A.w rfl rfl) (A.x rfl rfl) (A.x rfl rfl) h) <| Dm C 58 hok rfl rfl rfl <| D5 C 59 hok rfl rfl isAgg46 sizeOf46 (by repeat (first | exact Mh | apply Mt)) Tk2 <| De 60 (some 145) [true, false] hok (fun σr rest A hk => ?_)
  refine R.callP C rfl (A.w rfl rfl) (A.x rfl rfl) (A.s rfl rfl) (reach_c hJ _ _ _) (hk _ _ ⟨(QFs.cons (QF.of rfl (fun _ _ A h => R.loadAgg C rfl (A.w rfl rfl) (A.x rfl rfl) isAgg46 sizeOf46 (by repeat (first | exact Mh | apply Mt)) Tk2 h)) QFs.nil), ?_⟩)
  refine Dp 61 hok (fun _ _ _ A h => R.neAgg (p := [0, 2]) (q := [0, 2]) C rfl (A.w rfl rfl) (A.x rfl rfl) (A.x rfl rfl) eqT46 rfl rfl (by kernel_rfl) h) <| D.fixv (t := 146) (v' := .bool false) rfl (by rfl) <| Dp 62 hok (fun _ _ _ A h => R.pickF C rfl (A.w rfl rfl) (A.x rfl rfl) (A.x rfl rfl) h) <| Dm C 63 hok rfl rfl rfl <| Dm C 64 hok rfl rfl rfl <| Di C 65 hok rfl rfl rfl rfl rfl b_neq <| D.fixv (t := 150) (v' := .bool false) rfl (by rfl) <| Dp 66 hok (fun _ _ _ A h => R.pickF C rfl (A.w rfl rfl) (A.x rfl rfl) (A.x rfl rfl) h) <| Dm C 67 hok rfl rfl rfl <| Dm C 68 hok rfl rfl rfl <| Di C 69 hok rfl rfl rfl rfl rfl b_neq <| D.fixv (t := 154) (v' := .bool false) rfl (by rfl) <| Dp 70 hok (fun _ _ _ A h => R.pickF C rfl (A.w rfl rfl) (A.x rfl rfl) (A.x rfl rfl) h) <| Dm C 71 hok rfl rfl rfl <| Dm C 72 hok rfl rfl rfl <| De 73 (some 158) [false] hok (fun σr rest A hk => ?_)
  refine R.callP C rfl (A.w rfl rfl) (A.x rfl rfl) (A.s rfl rfl) (sq_c hJ _ _ _) (hk _ _ ⟨QFs.nil, ?_⟩)
  refine De 74 (some 159) [] hok (fun σr rest A hk => ?_)
  refine R.callP C rfl (A.w rfl rfl) (A.x rfl rfl) (A.s rfl rfl) (sq_c hJ _ _ _) (hk _ _ ⟨QFs.nil, ?_⟩)
  refine De 75 (some 160) [] hok (fun σr rest A hk => ?_)
  refine R.callP C rfl (A.w rfl rfl) (A.x rfl rfl) (A.s rfl rfl) (sq_c hJ _ _ _) (hk _ _ ⟨QFs.nil, ?_⟩)
  refine De 76 (some 161) [] hok (fun σr rest A hk => ?_)
  refine R.callP C rfl (A.w rfl rfl) (A.x rfl rfl) (A.s rfl rfl) (sq_c hJ _ _ _) (hk _ _ ⟨QFs.nil, ?_⟩)
  refine De 77 (some 162) [] hok (fun σr rest A hk => ?_)
  refine R.callP C rfl (A.w rfl rfl) (A.x rfl rfl) (A.s rfl rfl) (sq_c hJ _ _ _) (hk _ _ ⟨QFs.nil, ?_⟩)
  refine De 78 (some 163) [] hok (fun σr rest A hk => ?_)
  refine R.callP C rfl (A.w rfl rfl) (A.x rfl rfl) (A.s rfl rfl) (sq_c hJ _ _ _) (hk _ _ ⟨QFs.nil, ?_⟩)
  refine De 79 (some 164) [] hok (fun σr rest A hk => ?_)
  refine R.buildSlice C (vs := _) rfl (A.w rfl rfl) (show pvals _ _ = some (numbered 0 [_, _, _, _, _, _]) from (A.p rfl rfl)) rfl runUnderlying41 sizeOf27 zeroValue27 (by decide) ((.cons rfl rfl (.cons rfl rfl (.cons rfl rfl (.cons rfl rfl (.cons rfl rfl (.cons rfl rfl .nil))))))) fun p164 => hk _ _ ⟨QFs.nil, ?_⟩
  refine De 80 (some 165) [] hok (fun σr rest A hk => ?_)
  refine R.persist C.1 fun ro6 hl6 hp6 => R.callP C rfl (A.w rfl rfl) (A.x rfl rfl) (A.s rfl rfl) (sameSquares_c hJ (hvs.mono (RO.le_trans hl3 (RO.le_trans hl4 (RO.le_trans hl5 hl6)))) (Ls.lit (xs := ([⟨0, 0⟩, ⟨1, 0⟩, ⟨2, 0⟩, ⟨2, 1⟩, ⟨1, 2⟩, ⟨2, 2⟩] : List Sq)) (t := 27) (fq := (0, 0)) Sq.len (show ro6 p164 = some (.cells (([⟨0, 0⟩, ⟨1, 0⟩, ⟨2, 0⟩, ⟨2, 1⟩, ⟨1, 2⟩, ⟨2, 2⟩] : List Sq).flatMap Sq.cells).toArray 27 (0, 0)) from hp6)) (by decide) (by decide)) (hk _ _ ⟨QFs.nil, ?_⟩)
  refine D.fixv (t := 165) (v' := .bool true) rfl (by rfl) ?_
  have he6 := he5.mono hl6
  have hl16 := RO.le_trans hl15 hl6
  refine Dp 81 hok (fun _ _ _ A h => R.not C rfl (A.w rfl rfl) (A.x rfl rfl) h) <| D.fixv (t := 166) (v' := .bool false) rfl rfl <| Dp 82 hok (fun _ _ _ A h => R.pickF C rfl (A.w rfl rfl) (A.x rfl rfl) (A.x rfl rfl) h) <| D.done C hok (by kernel_rfl) <| X.cond C.1 rfl (fun h => nomatch h) (fun _ => ?_)
  refine X.skip C.1 <| Xr C rfl rfl <| R.loadAgg C rfl rfl rfl isAgg25 sizeOf25 (by repeat (first | exact Mh | apply Mt)) Tk5 <| R.callR C rfl rfl rfl rfl ((x_off hJ he6 (hv.mono hl16))) fun v7 ro7 hl7 hq7 => ?_
  obtain ⟨vl, hvl, rfl⟩ := hq7
  have he7 := he6.mono hl7
  have hl17 := RO.le_trans hl16 hl7
  refine Rm C rfl rfl <| R.ext C rfl rfl rfl rfl <| R.ext C rfl rfl rfl rfl <| R.asg C rfl rfl rfl <| Ad C rfl rfl <| Xr C rfl rfl <| R.loadAgg C rfl rfl rfl isAgg25 sizeOf25 (by repeat (first | exact Mh | apply Mt)) Tk5 <| R.callR C rfl rfl rfl rfl ((x_false hJ he7 (hv.mono hl17))) fun v8 ro8 hl8 hq8 => ?_
  subst hq8
  have he8 := he7.mono hl8
  have hl18 := RO.le_trans hl17 hl8
  refine Rm C rfl rfl <| R.ext C rfl rfl rfl rfl <| R.ext C rfl rfl rfl rfl <| R.asg C rfl rfl rfl <| Ad C rfl rfl <| Xr C rfl rfl <| R.loadAgg C rfl rfl rfl isAgg25 sizeOf25 (by repeat (first | exact Mh | apply Mt)) Tk5 <| R.callR C rfl rfl rfl rfl ((x_ask hJ he8 (hv.mono hl18))) fun v9 ro9 hl9 hq9 => ?_
  subst hq9
  have hl := RO.le_trans hl18 hl9
  refine Rm C rfl rfl <| R.ext C rfl rfl rfl rfl <| R.ext C rfl rfl rfl rfl <| R.ext C rfl rfl rfl rfl <| R.asg C rfl rfl rfl <| R.asg C rfl rfl rfl <| Ad C rfl rfl <| X.perm C.1 (perm_mid [_, _] [_] _) <| X.weaken ?_ (found_hear (he.mono hl) (hc.mono hl) (hw.mono hl) (hvl.mono (RO.le_trans hl8 hl9)) fun ro' own h1 h2 => hret ro' own (RO.le_trans hl h1) ((List.Sublist.trans (by repeat (first | exact Sr | apply Sc)) h2)))
  exact ⟨rfl, rfl, rfl, rfl, rfl, rfl, rfl, rfl, trivial⟩
end Go.Lg.B
namespace Go.Lg.B
open Go Go.Conc Go.Lg Go.Proofs Go.Proofs.Tryz
variable {Q : Machine → Outcome → World → Trace → Prop}
noncomputable def g5 : Code := cR (cR (cR (cR (cR b19))))
theorem found_at5 {p1 : Nat} {cb wb : Option Addr} {cc wc : Nat} {ro : RO} {c : Frame} {cs : List Frame} {tail : List (Nat × Obj)} (he : Env ro) (hc : Ls Rc.cells 2 ro (.slice cb 2 cc) exB.cs) (hw : Ls Wt.cells 5 ro (.slice wb 3 wc) exB.ws)
    (hret : ∀ ro' own, ro.le ro' → tail.Sublist own → JM prog Q (G (c.finish (.bool true)) cs) ⟨ro', own⟩) :
    X (JM prog Q) (bf 19 .normal) (c :: cs) 340 [.code g5] [] [(1, .pointer (some ⟨p1, 0, none⟩)), (2, .int .i64 1), (3, .int .i64 0), (4, .int .i64 2), (5, .int .i64 0), (6, .bool true), (7, .int .i64 0)]
      ⟨ro, (p1, .cells [.int .i64 3, .int .i64 3, .int .i64 1, .slice cb 2 cc, .slice wb 3 wc].toArray 25 (0, 0)) :: tail⟩ := by
  have hJ : Closed prog true (JM prog Q) := JM.closed
  let main := true
  let J := JM prog Q
  have C : Ctx prog true (JM prog Q) (bf 19 .normal) := ⟨hJ, by decide⟩
  have hv : BkV ro (.agg [.int .i64 3, .int .i64 3, .int .i64 1, .slice cb 2 cc, .slice wb 3 wc].toArray) exB := ⟨_, _, rfl, hc, hw⟩
  refine Xs C <| Xd C fun hok => D5 C 0 hok rfl rfl isAgg25 sizeOf25 (by repeat (first | exact Mh | apply Mt)) Tk5 <| D.eP2 (i := 1) (i' := 2) (dst := (some 51)) (dst' := (some 52)) [true] [true] hok rfl rfl (by kernel_rfl) (by kernel_rfl) (by kernel_rfl) (fun σr rest A hk => ?_) (fun σr rest A hk => ?_)
  ·
    refine R.callP C rfl (A.w rfl rfl) (A.x rfl rfl) (A.s rfl rfl) (sq_c hJ _ _ _) (hk _ _ ⟨(QFs.cons (QF.of rfl (fun _ _ A h => R.loadAgg C rfl (A.w rfl rfl) (A.x rfl rfl) isAgg25 sizeOf25 (by repeat (first | exact Mh | apply Mt)) Tk5 h)) QFs.nil), ?_⟩)
    refine De 2 (some 52) [true] hok (fun σr rest A hk => ?_)
    refine R.buildSlice C (vs := _) rfl (A.w rfl rfl) (show pvals _ _ = some (numbered 0 [_, _]) from (A.p rfl rfl)) rfl runUnderlying28 sizeOf3 zeroValue3 (by decide) ((.cons rfl rfl (.cons rfl rfl .nil))) fun p52 => hk _ _ ⟨(QFs.cons (QF.of rfl (fun _ _ A h => R.loadAgg C rfl (A.w rfl rfl) (A.x rfl rfl) isAgg25 sizeOf25 (by repeat (first | exact Mh | apply Mt)) Tk5 h)) QFs.nil), ?_⟩
    refine Dp 3 hok (fun _ _ _ A h => R.build C rfl (A.w rfl rfl) (A.p rfl rfl) zeroValue30 rfl runUnderlying30 (by kernel_rfl) (Fills.part rfl rfl sizeOf27 rfl (.here (.here .nil)) (Fills.part rfl rfl sizeOf28 rfl (.skip (.skip (.here .nil))) .nil)) h) <| De 4 (some 54) [false] hok (fun σr rest A hk => ?_)
    refine R.persist C.1 fun ro1 hl1 hp1 => R.callR C rfl (A.w rfl rfl) (A.x rfl rfl) (A.s rfl rfl) ((x_is2 hJ (he.mono hl1) (hv.mono hl1) ⟨_, _, rfl, Ls.lit (xs := ([0, 0] : List Int)) (t := 3) (fq := (0, 0)) ic_len (show ro1 p52 = _ from hp1), ⟨none, 0, rfl, .inl rfl⟩⟩)) fun v2 ro2 hl2 hq2 => hk _ _ ⟨QFs.nil, ?_⟩
    subst hq2
    refine Dm C 5 hok rfl rfl rfl <| Dp 6 hok (fun _ _ _ A h => R.ext C rfl (A.w rfl rfl) (A.x rfl rfl) rfl h) <| Dp 7 hok (fun _ _ _ A h => R.ext C rfl (A.w rfl rfl) (A.x rfl rfl) rfl h) <| Dp 8 hok (fun _ _ _ A h => R.asg C rfl (A.w rfl rfl) (A.x rfl rfl) h) <| Dp 9 hok (fun _ _ _ A h => R.asg C rfl (A.w rfl rfl) (A.x rfl rfl) h) <| D.done C hok (by kernel_rfl) ?_
    have hl := RO.le_trans hl1 hl2
    refine X.weaken ?_ (found_one (he.mono hl) (hc.mono hl) (hw.mono hl) fun ro' own h1 h2 => hret ro' own (RO.le_trans hl h1) h2)
    exact ⟨rfl, rfl, rfl, rfl, rfl, rfl, rfl, rfl, rfl, trivial⟩
  ·
    refine R.buildSlice C (vs := _) rfl (A.w rfl rfl) (show pvals _ _ = some (numbered 0 [_, _]) from (A.p rfl rfl)) rfl runUnderlying28 sizeOf3 zeroValue3 (by decide) ((.cons rfl rfl (.cons rfl rfl .nil))) fun p52 => hk _ _ ⟨(QFs.cons (QF.of rfl (fun _ _ A h => R.loadAgg C rfl (A.w rfl rfl) (A.x rfl rfl) isAgg25 sizeOf25 (by repeat (first | exact Mh | apply Mt)) Tk5 h)) QFs.nil), ?_⟩
    refine De 1 (some 51) [true] hok (fun σr rest A hk => ?_)
    refine R.callP C rfl (A.w rfl rfl) (A.x rfl rfl) (A.s rfl rfl) (sq_c hJ _ _ _) (hk _ _ ⟨(QFs.cons (QF.of rfl (fun _ _ A h => R.loadAgg C rfl (A.w rfl rfl) (A.x rfl rfl) isAgg25 sizeOf25 (by repeat (first | exact Mh | apply Mt)) Tk5 h)) QFs.nil), ?_⟩)
    refine Dp 3 hok (fun _ _ _ A h => R.build C rfl (A.w rfl rfl) (A.p rfl rfl) zeroValue30 rfl runUnderlying30 (by kernel_rfl) (Fills.part rfl rfl sizeOf27 rfl (.here (.here .nil)) (Fills.part rfl rfl sizeOf28 rfl (.skip (.skip (.here .nil))) .nil)) h) <| De 4 (some 54) [false] hok (fun σr rest A hk => ?_)
    refine R.persist C.1 fun ro1 hl1 hp1 => R.callR C rfl (A.w rfl rfl) (A.x rfl rfl) (A.s rfl rfl) ((x_is2 hJ (he.mono hl1) (hv.mono hl1) ⟨_, _, rfl, Ls.lit (xs := ([0, 0] : List Int)) (t := 3) (fq := (0, 0)) ic_len (show ro1 p52 = _ from hp1), ⟨none, 0, rfl, .inl rfl⟩⟩)) fun v2 ro2 hl2 hq2 => hk _ _ ⟨QFs.nil, ?_⟩
    subst hq2
    refine Dm C 5 hok rfl rfl rfl <| Dp 6 hok (fun _ _ _ A h => R.ext C rfl (A.w rfl rfl) (A.x rfl rfl) rfl h) <| Dp 7 hok (fun _ _ _ A h => R.ext C rfl (A.w rfl rfl) (A.x rfl rfl) rfl h) <| Dp 8 hok (fun _ _ _ A h => R.asg C rfl (A.w rfl rfl) (A.x rfl rfl) h) <| Dp 9 hok (fun _ _ _ A h => R.asg C rfl (A.w rfl rfl) (A.x rfl rfl) h) <| D.done C hok (by kernel_rfl) ?_
    have hl := RO.le_trans hl1 hl2
    refine X.weaken ?_ (found_one (he.mono hl) (hc.mono hl) (hw.mono hl) fun ro' own h1 h2 => hret ro' own (RO.le_trans hl h1) h2)
    exact ⟨rfl, rfl, rfl, rfl, rfl, rfl, rfl, rfl, rfl, trivial⟩
noncomputable def g4 : Code := cR (cR (cR (cR b19)))
theorem found_at4 {p1 : Nat} {cb wb : Option Addr} {cc wc : Nat} {ro : RO} {c : Frame} {cs : List Frame} {tail : List (Nat × Obj)} (he : Env ro) (hc : Ls Rc.cells 2 ro (.slice cb 2 cc) exB.cs) (hw : Ls Wt.cells 5 ro (.slice wb 3 wc) exB.ws)
    (hret : ∀ ro' own, ro.le ro' → tail.Sublist own → JM prog Q (G (c.finish (.bool true)) cs) ⟨ro', own⟩) :
    X (JM prog Q) (bf 19 .normal) (c :: cs) 340 [.code g4] [] [(1, .pointer (some ⟨p1, 0, none⟩)), (2, .int .i64 1), (3, .int .i64 0), (4, .int .i64 2), (5, .int .i64 0)]
      ⟨ro, (p1, .cells [.int .i64 3, .int .i64 3, .int .i64 1, .slice cb 2 cc, .slice wb 3 wc].toArray 25 (0, 0)) :: tail⟩ := by
  have hJ : Closed prog true (JM prog Q) := JM.closed
  let main := true
  let J := JM prog Q
  have C : Ctx prog true (JM prog Q) (bf 19 .normal) := ⟨hJ, by decide⟩
  have hv : BkV ro (.agg [.int .i64 3, .int .i64 3, .int .i64 1, .slice cb 2 cc, .slice wb 3 wc].toArray) exB := ⟨_, _, rfl, hc, hw⟩
  refine Xs C <| Xd C fun hok => D5 C 0 hok rfl rfl isAgg25 sizeOf25 (by repeat (first | exact Mh | apply Mt)) Tk5 <| D.eP2 (i := 1) (i' := 2) (dst := (some 43)) (dst' := (some 44)) [true] [true] hok rfl rfl (by kernel_rfl) (by kernel_rfl) (by kernel_rfl) (fun σr rest A hk => ?_) (fun σr rest A hk => ?_)
  ·
    refine R.callP C rfl (A.w rfl rfl) (A.x rfl rfl) (A.s rfl rfl) (sq_c hJ _ _ _) (hk _ _ ⟨(QFs.cons (QF.of rfl (fun _ _ A h => R.loadAgg C rfl (A.w rfl rfl) (A.x rfl rfl) isAgg25 sizeOf25 (by repeat (first | exact Mh | apply Mt)) Tk5 h)) QFs.nil), ?_⟩)
    refine De 2 (some 44) [true] hok (fun σr rest A hk => ?_)
    refine R.buildSlice C (vs := _) rfl (A.w rfl rfl) (show pvals _ _ = some (numbered 0 [_, _]) from (A.p rfl rfl)) rfl runUnderlying28 sizeOf3 zeroValue3 (by decide) ((.cons rfl rfl (.cons rfl rfl .nil))) fun p44 => hk _ _ ⟨(QFs.cons (QF.of rfl (fun _ _ A h => R.loadAgg C rfl (A.w rfl rfl) (A.x rfl rfl) isAgg25 sizeOf25 (by repeat (first | exact Mh | apply Mt)) Tk5 h)) QFs.nil), ?_⟩
    refine Dp 3 hok (fun _ _ _ A h => R.build C rfl (A.w rfl rfl) (A.p rfl rfl) zeroValue30 rfl runUnderlying30 (by kernel_rfl) (Fills.part rfl rfl sizeOf27 rfl (.here (.here .nil)) (Fills.part rfl rfl sizeOf28 rfl (.skip (.skip (.here .nil))) .nil)) h) <| De 4 (some 46) [false] hok (fun σr rest A hk => ?_)
    refine R.persist C.1 fun ro1 hl1 hp1 => R.callR C rfl (A.w rfl rfl) (A.x rfl rfl) (A.s rfl rfl) ((x_is1 hJ (he.mono hl1) (hv.mono hl1) ⟨_, _, rfl, Ls.lit (xs := ([0, 1] : List Int)) (t := 3) (fq := (0, 0)) ic_len (show ro1 p44 = _ from hp1), ⟨none, 0, rfl, .inl rfl⟩⟩)) fun v2 ro2 hl2 hq2 => hk _ _ ⟨QFs.nil, ?_⟩
    subst hq2
    refine Dm C 5 hok rfl rfl rfl <| Dp 6 hok (fun _ _ _ A h => R.ext C rfl (A.w rfl rfl) (A.x rfl rfl) rfl h) <| Dp 7 hok (fun _ _ _ A h => R.ext C rfl (A.w rfl rfl) (A.x rfl rfl) rfl h) <| Dp 8 hok (fun _ _ _ A h => R.asg C rfl (A.w rfl rfl) (A.x rfl rfl) h) <| Dp 9 hok (fun _ _ _ A h => R.asg C rfl (A.w rfl rfl) (A.x rfl rfl) h) <| D.done C hok (by kernel_rfl) ?_
    have hl := RO.le_trans hl1 hl2
    refine X.weaken ?_ (found_at5 (he.mono hl) (hc.mono hl) (hw.mono hl) fun ro' own h1 h2 => hret ro' own (RO.le_trans hl h1) h2)
    exact ⟨rfl, rfl, rfl, rfl, rfl, rfl, rfl, trivial⟩
  ·
    refine R.buildSlice C (vs := _) rfl (A.w rfl rfl) (show pvals _ _ = some (numbered 0 [_, _]) from (A.p rfl rfl)) rfl runUnderlying28 sizeOf3 zeroValue3 (by decide) ((.cons rfl rfl (.cons rfl rfl .nil))) fun p44 => hk _ _ ⟨(QFs.cons (QF.of rfl (fun _ _ A h => R.loadAgg C rfl (A.w rfl rfl) (A.x rfl rfl) isAgg25 sizeOf25 (by repeat (first | exact Mh | apply Mt)) Tk5 h)) QFs.nil), ?_⟩
    refine De 1 (some 43) [true] hok (fun σr rest A hk => ?_)
    refine R.callP C rfl (A.w rfl rfl) (A.x rfl rfl) (A.s rfl rfl) (sq_c hJ _ _ _) (hk _ _ ⟨(QFs.cons (QF.of rfl (fun _ _ A h => R.loadAgg C rfl (A.w rfl rfl) (A.x rfl rfl) isAgg25 sizeOf25 (by repeat (first | exact Mh | apply Mt)) Tk5 h)) QFs.nil), ?_⟩)
    refine Dp 3 hok (fun _ _ _ A h => R.build C rfl (A.w rfl rfl) (A.p rfl rfl) zeroValue30 rfl runUnderlying30 (by kernel_rfl) (Fills.part rfl rfl sizeOf27 rfl (.here (.here .nil)) (Fills.part rfl rfl sizeOf28 rfl (.skip (.skip (.here .nil))) .nil)) h) <| De 4 (some 46) [false] hok (fun σr rest A hk => ?_)
    refine R.persist C.1 fun ro1 hl1 hp1 => R.callR C rfl (A.w rfl rfl) (A.x rfl rfl) (A.s rfl rfl) ((x_is1 hJ (he.mono hl1) (hv.mono hl1) ⟨_, _, rfl, Ls.lit (xs := ([0, 1] : List Int)) (t := 3) (fq := (0, 0)) ic_len (show ro1 p44 = _ from hp1), ⟨none, 0, rfl, .inl rfl⟩⟩)) fun v2 ro2 hl2 hq2 => hk _ _ ⟨QFs.nil, ?_⟩
    subst hq2
    refine Dm C 5 hok rfl rfl rfl <| Dp 6 hok (fun _ _ _ A h => R.ext C rfl (A.w rfl rfl) (A.x rfl rfl) rfl h) <| Dp 7 hok (fun _ _ _ A h => R.ext C rfl (A.w rfl rfl) (A.x rfl rfl) rfl h) <| Dp 8 hok (fun _ _ _ A h => R.asg C rfl (A.w rfl rfl) (A.x rfl rfl) h) <| Dp 9 hok (fun _ _ _ A h => R.asg C rfl (A.w rfl rfl) (A.x rfl rfl) h) <| D.done C hok (by kernel_rfl) ?_
    have hl := RO.le_trans hl1 hl2
    refine X.weaken ?_ (found_at5 (he.mono hl) (hc.mono hl) (hw.mono hl) fun ro' own h1 h2 => hret ro' own (RO.le_trans hl h1) h2)
    exact ⟨rfl, rfl, rfl, rfl, rfl, rfl, rfl, trivial⟩
theorem found_c (ro : RO) (he : Env ro) : CallR prog (JM prog Q) (fnv 19) [] ro (fun w _ => w = .bool true) := by
  have hJ : Closed prog true (JM prog Q) := JM.closed
  let main := true
  let J := JM prog Q
  refine CallR.intro hJ (by kernel_rfl) fun c cs tail hret => enter_X (n := 340) func19 rfl rfl (Nl rfl) ?_
  have C : Ctx prog main J (bf 19 .normal) := ⟨hJ, by decide⟩
  refine Xr C rfl rfl <| Ad C rfl rfl <| Xr C rfl rfl <| R.callR C rfl rfl rfl rfl ((example_c hJ _)) fun v1 ro1 hl1 hq1 => ?_
  obtain ⟨vc, vw, rfl, hc, hw⟩ := hq1
  obtain ⟨cb, cc, rfl⟩ := hc.form
  obtain ⟨wb, wc, rfl⟩ := hw.form
  have kt1 := true_c hJ ⟨0, 0⟩ ⟨2, 1⟩ ro1
  have kt2 := true_c hJ ⟨0, 0⟩ ⟨5, -2⟩ ro1
  rw [k_true1] at kt1
  rw [k_true2] at kt2
  refine R.alloc C rfl rfl zeroValue25 rfl fun p1 => R.store C rfl rfl rfl rfl sizeOf25 rfl rfl rfl (by repeat (first | exact Uh | apply Ut)) (.here (.here (.here (.here (.here .nil))))) <| R.done C <| Xr C rfl rfl <| R.callP C rfl rfl rfl rfl (sq_c hJ _ _ _) <| R.callP C rfl rfl rfl rfl (sq_c hJ _ _ _) <| R.callP C rfl rfl rfl rfl (kt1) <| Rm C rfl rfl <| R.ext C rfl rfl rfl rfl <| R.ext C rfl rfl rfl rfl <| R.asg C rfl rfl rfl <| Ad C rfl rfl <| Xr C rfl rfl <| R.callP C rfl rfl rfl rfl (sq_c hJ _ _ _) <| R.callP C rfl rfl rfl rfl (sq_c hJ _ _ _) <| R.callP C rfl rfl rfl rfl (kt2) <| Rm C rfl rfl <| R.ext C rfl rfl rfl rfl <| R.ext C rfl rfl rfl rfl <| R.asg C rfl rfl rfl <| Ad C rfl rfl <| X.weaken ?_ (found_at4 (he.mono hl1) hc hw fun ro' own h1 h2 => hret _ ro' own (RO.le_trans hl1 h1) h2 rfl)
  exact ⟨rfl, rfl, rfl, rfl, rfl, trivial⟩
end Go.Lg.B
namespace Go.Lg
open Go Go.Conc
theorem R.neBool {P : Program} {main : Bool} {J : Goroutine → Mem → Prop} {b : Frame} (C : Ctx P main J b) {cs : List Frame} {n : Nat} {ds : List Deferred} {σ : Slots} {k : List Item} {ops : Array Oper} {i : Nat} {rest : List Nat} {d : Nat} {ty : TypeId} {pos : String} {af : Array Edge} {g : Option (Nat × Bool)}
    {t t' : TypeId} {x y : Operand} {p q : Bool} {M : Mem} (ho : ops[i]? = some ⟨some d, .binOp .neq t x y t', ty, pos, af, g⟩) (hg : wantedS ops σ ⟨some d, .binOp .neq t x y t', ty, pos, af, g⟩ = some true)
    (hx : ev σ x = some (.bool p)) (hy : ev σ y = some (.bool q)) (hu : ∀ w, Sem.run P (Go.underlying t) w = .ok .bool w)
    (h : R J b cs n ops rest k ds ((d, .bool (!(p == q))) :: σ) M) : R J b cs n ops (i :: rest) k ds σ M :=
  R.v C ho hg rfl (fun a ha K hk => by
    unfold execOp
    simp only [ha.ev hx, ha.ev hy]
    refine ex_v (Sm.bind ?_)
    unfold eqGuard
    refine Sm.pure ?_
    show Sm P M (binOp .neq t (.bool p) (.bool q)) _
    unfold binOp
    simp only
    refine Sm.bind ?_
    unfold Op.equal Op.equalIn
    refine Sm.bind (Sm.underlying hu ?_)
    exact Sm.pure (Sm.pure hk)) h
end Go.Lg
namespace Go.Lg.B
open Go Go.Conc Go.Lg Go.Proofs Go.Proofs.Tryz
section
variable {main : Bool} {J : Goroutine → Mem → Prop} (hJ : Closed prog main J)
include hJ
theorem betweenR_c (n l m : Int) (ro : RO) : CallP prog J (fnv 55) [.int .i64 n, .int .i64 l, .int .i64 m] ro (.bool (between n l m)) := by
  refine CallP.intro hJ (by kernel_rfl) fun c cs tail hret => enter_X (n := 15) func55 rfl rfl (Nl rfl) ?_
  have C : Ctx prog main J (bf 55 .normal) := ⟨hJ, by decide⟩
  refine Xr C rfl rfl <| Ad C rfl rfl <| Xr C rfl rfl <| Rm C rfl rfl <| Rm C rfl rfl <| R.int C rfl rfl rfl rfl b_leq <| Rm C rfl rfl <| R.fix (t := 10) rfl (fun q1 => ?_) (fun q1 => ?_)
  · have q1 := q1
    refine Rm C rfl rfl <| Rm C rfl rfl <| R.int C rfl rfl rfl rfl b_leq <| R.pickT C rfl rfl rfl rfl <| Ad C rfl rfl <| Xt C func55 <| Hp hret ?_
    first | (simp_all [between, retVal]; done) | (simp_all [between, retVal]; omega)
  · have q1 := q1
    refine R.pass C rfl rfl <| R.pass C rfl rfl <| R.pass C rfl rfl <| R.pickF C rfl rfl rfl rfl <| Ad C rfl rfl <| Xt C func55 <| Hp hret ?_
    first | (simp_all [between, retVal]; done) | (simp_all [between, retVal]; omega)
end
end Go.Lg.B
namespace Go.Lg
open Go Go.Conc
section
variable {P : Program} {Post : Value → World → Prop} {b : Frame} {n : Nat} {ds : List Deferred} {σ : Slots} {ro : RO} {own : List (Nat × Obj)} {k : List Item}
def Back0 (ro : RO) (Post : Value → World → Prop) (R : Value → RO → Prop) : Prop :=
  ∀ v ro' own, ro.le ro' → R v ro' → ∀ w, Sat ⟨ro', own⟩ w → Post v w
theorem J_leave0 {a : Act} {todo : List Item} {fn : Func} {rs : List ResultVar} {vs : List Value} (hi : P.inits.idxOf? b.fn = none) (hkind : b.kind = .normal) (hf : P.funcs[b.fn]? = some fn) (hrs : fn.results = rs.toArray) (ha : Holds n [] σ a) (hr : Res P σ own rs vs) (h : ∀ w, Sat ⟨ro, own⟩ w → Post (retVal vs) w) :
    JM P (Go.Conc.Good P Post) (G { fr b a todo with mode := .returning } []) ⟨ro, own⟩ := by
  refine JM.last rfl fun w hs => ?_
  obtain ⟨x, w', es, M', h1, h2, h3, h4⟩ := Sm.results (ro := ro) (tmps := a.tmps) ha rfl hrs hr (K := fun v M' => v = retVal vs ∧ M' = ⟨ro, own⟩) ⟨rfl, rfl⟩ w #[] hs
  subst h3; subst h4
  rw [Array.empty_append] at h1
  refine ⟨_, w', seen P b.fn es, _, ?_, { h2 with evs := fun e he => h2.evs e (mem_seen he) }, h w' h2.sat⟩
  simp only [fr, G, stepG, unwind, ha.defers, hf]
  rw [h1]
  simp [GStep.after, doReturn, hkind, hi]
variable (C : Ctx P true (JM P (Go.Conc.Good P Post)) b)
include C
theorem X.ret0 {fn : Func} {rs : List ResultVar} {vs : List Value} (hi : P.inits.idxOf? b.fn = none) (hro : b.roundOf = none) (hkind : b.kind = .normal) (hf : P.funcs[b.fn]? = some fn) (hrs : fn.results = rs.toArray) (hr : Res P σ own rs vs) (h : ∀ w, Sat ⟨ro, own⟩ w → Post (retVal vs) w) :
    X (JM P (Go.Conc.Good P Post)) b [] n (.code .ret :: k) [] σ ⟨ro, own⟩ := fun _ ha => C.1.ctl rfl (fun w => ret_step hro w) (J_leave0 hi hkind hf hrs ha hr h)
end
def Root (P : Program) (f : FuncId) (args : List Value) (ro : RO) (R : Value → RO → Prop) : Prop :=
  ∀ Post, Back0 ro Post R → JM P (Go.Conc.Good P Post) (G (Frame.enter P f args.toArray .normal) []) ⟨ro, []⟩
end Go.Lg
namespace Go.Lg
open Go Go.Conc Go.ChangeShapes Go.RowKit
section
variable {H : Type} {enc : TypeId × Value → H}
theorem trodAll_stays {P : Program} (hl : laidOutB P = true) {W W' : World} {sp' : Nat → Bool} : ∀ {ts : List TypeId} {vs : List Value} {ds : List (DataW H)} {ps : List MemPlace}, (∀ t ∈ ts, P.readableRec t = true ∧ t < P.types.size) →
    DataW.TrodAll enc P W 0 (fun _ => true) true ts vs ds ps → (∀ p ∈ ps, W.sameAt W' p) → (∀ p ∈ ps, sp' p.block = true) → DataW.TrodAll enc P W' 0 sp' true ts vs ds ps
  | [], vs, ds, ps, _, h, _, _ => by obtain ⟨rfl, rfl, rfl⟩ := trodAll_nil h; exact trodAll_mk0
  | t :: ts, vs, ds, ps, hr, h, h1, h2 => by
    obtain ⟨v, vs', d, ds', p, q, rfl, rfl, rfl, hd, hrest⟩ := trodAll_cons h
    exact ⟨p, q, WideElems.Trod_stays hl (hr t List.mem_cons_self).1 (hr t List.mem_cons_self).2 hd (fun x hx => h1 x (List.mem_append_left _ hx)) (fun x hx => h2 x (List.mem_append_left _ hx)), trodAll_stays hl (fun t ht => hr t (List.mem_cons_of_mem _ ht)) hrest (fun x hx => h1 x (List.mem_append_right _ hx)) (fun x hx => h2 x (List.mem_append_right _ hx)), rfl⟩
theorem sameAt_of {W W' : World} (h : ∀ (b : Nat) (o : Obj), W.heap[b]? = some o → W'.heap[b]? = some o) {p : MemPlace} (hp : p.block < W.heap.size) : W.sameAt W' p := by
  have hb : W'.heap[p.block]? = W.heap[p.block]? := by rw [h _ _ (Array.getElem?_eq_getElem hp), Array.getElem?_eq_getElem hp]
  cases p with
  | cell b o => exact World.cell?_of_block (w := W) hb
  | map b => exact hb
theorem keptBut_of {W W' : World} (h : ∀ (b : Nat) (o : Obj), W.heap[b]? = some o → W'.heap[b]? = some o) (hs : SameOut W W') (may : MemPlace → Prop) : W.keptBut W' may := by
  refine ⟨hs.1, hs.2, fun i hi => ?_⟩
  rw [h _ _ (Array.getElem?_eq_getElem hi), Array.getElem?_eq_getElem hi]
  split <;> simp_all
theorem leaving_of_root {a : Assume} {C : Checked} {os : Os} {f : FuncId} {fn : Func} {s : ChangeSpec} {conds : List PathCond} {apart fresh handsOn : Bool} {X : World → Array Value → Prop} {tb : TypeId}
    (hX : ∀ (w w' : World) (args : Array Value), w.heap = w'.heap → X w args → X w' args)
    (own : ownKnob C.prog.godebug = none) (started : os.Started) (hfn : C.prog.funcs[f]? = some fn)
    (hl : laidOutB C.prog = true) (hpar : ∀ t ∈ fn.params.toList, C.prog.readableRec t = true ∧ t < C.prog.types.size) (hvars : s.vars = []) (hres : fn.resultTypes = #[tb]) (htb : C.prog.underlying tb = some .bool)
    (witness : ∃ (w : World) (tape : Tape) (i : Input), w.os = os ∧ (w.forCall tape i).Shaped C.prog ∧ i.vars = [] ∧ Input.okWide C.prog (w.forCall tape i) .any w.heap.size f i ∧
      ((s.pre enc C.prog fn conds apart (w.forCall tape i).memory i.args ∧ X (w.forCall tape i).memory i.args) ∧ sizedMet enc C.prog fn (OpenSpec.ofChange s) apart (w.forCall tape i).memory i.args) ∧ a.holds C.prog (lone (Frame.enter C.prog f i.args .normal) [] (w.forCall tape i)))
    (root : ∀ (W : World) (base : Nat) (args : Array Value) (ds gs : List (DataW H)) (before : List MemPlace),
      (∀ (j : Nat) t v, fn.params[j]? = some t → args[j]? = some v → Value.okWide C.prog W .any base t v) →
      DataW.Whole enc C.prog fn.params.toList s.vars apart W args.toList ds gs before →
      conds.all (PathCond.test C.prog ⟨fn.params.toList, ds, s.plain.varTypes C.prog, gs⟩) = true → (DataW.weightsEach C.prog (fn.params.toList ++ s.plain.varTypes C.prog) (ds ++ gs)).all (· ≤ reachBytes) = true → X W args →
      s.fn H (ds ++ gs) = { results := [.lit (.bool true)], args := ds, vars := [] } ∧ Root C.prog f args.toList (fun b => W.heap[b]?) (fun w _ => w = .bool true)) :
    ReturnsInLeavingWide a C os f .any (fun w args => (s.pre enc C.prog fn conds apart w args ∧ X w args) ∧ sizedMet enc C.prog fn (OpenSpec.ofChange s) apart w args) (s.post enc C.prog fn apart fresh handsOn false) := by
  refine returnsInLeavingWide_of_good own started witness ?_
  intro w tape i _ _ _ hok hpre hholds
  obtain ⟨_, _, _, fn', hfn', _, _, _, _, hval⟩ := hok
  have e : fn' = fn := Option.some.inj (hfn'.symm.trans hfn)
  subst e
  obtain ⟨⟨⟨ds, gs, before, hw, hc⟩, hx⟩, hz⟩ := hpre
  have hw' := DataW.Whole.of_heap (w' := w.forCall tape i) (by rfl) hw
  generalize hW : w.forCall tape i = W at *
  obtain ⟨hfnv, hroot⟩ := root W w.heap.size i.args ds gs before hval hw' hc (hz.weights hw) (hX _ _ _ (by subst hW; rfl) hx)
  have hj := hroot (fun v w' => v = .bool true ∧ ∀ (b : Nat) (o : Obj), W.heap[b]? = some o → w'.heap[b]? = some o) fun v ro' own hle hv w' hs => ⟨hv, fun b o hb => hs.ro _ _ (hle _ _ hb)⟩
  rw [Array.toArray_toList] at hj
  obtain ⟨N, last, o, w', t', h1, h2, h3, hG, hso⟩ := JM.start hj
  refine ⟨N, last, o, w', t', h1, h2, h3, hG.mono fun v ⟨hv, hh⟩ => ChangeSpec.post_blind ?_⟩
  subst hv
  obtain ⟨p, q, hA, hV, rfl, _, _⟩ := id hw'
  refine ⟨ds, gs, _, [], p, [], hw', ?_, ?_, ?_, keptBut_of hh hso _, fun h => nomatch h⟩
  · rw [hfnv, hres]
    exact trodAll_mk1 (shut_bool htb _)
  · rw [hfnv]
    have hlt := hw'.lt
    exact trodAll_stays hl hpar hA (fun x hx => sameAt_of hh (hlt x (List.mem_append_left _ hx))) (fun x hx => by simpa using hlt x (List.mem_append_left _ hx))
  · rw [hfnv, hvars]; rfl
end
end Go.Lg
namespace Go.Lg.B
open Go Go.Conc Go.Lg Go.Proofs Go.WideShapes Go.ChangeShapes Go.Proofs.Tryz
set_option maxRecDepth 100000
section
variable {H : Type} {enc0 : TypeId × Value → H} {W : World} {base : Nat} {sp : Nat → Bool} {held : Bool}
theorem argU8 {r : Reach} {b0 : Nat} {v : Value} {d : DataW H} {p : List MemPlace} (hv : Value.okWide prog W r b0 5 v) (h : DataW.Trod enc0 prog W base sp held 5 v d p) : ∃ n, v = .int .u8 n ∧ 0 ≤ n ∧ n ≤ 255 := by
  obtain ⟨x, rfl, _, _, wx⟩ := open_int underlying5 hv h
  exact ⟨x, rfl, by simpa [Lit.wf, IntKind.min, IntKind.max, IntKind.signed, IntKind.bits] using wx⟩
end
end Go.Lg.B
namespace Go.Lg.B
open Go Go.Conc Go.Lg Go.Proofs Go.Proofs.YtlkmnfdipiielaaGreatDoor Go.Proofs.Tryz
set_option maxRecDepth 100000
theorem own0 : ownKnob prog.godebug = none := by kernel_rfl
theorem gChecks : prog.globalNamed "lagan/bearing.checks" = some 0 := by kernel_rfl
theorem tChecks : (prog.globals[0]?).map (·.type) = some 119 := by kernel_rfl
theorem cells118 : prog.cellsOf 118 = 1 := by kernel_rfl
theorem cells119 : prog.cellsOf 119 = 3 := by kernel_rfl
theorem laid0 : laidOutB prog = true := by kernel_rfl
abbrev laid1 : List (String × DataW Unit) := [("lagan/bearing.checks", Rows.laid_lagan_bearing_checks)]
theorem env_of_laid {W : World} (h : laidMetH prog laid1 W) : Env (fun b => W.heap[b]?) := by
  obtain ⟨g, t, cs, fuel, p, hg, ht, hv, hd⟩ := h.funcs (List.mem_singleton.2 rfl)
  obtain rfl := Option.some.inj (gChecks.symm.trans hg)
  obtain rfl := Option.some.inj (tChecks.symm.trans ht)
  have hd' : DataW.trod (funcToken prog) prog W 0 (fun _ => true) true fuel 119 cs.toList = some (.agg [.held [40, 108, 97, 103, 97, 110, 47, 98, 101, 97, 114, 105, 110, 103, 46, 98, 111, 111, 107, 41, 46, 99, 104, 97, 114, 116], .held [40, 108, 97, 103, 97, 110, 47, 98, 101, 97, 114, 105, 110, 103, 46, 98, 111, 111, 107, 41, 46, 99, 111, 109, 112, 97, 115, 115, 101, 115], .held [40, 108, 97, 103, 97, 110, 47, 98, 101, 97, 114, 105, 110, 103, 46, 98, 111, 111, 107, 41, 46, 119, 105, 116, 110, 101, 115, 115, 101, 115]], p) := hd
  obtain ⟨xs, m, _, hx, hl, hn, hel⟩ := DataW.trod_array underlying119 hd'
  rw [cells119] at hl
  obtain ⟨v0, v1, v2, hcs⟩ : ∃ v0 v1 v2, cs.toList = [v0, v1, v2] := by
    match h : cs.toList, hl with
    | [a, b, c], _ => exact ⟨a, b, c, rfl⟩
  obtain ⟨x0, x1, x2, rfl⟩ : ∃ x0 x1 x2, xs = [x0, x1, x2] := by
    match xs, hn with
    | [a, b, c], _ => exact ⟨a, b, c, rfl⟩
  simp only [Prod.mk.injEq, DataW.agg.injEq, List.map_cons, List.map_nil, List.cons.injEq, and_true] at hx
  obtain ⟨⟨h0, h1, h2⟩, _⟩ := hx
  have e0 := hel 0 (by omega)
  have e1 := hel 1 (by omega)
  have e2 := hel 2 (by omega)
  obtain ⟨d0, q0⟩ := x0
  obtain ⟨d1, q1⟩ := x1
  obtain ⟨d2, q2⟩ := x2
  simp only at h0 h1 h2
  subst h0; subst h1; subst h2
  rw [cells118, hcs] at e0 e1 e2
  have f0 := func_of_trod (f0 := 346) underlying118 (by kernel_rfl) (show DataW.trod (funcToken prog) prog W 0 (fun _ => true) true m 118 [v0] = some (_, q0) from e0)
  have f1 := func_of_trod (f0 := 347) underlying118 (by kernel_rfl) (show DataW.trod (funcToken prog) prog W 0 (fun _ => true) true m 118 [v1] = some (_, q1) from e1)
  have f2 := func_of_trod (f0 := 348) underlying118 (by kernel_rfl) (show DataW.trod (funcToken prog) prog W 0 (fun _ => true) true m 118 [v2] = some (_, q2) from e2)
  subst f0; subst f1; subst f2
  unfold World.var? at hv
  rw [gChecks] at hv
  simp only [Option.bind_some] at hv
  split at hv
  · rename_i c t fq hc
    cases hv
    refine ⟨t, fq, ?_⟩
    show W.heap[0]? = _
    rw [hc, ← hcs]
  · cases hv
theorem door_met (os : Os) (args : Array Value) : laidMetH prog laid1 ((World.doorLaid prog 89 os).forCall (fun _ _ => 0) ⟨#[], args, []⟩).memory :=
  laidMetH_of_parts3 (fuel := 8) (laidMet_of_run' 8 (by kernel_rfl) (by kernel_rfl)) (by kernel_rfl) (by kernel_rfl)
theorem door_shaped (os : Os) (args : Array Value) : ((World.doorLaid prog 89 os).forCall (fun _ _ => 0) ⟨#[], args, []⟩).Shaped Tryz.checked.prog := World.shaped_of_RefB (by kernel_rfl) (by kernel_rfl)
theorem card_goes (Lk : Looks) {p : Pinned} {s : OpenSpec} {c : OpenClaim} (kinds : List LaidKind) (tests : Bool) (har : Bool × String) (lk : Bool)
    (hc : c.holds p s) (hw : c.wfByText s = true) (htie : c.laidByTextAt Lk p kinds tests)
    (hst : c.start = .entering) (hnb : c.noBlocks = false ∧ c.again = false) (hm : p.checked.prog.mainIs = some (har.1, har.2.toList)) (hn : (!har.1 && har.2.isEmpty && !lk) = false)
    (hl : ∀ f fn, p.checked.prog.funcNamed c.func = some f → p.checked.prog.funcs[f]? = some fn → lk = p.checked.prog.looks [] ∧ ∀ (j : Nat) t, fn.params[j]? = some t → p.checked.prog.wantsStandIn t = false)
    (hg : true = c.goesBy p.checked.prog) :
    Claim7.holds p (.plain s) { stood := { row := c, standIns := [], harness := har, looks := lk }, kinds := [], alts := [], goes := true, laidByText := true, laidKinds := kinds, laidTests := tests, laidLooks := Lk } := by
  have h6 : ∀ r : OpenClaim, Claim7.isSixth { stood := { row := r, standIns := [], harness := har, looks := lk }, kinds := [] } = false := fun r => by simpa [Claim7.isSixth] using hn
  exact ⟨Claim7.tied_new_at Lk kinds tests (Claim7.new_of_sixth hc har lk hst hnb hm (h6 c) hl) hw, fun D hD => (nomatch hD), htie, (fun h => by cases h), hg⟩
end Go.Lg.B
namespace Go.Lg.B
open Go Go.Proofs Go.Proofs.YtlkmnfdipiielaaGreatDoor Go.Proofs.Tryz
set_option maxRecDepth 100000
theorem and_mk {a b : Bool} (h : a = true) (h' : b = true) : (a && b) = true := by rw [h, h']; rfl
theorem k_lo : laidOutB prog = true := by kernel_rfl
theorem k_mr : mapsRowed prog = true := by kernel_rfl
theorem k_stops : (prog.stops == []) = true := by kernel_rfl
theorem k_knobs : (prog.stopKnobs == []) = true := by kernel_rfl
theorem k_heard : prog.stopsHeard = true := by kernel_rfl
theorem k_may : prog.mayEnter = true := by kernel_rfl
theorem k_lift : prog.liftsFinal = Rows.bearingTurnedRow.lifted := by kernel_rfl
theorem k_pk : prog.plainKeys = false := by kernel_rfl
theorem k_make : prog.make = some Rows.bearingTurnedRow.make := by kernel_rfl
theorem k_looks : true = prog.looks [] := by kernel_rfl
theorem k_main : prog.mainIs = some (true, ("6da441031df1273c87b994104071112c0d6d76e328f9edd428a3df0ab3bd48e1" : String).toList) := by kernel_rfl
end Go.Lg.B
