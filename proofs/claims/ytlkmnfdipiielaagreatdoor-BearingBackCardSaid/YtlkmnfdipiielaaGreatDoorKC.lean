/-
  Part 3 of what all proofs of this seat share: laws of the model that the walks use, and what functions of the program reckon. Conditions: the premises that each theorem states.
-/
import Derived.Test.YtlkmnfdipiielaaGreatDoorKB
import Derived.Test.YtlkmnfdipiielaaGreatDoorProg
import Derived.Sort.LotA
import Derived.Sort.LotB
import Derived.Sort.LotC
import Derived.Sort.LotD3
import Derived.Sort.LotD4
set_option maxRecDepth 100000
set_option linter.all false
set_option linter.unusedVariables false
set_option linter.unusedSimpArgs false
set_option linter.unusedSectionVars false
namespace Go.Lg.B
open Go Go.Conc Go.Lg Go.Proofs Go.Proofs.Tryz
theorem b_shlN{P:Program}{t:TypeId}{k':IntKind}{n:Int}(h0:0≤n)(h1:n≤62):∀M K,K (.int .i64 ((2^n.toNat:Nat):Int)) M→Sm P M (binOp .shl t (.int .i64 1) (.int k' n)) K:=fun M K h=>by
 have hb:(2:Nat)^n.toNat≤4611686018427387904:=Nat.le_trans (Nat.pow_le_pow_right O (show n.toNat≤62 by omega)) Dd
 have e:((2^n.toNat:Nat):Int)=1*2^n.toNat:=by simp
 rw [e] at h
 have h2:(1:Int)*2^n.toNat≤4611686018427387904:=by rw [←e];exact Int.ofNat_le.2 hb
 have h3:0≤(1:Int)*2^n.toNat:=by rw [←e];exact Int.natCast_nonneg _
 exact b_shl h0 O O O M K h
theorem b_shrN{P:Program}{t:TypeId}{k':IntKind}{a:Nat}{n:Int}(h0:0≤n)(h1:n≤62):∀M K,K (.int .i64 ((a>>>n.toNat:Nat):Int)) M→Sm P M (binOp .shr t (.int .i64 (a:Int)) (.int k' n)) K:=fun M K h=>by
 have e:((a>>>n.toNat:Nat):Int)=(a:Int) /2^n.toNat:=by rw [Nat.shiftRight_eq_div_pow];simp
 rw [e] at h
 exact b_shr h0 (by simp [IntKind.bits];omega) O M K h
theorem b_and1{P:Program}{t:TypeId}{a:Nat}(ha:a<2^63):∀M K,K (.int .i64 ((a &&& 1:Nat):Int)) M→Sm P M (binOp .and t (.int .i64 (a:Int)) (.int .i64 1)) K:=fun M K h=>b_and (c:=1) ha O M K h
theorem bit_one(a n:Nat):(((a>>>n &&& 1:Nat):Int)==1)=a.testBit n:=by
 rw [Nat.testBit_eq_decide_div_mod_eq,Nat.shiftRight_eq_div_pow,Nat.and_one_is_mod]
 generalize a/2^n%2=x
 by_cases h:x=1
 ·simp [h]
 ·simp only [h,decide_false,beq_eq_false_iff_ne,ne_eq];omega
theorem eqT3:IntT prog 9997 3 1 false:=IntT.int runUnderlying3
theorem eqT27':IntT prog 9998 27 2 true:=IntT.struct runUnderlying27 Kr (.cons Dd rfl sizeOf3 isAgg3 (fun _=>rfl) eqT3 (.cons Dd rfl sizeOf3 isAgg3 (fun _=>rfl) eqT3 .nil))
theorem eqT107':IntT prog 9998 107 3 true:=IntT.array (m:=1) runUnderlying107 sizeOf3 isAgg3 (fun _=>rfl) eqT3
theorem eqT109':IntT prog 9999 109 5 true:=IntT.struct runUnderlying109 Kr (.cons Dd rfl sizeOf27 isAgg27 (fun h=>nomatch h) eqT27' (.cons Dd rfl sizeOf107 isAgg107 (fun h=>nomatch h) eqT107' .nil))
theorem eqT111:IntT prog 10000 111 6 true:=IntT.struct runUnderlying111 Kr (.cons Dd rfl sizeOf109 isAgg109 (fun h=>nomatch h) eqT109' (.cons Dd rfl sizeOf3 isAgg3 (fun _=>rfl) (IntT.int runUnderlying3) .nil))
theorem eqT27:IntT prog 10000 27 2 true:=IntT.struct runUnderlying27 Kr (.cons Dd rfl sizeOf3 isAgg3 (fun _=>rfl) (IntT.int runUnderlying3) (.cons Dd rfl sizeOf3 isAgg3 (fun _=>rfl) (IntT.int runUnderlying3) .nil))
theorem eqT107:IntT prog 10000 107 3 true:=IntT.array (m:=1) runUnderlying107 sizeOf3 isAgg3 (fun _=>rfl) (IntT.int runUnderlying3)
theorem ckT27:CheckT prog 10000 27 2 true:=CheckT.struct runUnderlying27 (by
 intro f hf
 simp only [List.mem_cons,List.not_mem_nil,or_false] at hf
 rcases hf with rfl|rfl
 ·exact⟨isAgg3,sizeOf3,CheckT.int runUnderlying3,by decide⟩
 ·exact⟨isAgg3,sizeOf3,CheckT.int runUnderlying3,by decide⟩)
structure Rc where
 lo:Int
 hi:Int
 deriving DecidableEq
def Rc.cells(s:Rc):List Value:= [.int .i64 s.lo, .int .i64 s.hi]
abbrev Rc.val(s:Rc):Value:= .agg s.cells.toArray
structure Sq where
 e:Int
 n:Int
 deriving DecidableEq
def Sq.cells(s:Sq):List Value:= [.int .i64 s.e, .int .i64 s.n]
abbrev Sq.val(s:Sq):Value:= .agg s.cells.toArray
structure Wt where
 s:Sq
 b:Int
 k:Int
 sure:Bool
 deriving DecidableEq
def Wt.cells(w:Wt):List Value:= [.int .i64 w.s.e, .int .i64 w.s.n, .int .i64 w.b, .int .i64 w.k, .bool w.sure]
abbrev Wt.val(w:Wt):Value:= .agg w.cells.toArray
structure Aim where
 s:Sq
 x:Int
 y:Int
 z:Int
 deriving DecidableEq
def Aim.cells(a:Aim):List Value:= [.int .i64 a.s.e, .int .i64 a.s.n, .int .i64 a.x, .int .i64 a.y, .int .i64 a.z]
abbrev Aim.val(a:Aim):Value:= .agg a.cells.toArray
def Aim.off(a:Aim)(k:Int):Int:=if k=0 then a.x else if k=1 then a.y else a.z
def Aim.set(a:Aim)(k:Int)(v:Int):Aim:=if k=0 then {a with x:=v} else if k=1 then {a with y:=v} else {a with z:=v}
theorem Aim.get(a:Aim){k:Int}(h0:0≤k)(h1:k<3):a.cells[2+k.toNat*1]? =some (.int .i64 (a.off k)):=by
 have:k=0∨k=1∨k=2:=O
 rcases this with rfl|rfl|rfl<;>rfl
theorem Aim.putOff(a:Aim){k:Int}(v:Int)(h0:0≤k)(h1:k<3):Put (2+k.toNat*1) [.int .i64 v] a.cells (a.set k v).cells:=by
 have:k=0∨k=1∨k=2:=O
 rcases this with rfl|rfl|rfl
 ·exact .skip (.skip (.here .nil))
 ·exact .skip (.skip (.skip (.here .nil)))
 ·exact .skip (.skip (.skip (.skip (.here .nil))))
structure Lot where
 a:Aim
 m:Nat
 deriving DecidableEq
def Lot.cells(c:Lot):List Value:= [.int .i64 c.a.s.e, .int .i64 c.a.s.n, .int .i64 c.a.x, .int .i64 c.a.y, .int .i64 c.a.z, .int .i64 (c.m:Int)]
abbrev Lot.val(c:Lot):Value:= .agg c.cells.toArray
structure Bk where
 w:Int
 h:Int
 f:Int
 cs:List Rc
 ws:List Wt
 deriving DecidableEq
variable {ro:RO}{v:Value}{b:Bk}
def BkV(ro:RO)(v:Value)(b:Bk):Prop:= ∃vc vw,v= .agg [.int .i64 b.w, .int .i64 b.h, .int .i64 b.f,vc,vw].toArray∧Ls Rc.cells 2 ro vc b.cs∧Ls Wt.cells 5 ro vw b.ws
theorem BkV.mono{ro':RO}(h:BkV ro v b)(hl:ro.le ro'):BkV ro' v b:=let⟨vc,vw,e,h1,h2⟩:=h;⟨vc,vw,e,h1.mono hl,h2.mono hl⟩
theorem Rc.len(x:Rc):x.cells.length=2:=rfl
theorem Wt.len(x:Wt):x.cells.length=5:=rfl
theorem Lot.len(x:Lot):x.cells.length=6:=rfl
theorem Sq.len(x:Sq):x.cells.length=2:=rfl
variable {main:Bool}{J:Goroutine→Mem→Prop}(hJ:Closed prog main J)
include hJ
def between(n l m:Int):Bool:=decide (l≤n) && decide (n≤m)
theorem between_c(n l m:Int)(ro:RO):CallP prog J (fnv 147) [.int .i64 n, .int .i64 l, .int .i64 m] ro (.bool (between n l m)):=by
 refine CallP.intro hJ Kr fun c cs tail hret=>enter_X (n:=15) func147 U U (Nl U) ?_
 have C:Ctx prog main J (bf 147 .normal):=⟨hJ,by decide⟩
 refine Xr C U U<|Ad C U U<|Xr C U U<|Rm C U U<|Rm C U U<|R.int C U U U U b_leq<|Rm C U U<|R.fix (t:=10) U (fun q1=>?_) (fun q1=>?_)
 ·refine Rm C U U<|Rm C U U<|R.int C U U U U b_leq<|R.pickT C U U U U<|Ad C U U<|Xt C func147<|Hp hret ?_
  first|(simp_all [between,retVal];done)|(simp_all [between,retVal];omega)
 ·refine R.pass C U U<|R.pass C U U<|R.pass C U U<|R.pickF C U U U U<|Ad C U U<|Xt C func147<|Hp hret ?_
  first|(simp_all [between,retVal];done)|(simp_all [between,retVal];omega)
def isReach(x:Rc)(l m:Int):Bool:=decide (l≤x.lo) && decide (x.lo≤x.hi) && decide (x.hi≤m)
theorem isReach_c(x:Rc)(l m:Int)(ro:RO):CallP prog J (fnv 118) [x.val, .int .i64 l, .int .i64 m] ro (.bool (isReach x l m)):=by
 refine CallP.intro hJ Kr fun c cs tail hret=>enter_X (n:=24) func118 U U (Nl U) ?_
 have C:Ctx prog main J (bf 118 .normal):=⟨hJ,by decide⟩
 refine Xr C U U<|R.box C U U U U fun p3=>Ad C U U<|Xr C U U<|Rm C U U<|Rf C 0 U U runUnderlying46 U sizeOf3<|Rl C U U isAgg3 V U<|R.int C U U U U b_leq<|Rm C U U<|R.fix (t:=11) U (fun q1=>?_) (fun q1=>?_)
 ·refine Rf C 0 U U runUnderlying46 U sizeOf3<|Rl C U U isAgg3 V U<|Rf C 1 U U runUnderlying46 U sizeOf3<|Rl C U U isAgg3 V U<|R.int C U U U U b_leq<|R.pickT C U U U U<|Rm C U U<|R.fix (t:=18) U (fun q2=>?_) (fun q2=>?_)
  ·refine Rf C 1 U U runUnderlying46 U sizeOf3<|Rl C U U isAgg3 V U<|Rm C U U<|R.int C U U U U b_leq<|R.pickT C U U U U<|Ad C U U<|Xt C func118<|Hp hret ?_
   first|(simp_all [isReach,retVal];done)|(simp_all [isReach,retVal];omega)
  ·refine R.pass C U U<|R.pass C U U<|R.pass C U U<|R.pass C U U<|R.pickF C U U U U<|Ad C U U<|Xt C func118<|Hp hret ?_
   first|(simp_all [isReach,retVal];done)|(simp_all [isReach,retVal];omega)
 ·refine R.pass C U U<|R.pass C U U<|R.pass C U U<|R.pass C U U<|R.pass C U U<|R.pickF C U U U U<|Rm C U U<|R.pass C U U<|R.pass C U U<|R.pass C U U<|R.pass C U U<|R.pickF C U U U U<|Ad C U U<|Xt C func118<|Hp hret ?_
  first|(simp_all [isReach,retVal];done)|(simp_all [isReach,retVal];omega)
def isPlace(s:Sq):Bool:=between s.e (-20) 20 && between s.n (-20) 20
theorem isPlace_c(s:Sq)(ro:RO):CallP prog J (fnv 81) [s.val] ro (.bool (isPlace s)):=by
 refine CallP.intro hJ Kr fun c cs tail hret=>enter_X (n:=11) func81 U U (Nl U) ?_
 have C:Ctx prog main J (bf 81 .normal):=⟨hJ,by decide⟩
 refine Xr C U U<|R.box C U U U U fun p1=>Ad C U U<|Xr C U U<|Rf C 0 U U runUnderlying27 U sizeOf3<|Rl C U U isAgg3 V U<|R.callP C U U U U (between_c hJ _ _ _ _)<|Rm C U U<|R.fix (t:=6) U (fun q1=>?_) (fun q1=>?_)
 ·refine Rf C 1 U U runUnderlying27 U sizeOf3<|Rl C U U isAgg3 V U<|R.callP C U U U U (between_c hJ _ _ _ _)<|R.pickT C U U U U<|Ad C U U<|Xt C func81<|Hp hret ?_
  simp_all [isPlace,retVal]
 ·refine R.pass C U U<|R.pass C U U<|R.pass C U U<|R.pickF C U U U U<|Ad C U U<|Xt C func81<|Hp hret ?_
  simp_all [isPlace,retVal]
def aside(r u:Bool):Int:=if r && u then 1 else if r then 3 else if u then 7 else 5
theorem aside_c(r u:Bool)(ro:RO):CallP prog J (fnv 148) [.bool r, .bool u] ro (.int .i64 (aside r u)):=by
 refine CallP.intro hJ Kr fun c cs tail hret=>enter_X (n:=14) func148 U U (Nl U) ?_
 have C:Ctx prog main J (bf 148 .normal):=⟨hJ,by decide⟩
 refine Xr C U U<|Ad C U U<|Xs C<|X.block C.1<|Xr C U U<|Rm C U U<|Rm C U U<|R.fix (t:=7) U (fun q1=>?_) (fun q1=>?_)
 ·refine Rm C U U<|R.pickT C U U U U<|Ad C U U<|X.cond C.1 U (fun q2=>?_) (fun q2=>?_)
  ·refine Xr C U U<|Ad C U U<|Xt C func148<|Hp hret ?_
   simp_all [aside,retVal]
  ·refine Xr C U U<|Rm C U U<|Ad C U U<|X.cond C.1 U (fun q3=>?_) (fun q3=>?_)
   ·refine Xr C U U<|Ad C U U<|Xt C func148<|Hp hret ?_
    simp_all [aside,retVal]
   ·refine Xr C U U<|Rm C U U<|Ad C U U<|X.cond C.1 U (fun q4=>?_) (fun q4=>?_)
    ·refine Xr C U U<|Ad C U U<|Xt C func148<|Hp hret ?_
     simp_all [aside,retVal]
    ·refine X.skip C.1<|X.inBlock C.1<|Xr C U U<|Ad C U U<|Xt C func148<|Hp hret ?_
     simp_all [aside,retVal]
 ·refine R.pass C U U<|R.pickF C U U U U<|Ad C U U<|X.cond C.1 U (fun h=>nomatch h) (fun _=>?_)
  refine Xr C U U<|Rm C U U<|Ad C U U<|X.cond C.1 U (fun q5=>?_) (fun q5=>?_)
  ·refine Xr C U U<|Ad C U U<|Xt C func148<|Hp hret ?_
   simp_all [aside,retVal]
  ·refine Xr C U U<|Rm C U U<|Ad C U U<|X.cond C.1 U (fun q6=>?_) (fun q6=>?_)
   ·refine Xr C U U<|Ad C U U<|Xt C func148<|Hp hret ?_
    simp_all [aside,retVal]
   ·refine X.skip C.1<|X.inBlock C.1<|Xr C U U<|Ad C U U<|Xt C func148<|Hp hret ?_
    simp_all [aside,retVal]
def Sq.ok(s:Sq):Prop:= -1000≤s.e∧s.e≤1000∧ -1000≤s.n∧s.n≤1000
def bearing(a z:Sq):Int:=
 if 12*min (max (z.e-a.e) (-(z.e-a.e))) (max (z.n-a.n) (-(z.n-a.n)))>5*max (max (z.e-a.e) (-(z.e-a.e))) (max (z.n-a.n) (-(z.n-a.n))) then aside (decide (z.e-a.e>0)) (decide (z.n-a.n>0))
 else if max (z.e-a.e) (-(z.e-a.e))>max (z.n-a.n) (-(z.n-a.n))∧z.e-a.e>0 then 2
 else if max (z.e-a.e) (-(z.e-a.e))>max (z.n-a.n) (-(z.n-a.n)) then 6
 else if z.n-a.n>0 then 0 else 4
theorem bearing_c(a z:Sq)(ha:a.ok)(hz:z.ok)(ro:RO):CallP prog J (fnv 82) [a.val,z.val] ro (.int .i64 (bearing a z)):=by
 obtain⟨a1,a2,a3,a4⟩:=ha
 obtain⟨z1,z2,z3,z4⟩:=hz
 refine CallP.intro hJ Kr fun c cs tail hret=>enter_X (n:=57) func82 U U (Nl U) ?_
 have C:Ctx prog main J (bf 82 .normal):=⟨hJ,by decide⟩
 refine Xr C U U<|R.box C U U U U fun p2=>R.box C U U U U fun p3=>Ad C U U<|Xs C<|Xd C fun hok=>Df (off':=0) C 0 hok U U U runUnderlying27 U sizeOf3 U<|D1 C 1 hok U U isAgg3 V U<|Df (off':=0) C 2 hok U U U runUnderlying27 U sizeOf3 U<|D1 C 3 hok U U isAgg3 V U<|Di C 4 hok U U U U U (b_sub O O)<|Df (off':=1) C 5 hok U U U runUnderlying27 U sizeOf3 U<|D1 C 6 hok U U isAgg3 V U<|Df (off':=1) C 7 hok U U U runUnderlying27 U sizeOf3 U<|D1 C 8 hok U U isAgg3 V U<|Di C 9 hok U U U U U (b_sub O O)<|Da C 10 hok U U<|Da C 11 hok U U<|D.done C hok Kr<|Xr C U U<|Rm C U U<|Rm C U U<|R.neg C U U U O O<|R.max2 C U U U U<|Rm C U U<|Rm C U U<|R.neg C U U U O O<|R.max2 C U U U U<|R.asg C U U U<|Ad C U U<|Xs C<|X.block C.1<|Xr C U U<|Rm C U U<|Rm C U U<|R.min2 C U U U U<|R.int C U U U U (b_mul O O)<|Rm C U U<|Rm C U U<|R.max2 C U U U U ?_;refine R.int C U U U U (b_mul O O)<|R.int C U U U U b_gtr<|Ad C U U<|X.cond C.1 U (fun q1=>?_) (fun q1=>?_)
 ·refine Xr C U U<|Rm C U U<|R.int C U U U U b_gtr<|Rm C U U<|R.int C U U U U b_gtr<|R.callP C U U U U (aside_c hJ _ _ _)<|Ad C U U<|Xt C func82<|Hp hret ?_
  (simp only [decide_eq_true_eq,decide_eq_false_iff_not] at*;simp only [bearing,retVal];repeat' split)<;>first|rfl|(exfalso;omega)
 ·refine Xr C U U<|Rm C U U<|Rm C U U<|R.int C U U U U b_gtr<|Rm C U U<|R.fix (t:=46) U (fun q2=>?_) (fun q2=>?_)
  ·refine Rm C U U<|R.int C U U U U b_gtr<|R.pickT C U U U U<|Ad C U U<|X.cond C.1 U (fun q3=>?_) (fun q3=>?_)
   ·refine Xr C U U<|Ad C U U<|Xt C func82<|Hp hret ?_
    (simp only [decide_eq_true_eq,decide_eq_false_iff_not] at*;simp only [bearing,retVal];repeat' split)<;>first|rfl|(exfalso;omega)
   ·refine Xr C U U<|Rm C U U<|Rm C U U<|R.int C U U U U b_gtr<|Ad C U U<|X.cond C.1 U (fun q4=>?_) (fun q4=>?_)
    ·refine Xr C U U<|Ad C U U<|Xt C func82<|Hp hret ?_
     (simp only [decide_eq_true_eq,decide_eq_false_iff_not] at*;simp only [bearing,retVal];repeat' split)<;>first|rfl|(exfalso;omega)
    ·refine Xr C U U<|Rm C U U<|R.int C U U U U b_gtr<|Ad C U U<|X.cond C.1 U (fun q5=>?_) (fun q5=>?_)
     ·refine Xr C U U<|Ad C U U<|Xt C func82<|Hp hret ?_
      (simp only [decide_eq_true_eq,decide_eq_false_iff_not] at*;simp only [bearing,retVal];repeat' split)<;>first|rfl|(exfalso;omega)
     ·refine X.skip C.1<|X.inBlock C.1<|Xr C U U<|Ad C U U<|Xt C func82<|Hp hret ?_
      (simp only [decide_eq_true_eq,decide_eq_false_iff_not] at*;simp only [bearing,retVal];repeat' split)<;>first|rfl|(exfalso;omega)
  ·refine R.pass C U U<|R.pass C U U<|R.pickF C U U U U<|Ad C U U<|X.cond C.1 U (fun h=>nomatch h) (fun _=>?_)
   refine Xr C U U<|Rm C U U<|Rm C U U<|R.int C U U U U b_gtr<|Ad C U U<|X.cond C.1 U (fun q6=>?_) (fun q6=>?_)
   ·refine Xr C U U<|Ad C U U<|Xt C func82<|Hp hret ?_
    (simp only [decide_eq_true_eq,decide_eq_false_iff_not] at*;simp only [bearing,retVal];repeat' split)<;>first|rfl|(exfalso;omega)
   ·refine Xr C U U<|Rm C U U<|R.int C U U U U b_gtr<|Ad C U U<|X.cond C.1 U (fun q7=>?_) (fun q7=>?_)
    ·refine Xr C U U<|Ad C U U<|Xt C func82<|Hp hret ?_
     (simp only [decide_eq_true_eq,decide_eq_false_iff_not] at*;simp only [bearing,retVal];repeat' split)<;>first|rfl|(exfalso;omega)
    ·refine X.skip C.1<|X.inBlock C.1<|Xr C U U<|Ad C U U<|Xt C func82<|Hp hret ?_
     (simp only [decide_eq_true_eq,decide_eq_false_iff_not] at*;simp only [bearing,retVal];repeat' split)<;>first|rfl|(exfalso;omega)
omit hJ in
theorem aside_range(r u:Bool):0≤aside r u∧aside r u≤7:=by cases r<;>cases u<;>simp [aside]
omit hJ in
theorem bearing_range(a z:Sq):0≤bearing a z∧bearing a z≤7:=by
 unfold bearing
 have:=aside_range (decide (z.e-a.e>0)) (decide (z.n-a.n>0))
 split
 ·exact this
 ·split
  ·omega
  ·split
   ·omega
   ·split<;>omega
omit hJ in
theorem isPlace_ok{s:Sq}(h:isPlace s=true):s.ok:=by
 simp only [isPlace,between,Bool.and_eq_true,decide_eq_true_eq] at h
 unfold Sq.ok;omega
def true_(a z:Sq):Int×Int:=if !isPlace a|| !isPlace z then(0,1) else if a=z then(0,6) else(bearing a z,0)
theorem true_c(a z:Sq)(ro:RO):CallP prog J (fnv 20) [a.val,z.val] ro (.tuple [.int .i64 (true_ a z).1, .int .i64 (true_ a z).2].toArray):=by
 refine CallP.intro hJ Kr fun c cs tail hret=>enter_X (n:=22) func20 U U (Nl U) ?_
 have C:Ctx prog main J (bf 20 .normal):=⟨hJ,by decide⟩
 refine Xr C U U<|R.box C U U U U fun p2=>R.box C U U U U fun p3=>R.asg C U U U<|Ad C U U<|Xs C<|X.block C.1<|Xr C U U<|R5 C U U isAgg27 sizeOf27 V Tk2<|R.callP C U U U U (isPlace_c hJ _ _)<|R.not C U U U<|Rm C U U<|R.fix (t:=10) U (fun q1=>?_) (fun q1=>?_)
 ·refine R.pass C U U<|R.pass C U U<|R.pass C U U<|R.pickT C U U U U<|Ad C U U<|X.cond C.1 U (fun _=>?_) (fun h=>nomatch h)
  refine Xr C U U<|R.asg C U U U<|Ad C U U<|X.ret C U U func20 U (by exact(.tmp U (.tmp U .nil)))<|Hp hret ?_
  (obtain⟨ae,an⟩:=a;obtain⟨ze,zn⟩:=z;simp_all [true_,retVal];try (split<;>simp_all))
 ·refine R5 C U U isAgg27 sizeOf27 V Tk2<|R.callP C U U U U (isPlace_c hJ _ _)<|R.not C U U U<|R.pickF C U U U U<|Ad C U U<|X.cond C.1 U (fun q2=>?_) (fun q2=>?_)
  ·refine Xr C U U<|R.asg C U U U<|Ad C U U<|X.ret C U U func20 U (by exact(.tmp U (.tmp U .nil)))<|Hp hret ?_
   (obtain⟨ae,an⟩:=a;obtain⟨ze,zn⟩:=z;simp_all [true_,retVal];try (split<;>simp_all))
  ·refine Xr C U U<|R5 C U U isAgg27 sizeOf27 V Tk2<|R5 C U U isAgg27 sizeOf27 V Tk2<|R.eqAgg (p:= [a.e,a.n]) (q:= [z.e,z.n]) C U U U U eqT27 U U Kr<|Ad C U U<|X.cond C.1 U (fun q3=>?_) (fun q3=>?_)
   ·refine Xr C U U<|R.asg C U U U<|Ad C U U<|X.ret C U U func20 U (by exact(.tmp U (.tmp U .nil)))<|Hp hret ?_
    (obtain⟨ae,an⟩:=a;obtain⟨ze,zn⟩:=z;simp_all [true_,retVal];try (split<;>simp_all))
   ·refine X.skip C.1<|X.inBlock C.1<|Xr C U U<|R5 C U U isAgg27 sizeOf27 V Tk2<|R5 C U U isAgg27 sizeOf27 V Tk2<|R.callP C U U U U (bearing_c hJ _ _ (isPlace_ok (by simp_all)) (isPlace_ok (by simp_all)) _)<|R.asg C U U U<|Ad C U U<|X.ret C U U func20 U (by exact(.tmp U (.tmp U .nil)))<|Hp hret ?_
    (obtain⟨ae,an⟩:=a;obtain⟨ze,zn⟩:=z;simp_all [true_,retVal];try (split<;>simp_all))
def there(is:Bool):Int:=if is then 0 else 6
theorem there_c(is:Bool)(ro:RO):CallP prog J (fnv 157) [.bool is] ro (.int .i64 (there is)):=by
 refine CallP.intro hJ Kr fun c cs tail hret=>enter_X (n:=5) func157 U U (Nl U) ?_
 have C:Ctx prog main J (bf 157 .normal):=⟨hJ,by decide⟩
 refine Xr C U U<|Ad C U U<|Xs C<|Xr C U U<|Rm C U U<|R.not C U U U<|R.done C<|X.cond C.1 U (fun q1=>?_) (fun q1=>?_)
 ·refine Xr C U U<|Ad C U U<|Xt C func157<|Hp hret ?_
  simp_all [there,retVal]
 ·refine X.skip C.1<|Xr C U U<|Ad C U U<|Xt C func157<|Hp hret ?_
  simp_all [there,retVal]
def Bk.small(b:Bk):Prop:= -1000≤b.w∧b.w≤1000∧ -1000≤b.h∧b.h≤1000∧b.cs.length≤1000∧b.ws.length≤1000
def Bk.square(b:Bk)(s:Sq):Int:=there (between s.e 0 (b.w-1) && between s.n 0 (b.h-1))
def Bk.compass(b:Bk)(k:Int):Int:=there (between k 0 (b.cs.length-1))
def Bk.witness(b:Bk)(k:Int):Int:=there (between k 0 (b.ws.length-1))
theorem square_c(hv:BkV ro v b)(hb:b.small)(s:Sq):CallP prog J (fnv 99) [v,s.val] ro (.int .i64 (b.square s)):=by
 obtain⟨vc,vw,rfl,hc,hw⟩:=hv
 obtain⟨h1,h2,h3,h4,h5,h6⟩:=hb
 refine CallP.intro hJ Kr fun c cs tail hret=>enter_X (n:=22) func99 U U (Nl U) ?_
 have C:Ctx prog main J (bf 99 .normal):=⟨hJ,by decide⟩
 refine Xr C U U<|R.box C U U U U fun p2=>R.box C U U U U fun p3=>Ad C U U<|Xr C U U<|Rf C 0 U U runUnderlying27 U sizeOf3<|Rl C U U isAgg3 V U<|Rf C 0 U U runUnderlying105 U sizeOf25<|Rf C 0 U U runUnderlying25 U sizeOf3<|Rl C U U isAgg3 V U<|R.int C U U U U (b_sub O O)<|R.callP C U U U U (between_c hJ _ _ _ _)<|Rm C U U<|R.fix (t:=12) U (fun q1=>?_) (fun q1=>?_)
 ·refine Rf C 1 U U runUnderlying27 U sizeOf3<|Rl C U U isAgg3 V U<|Rf C 0 U U runUnderlying105 U sizeOf25<|Rf C 1 U U runUnderlying25 U sizeOf3<|Rl C U U isAgg3 V U<|R.int C U U U U (b_sub O O)<|R.callP C U U U U (between_c hJ _ _ _ _)<|R.pickT C U U U U<|R.callP C U U U U (there_c hJ _ _)<|Ad C U U<|Xt C func99<|Hp hret ?_
  simp_all [Bk.square,retVal]
 ·refine R.pass C U U<|R.pass C U U<|R.pass C U U<|R.pass C U U<|R.pass C U U<|R.pass C U U<|R.pass C U U<|R.pickF C U U U U<|R.callP C U U U U (there_c hJ _ _)<|Ad C U U<|Xt C func99<|Hp hret ?_
  simp_all [Bk.square,retVal]
theorem compass_c(hv:BkV ro v b)(hb:b.small)(k:Int):CallP prog J (fnv 105) [v, .int .i64 k] ro (.int .i64 (b.compass k)):=by
 obtain⟨vc,vw,rfl,hc,hw⟩:=hv
 obtain⟨h1,h2,h3,h4,h5,h6⟩:=hb
 obtain⟨b1,c1,rfl⟩:=hc.form
 refine CallP.intro hJ Kr fun c cs tail hret=>enter_X (n:=13) func105 U U (Nl U) ?_
 have C:Ctx prog main J (bf 105 .normal):=⟨hJ,by decide⟩
 refine Xr C U U<|R.box C U U U U fun p2=>Ad C U U<|Xr C U U<|Rm C U U<|Rf C 0 U U runUnderlying105 U sizeOf25<|Rf C 3 U U runUnderlying25 U sizeOf22<|Rl C U U isAgg22 V U<|Rn C U U runUnderlying22<|R.int C U U U U (b_sub O O)<|R.callP C U U U U (between_c hJ _ _ _ _)<|R.callP C U U U U (there_c hJ _ _)<|Ad C U U<|Xt C func105<|Hp hret ?_
 simp_all [Bk.compass,retVal]
theorem witness_c(hv:BkV ro v b)(hb:b.small)(k:Int):CallP prog J (fnv 110) [v, .int .i64 k] ro (.int .i64 (b.witness k)):=by
 obtain⟨vc,vw,rfl,hc,hw⟩:=hv
 obtain⟨h1,h2,h3,h4,h5,h6⟩:=hb
 obtain⟨b1,c1,rfl⟩:=hw.form
 refine CallP.intro hJ Kr fun c cs tail hret=>enter_X (n:=13) func110 U U (Nl U) ?_
 have C:Ctx prog main J (bf 110 .normal):=⟨hJ,by decide⟩
 refine Xr C U U<|R.box C U U U U fun p2=>Ad C U U<|Xr C U U<|Rm C U U<|Rf C 0 U U runUnderlying105 U sizeOf25<|Rf C 4 U U runUnderlying25 U sizeOf23<|Rl C U U isAgg23 V U<|Rn C U U runUnderlying23<|R.int C U U U U (b_sub O O)<|R.callP C U U U U (between_c hJ _ _ _ _)<|R.callP C U U U U (there_c hJ _ _)<|Ad C U U<|Xt C func110<|Hp hret ?_
 simp_all [Bk.witness,retVal]
def Bk.chart(b:Bk):Int:=if !between b.w 2 7|| !between b.h 2 7|| !between b.f 0 2 then 1 else 0
theorem chart_c(hv:BkV ro v b):CallP prog J (fnv 346) [v] ro (.int .i64 b.chart):=by
 obtain⟨vc,vw,rfl,hc,hw⟩:=hv
 refine CallP.intro hJ Kr fun c cs tail hret=>enter_X (n:=22) func346 U U (Nl U) ?_
 have C:Ctx prog main J (bf 346 .normal):=⟨hJ,by decide⟩
 refine Xr C U U<|R.box C U U U U fun p1=>Ad C U U<|Xs C<|Xr C U U<|Rf C 0 U U runUnderlying105 U sizeOf25<|Rf C 0 U U runUnderlying25 U sizeOf3<|Rl C U U isAgg3 V U<|R.callP C U U U U (between_c hJ _ _ _ _)<|R.not C U U U<|Rm C U U<|R.fix (t:=8) U (fun q1=>?_) (fun q1=>?_)
 ·refine R.pass C U U<|R.pass C U U<|R.pass C U U<|R.pass C U U<|R.pass C U U<|R.pickT C U U U U<|Rm C U U<|R.pass C U U<|R.pass C U U<|R.pass C U U<|R.pass C U U<|R.pass C U U<|R.pickT C U U U U<|R.done C<|X.cond C.1 U (fun _=>?_) (fun h=>nomatch h)
  refine Xr C U U<|Ad C U U<|Xt C func346<|Hp hret ?_
  simp_all [Bk.chart,retVal]
 ·refine Rf C 0 U U runUnderlying105 U sizeOf25<|Rf C 1 U U runUnderlying25 U sizeOf3<|Rl C U U isAgg3 V U<|R.callP C U U U U (between_c hJ _ _ _ _)<|R.not C U U U<|R.pickF C U U U U<|Rm C U U<|R.fix (t:=15) U (fun q2=>?_) (fun q2=>?_)
  ·refine R.pass C U U<|R.pass C U U<|R.pass C U U<|R.pass C U U<|R.pass C U U<|R.pickT C U U U U<|R.done C<|X.cond C.1 U (fun _=>?_) (fun h=>nomatch h)
   refine Xr C U U<|Ad C U U<|Xt C func346<|Hp hret ?_
   simp_all [Bk.chart,retVal]
  ·refine Rf C 0 U U runUnderlying105 U sizeOf25<|Rf C 2 U U runUnderlying25 U sizeOf3<|Rl C U U isAgg3 V U<|R.callP C U U U U (between_c hJ _ _ _ _)<|R.not C U U U<|R.pickF C U U U U<|R.done C<|X.cond C.1 U (fun q3=>?_) (fun q3=>?_)
   ·refine Xr C U U<|Ad C U U<|Xt C func346<|Hp hret ?_
    simp_all [Bk.chart,retVal]
   ·refine X.skip C.1<|Xr C U U<|Ad C U U<|Xt C func346<|Hp hret ?_
    simp_all [Bk.chart,retVal]
def right(w:Wt)(a:Aim):Bool:=decide (w.s=a.s)||((bearing w.s a.s+a.off w.k+8)%8==w.b)
theorem right_c{b:Bk}{v:Value}{ro:RO}(_hv:BkV ro v b)(w:Wt)(a:Aim)(hw:w.s.ok)(ha:a.s.ok)(h0:0≤w.k)(h1:w.k<3)(ho: -3≤a.off w.k∧a.off w.k≤3):CallP prog J (fnv 182) [v,w.val,a.val] ro (.bool (right w a)):=by
 obtain⟨vc,vw,rfl,_,_⟩:=_hv
 have hr:=bearing_range w.s a.s
 refine CallP.intro hJ Kr fun c cs tail hret=>enter_X (n:=30) func182 U U (Nl U) ?_
 have C:Ctx prog main J (bf 182 .normal):=⟨hJ,by decide⟩
 refine Xr C U U<|R.box C U U U U fun p3=>R.box C U U U U fun p4=>R.box C U U U U fun p5=>Ad C U U<|Xs C<|Xd C fun hok=>Df (off':=0) C 0 hok U U U runUnderlying58 U sizeOf27 U<|D5 C 1 hok U U isAgg27 sizeOf27 V Tk2<|Df (off':=0) C 2 hok U U U runUnderlying109 U sizeOf27 U<|D5 C 3 hok U U isAgg27 sizeOf27 V Tk2<|Dp 4 hok (fun _ _ _ A h=>R.eqAgg (p:= [w.s.e,w.s.n]) (q:= [a.s.e,a.s.n]) C U (A.w U U) (A.x U U) (A.x U U) eqT27 U U Kr h)<|Dm C 5 hok U U U<|D.fix (t:=12) U (fun q1=>?_) (fun q1=>?_)
 ·refine Du C 6 hok U<|Du C 7 hok U<|Du C 8 hok U<|Du C 9 hok U<|Du C 10 hok U<|Du C 11 hok U<|Du C 12 hok U<|Du C 13 hok U<|Du C 14 hok U<|Du C 15 hok U<|Du C 16 hok U<|Du C 17 hok U<|Du C 18 hok U<|Du C 19 hok U<|Du C 20 hok U<|Du C 21 hok U<|Dp 22 hok (fun _ _ _ A h=>R.pickT C U (A.w U U) (A.x U U) (A.x U U) h)<|Da C 23 hok U U<|D.done C hok Kr<|Xt C func182<|Hp hret ?_
  (obtain⟨⟨ae,an⟩,ax,ay,az⟩:=a;obtain⟨⟨we,wn⟩,wb,wk,wsu⟩:=w;simp_all [right,retVal])
 ·refine Df (off':=0) C 6 hok U U U runUnderlying58 U sizeOf27 U<|D5 C 7 hok U U isAgg27 sizeOf27 V Tk2<|Df (off':=0) C 8 hok U U U runUnderlying109 U sizeOf27 U<|D5 C 9 hok U U isAgg27 sizeOf27 V Tk2<|Df (off':=3) C 11 hok U U U runUnderlying58 U sizeOf3 U<|D1 C 12 hok U U isAgg3 V U<|Df (off':=2) C 13 hok U U U runUnderlying109 U sizeOf107 U<|Dp 14 hok (fun _ _ _ A h=>R.indexAddrA C U (A.w U U) (A.x U U) (A.x U U) runUnderlying107 sizeOf3 h0 h1 h)<|D1 C 15 hok U U isAgg3 V (Aim.get a h0 h1)<|Df (off':=2) C 19 hok U U U runUnderlying58 U sizeOf3 U<|D1 C 20 hok U U isAgg3 V U<|De 10 (some 17) [true,true,true,false,false,false,false] hok (fun _ _ A hk=>?_)
  refine R.callP C U (A.w U U) (A.x U U) (A.s U U) (bearing_c hJ _ _ hw ha _) (hk _ _ ⟨(QFs.cons (QF.of U (fun _ _ A h=>R.loadOne C U (A.w U U) (A.x U U) isAgg3 V U h)) (QFs.cons (QF.of U (fun _ _ A h=>R.loadOne C U (A.w U U) (A.x U U) isAgg3 V (Aim.get a h0 h1) h)) (QFs.cons (QF.of U (fun _ _ A h=>R.loadOne C U (A.w U U) (A.x U U) isAgg3 V U h)) QFs.nil))), ?_⟩)
  refine Di C 16 hok U U U U U (b_add O O)<|Di C 17 hok U U U U U (b_add O O)<|Di C 18 hok U U U U U (b_remP O O)<|Di C 21 hok U U U U U b_eql<|Dp 22 hok (fun _ _ _ A h=>R.pickF C U (A.w U U) (A.x U U) (A.x U U) h)<|Da C 23 hok U U<|D.done C hok Kr<|Xt C func182<|Hp hret ?_
  (obtain⟨⟨ae,an⟩,ax,ay,az⟩:=a;obtain⟨⟨we,wn⟩,wb,wk,wsu⟩:=w;simp_all [right,retVal])
def everybody(b:Bk):Nat:=2^b.ws.length-1
theorem everybody_c(hv:BkV ro v b)(h5:b.ws.length≤20):CallP prog J (fnv 127) [v] ro (.int .i64 (everybody b:Int)):=by
 obtain⟨vc,vw,rfl,hc,hw⟩:=hv
 obtain⟨b1,c1,rfl⟩:=hw.form
 have h2:2^b.ws.length≤2^20:=Nat.pow_le_pow_right O h5
 have h3:0<2^b.ws.length:=Nat.pow_pos O
 refine CallP.intro hJ Kr fun c cs tail hret=>enter_X (n:=9) func127 U U (Nl U) ?_
 have C:Ctx prog main J (bf 127 .normal):=⟨hJ,by decide⟩
 refine Xr C U U<|R.box C U U U U fun p1=>Ad C U U<|Xr C U U<|Rf C 0 U U runUnderlying105 U sizeOf25<|Rf C 4 U U runUnderlying25 U sizeOf23<|Rl C U U isAgg23 V U<|Rn C U U runUnderlying23<|R.shift C U U U U (b_shlN O O)<|R.int C U U U U (b_sub (by simp only [Int.toNat_natCast];omega) (by simp only [Int.toNat_natCast];omega))<|Ad C U U<|Xt C func127<|Hp hret ?_
 (simp only [retVal,everybody,Int.toNat_natCast];congr 1;omega)
theorem nothing_c(b:Bk)(hv:BkV ro v b):CallP prog J (fnv 94) [v] ro (.int .i64 0):=by
 obtain⟨vc,vw,rfl,hc,hw⟩:=hv
 refine CallP.intro hJ Kr fun c cs tail hret=>enter_X (n:=3) func94 U U (Nl U) ?_
 have C:Ctx prog main J (bf 94 .normal):=⟨hJ,by decide⟩
 refine Xr C U U<|R.box C U U U U fun p1=>Ad C U U<|Xr C U U<|Ad C U U<|Xt C func94<|Hp hret ?_
 rfl
end Go.Lg.B
namespace Go.Lg.B
open Go Go.Conc Go.Lg Go.Proofs Go.Proofs.Tryz
variable {n:Nat}{b:Bk}{v:Value}{ro:RO}
def maskOf(p:Nat→Bool):Nat→Nat
 |0=>0
 |n+1=>if p n then maskOf p n|||2^n else maskOf p n
theorem maskOf_lt(p:Nat→Bool):∀n,maskOf p n<2^n
 |0=>by simp [maskOf]
 |n+1=>by
  have:=maskOf_lt p n
  have h2:2^n<2^ (n+1):=Nat.pow_lt_pow_right O O
  simp only [maskOf]
  split
  ·exact Nat.or_lt_two_pow O h2
  ·omega
theorem pow62(h:n≤62):2^n<2^63:=Nat.pow_lt_pow_right O O
theorem maskOf_lt63(p:Nat→Bool)(h:n≤62):maskOf p n<2^63:=Nat.lt_trans (maskOf_lt p n) (pow62 h)
instance : Inhabited Sq := ⟨⟨0, 0⟩⟩
instance : Inhabited Wt := ⟨⟨default, 0, 0, false⟩⟩
instance : Inhabited Rc := ⟨⟨0, 0⟩⟩
def Wt.fine(w:Wt)(n:Nat):Bool:=isPlace w.s && between w.b 0 7 && (decide (0≤w.k) && decide (w.k<n))
def Rc.fine(x:Rc):Bool:=isReach x (-3) 3 && decide (x.hi-x.lo<3)
structure Bk.good(b:Bk):Prop where
 w:2≤b.w∧b.w≤7
 h:2≤b.h∧b.h≤7
 f:0≤b.f∧b.f≤2
 nc:1≤b.cs.length∧b.cs.length≤3
 cs:∀x∈b.cs,x.fine=true
 nw:b.ws.length≤5
 ws:∀x∈b.ws,x.fine b.cs.length=true
theorem Bk.good.small(h:b.good):b.small:=by
 obtain⟨h1,h2,h3,h4,_,h5,_⟩:=h
 unfold Bk.small;omega
structure Aim.good(a:Aim):Prop where
 s:a.s.ok
 o:∀k, -3≤a.off k∧a.off k≤3
theorem Wt.fine.ok{w:Wt}(h:w.fine n=true):w.s.ok∧(0≤w.b∧w.b≤7)∧0≤w.k∧w.k<n:=by
 simp only [Wt.fine,Bool.and_eq_true,between,decide_eq_true_eq] at h
 exact⟨isPlace_ok h.1.1,h.1.2,h.2⟩
def Bk.wt(b:Bk)(i:Nat):Wt:=b.ws.getD i default
theorem Bk.wt_get{i:Nat}(h:i<b.ws.length):b.ws[i]=b.wt i:=by simp [Bk.wt,h]
def odd(b:Bk)(a:Aim):Nat:=maskOf (fun i=> !right (b.wt i) a) b.ws.length
def sureM(b:Bk):Nat:=maskOf (fun i=>(b.wt i).sure) b.ws.length
def bitsUpto(m:Nat):Nat→List Int
 |0=> []
 |n+1=>if m.testBit n then bitsUpto m n++ [(n:Int)] else bitsUpto m n
def listOf(m:Nat):List Int:=bitsUpto m 5
theorem bitsUpto_len(m:Nat):∀n,(bitsUpto m n).length≤n
 |0=>by simp [bitsUpto]
 |n+1=>by
  have:=bitsUpto_len m n
  simp only [bitsUpto];split<;>simp<;>omega
def ic(n:Int):List Value:= [.int .i64 n]
theorem ic_len(n:Int):(ic n).length=1:=rfl
abbrev LsI(ro:RO)(v:Value)(xs:List Int):Prop:=Ls ic 1 ro v xs
theorem flat_len(l:List Int):(l.flatMap ic).length=l.length:=by simp [flatMap_len ic_len]
variable {main:Bool}{J:Goroutine→Mem→Prop}(hJ:Closed prog main J)
include hJ
theorem odd_c(hv:BkV ro v b)(hb:b.good)(a:Aim)(ha:a.good):CallP prog J (fnv 153) [v,a.val] ro (.int .i64 (odd b a:Int)):=by
 have hvv:=hv
 obtain⟨vc,vw,rfl,hc,hw⟩:=hv
 obtain⟨b1,c1,rfl⟩:=hw.form
 have hn:=hb.nw
 refine CallP.intro hJ Kr fun c cs tail hret=>enter_X (n:=28) func153 U U (Nl U) ?_
 have C:Ctx prog main J (bf 153 .normal):=⟨hJ,by decide⟩
 refine Xr C U U<|R.box C U U U U fun p2=>R.box C U U U U fun p3=>Ad C U U<|Xr C U U<|Ad C U U<|Xs C<|Xr C U U<|Rf C 0 U U runUnderlying105 U sizeOf25<|Rf C 4 U U runUnderlying25 U sizeOf23<|Rl C U U isAgg23 V U<|Rn C U U runUnderlying23<|Rm C U U<|R.done C<|X.block C.1<|X.loopI (ι:=Nat) C.1 (fun i=>i≤b.ws.length) (fun i=> [(5, .int .i64 (maskOf (fun i=> !right (b.wt i) a) i:Int)),(10, .slice b1 b.ws.length c1),(11, .int .i64 (b.ws.length:Int)),(12, .int .i64 (i:Int)),(3, .pointer (some ⟨p3,0,none⟩)),(2, .pointer (some ⟨p2,0,none⟩))])
  (fun _=>⟨ro,(p3, .cells a.cells.toArray 109 (0,0))::(p2, .cells [.int .i64 b.w, .int .i64 b.h, .int .i64 b.f,vc, .slice b1 b.ws.length c1].toArray 105 (0,0))::tail⟩) (fun i=>b.ws.length-i) 0 (Nat.zero_le _) rfl ⟨U,U,U,U,U,U,trivial⟩ fun i hi hnext=>?_
 refine Xr C U U<|R.int C U U U U b_lss<|R.done C<|Xs C<|Xk C U (fun hlt=>?_) (fun hlt=>?_)
 ·have hi':i<b.ws.length:=O
  obtain⟨p,off,cap,l,t,fq,hsl,hrop,hsub⟩:=hw.at Wt.len O
  cases hsl
  have hok:=Wt.fine.ok (hb.ws _ (List.getElem_mem hi'))
  have hk3:(b.ws[i]).k<3:=by have:=hb.nc;omega
  refine X.skip C.1<|Xs C<|X.block C.1<|Xr C U U<|Rm C U U<|Rx C U U U runUnderlying23 sizeOf58<|R.loadAggRo C U U U isAgg58 sizeOf58 hrop (hsub i hi')<|R.alloc C U U zeroValue58 U fun p7=>R.asg C U U U<|R.store C U U U U sizeOf58 U U U V Ph5<|R.done C<|Xr C U U<|R5 C U U isAgg105 sizeOf105 V Tk5<|R5 C U U isAgg58 sizeOf58 V Tk5<|R5 C U U isAgg109 sizeOf109 V Tk5<|R.callP C U U U U (right_c hJ hvv _ a hok.1 ha.s hok.2.2.1 hk3 (ha.o _))<|R.not C U U U<|R.done C<|X.cond C.1 U (fun hr=>?_) (fun hr=>?_)
  ·refine X.region C U U<|Rm C U U<|Rm C U U<|R.shift C U U U U (b_shlN O O)<|R.int C U U U U (b_or (maskOf_lt63 _ O) (pow62 O))<|Ad C U U<|X.inBlock C.1<|X.region C U U<|Ra C U U U<|Rm C U U<|R.done C<|X.weak C.1 (Weak.sub (List.sublist_cons_self _ _)) (X.weaken ?_ (hnext (i+1) O O))
   rw [Bk.wt_get hi'] at hr
   exact⟨by simp [look,maskOf,hr,putS],rfl,rfl,by simp [look],rfl,rfl,trivial⟩
  ·refine X.skip C.1<|X.inBlock C.1<|X.region C U U<|Ra C U U U<|Rm C U U<|R.done C<|X.weak C.1 (Weak.sub (List.sublist_cons_self _ _)) (X.weaken ?_ (hnext (i+1) O O))
   rw [Bk.wt_get hi'] at hr
   exact⟨by simp [look,maskOf,hr,putS],rfl,rfl,by simp [look],rfl,rfl,trivial⟩
 ·obtain rfl:i=b.ws.length:=by omega
  refine X.exit C.1 U<|Xr C U U<|Rm C U U<|Ad C U U<|Xt C func153<|Hp hret ?_
  rfl
theorem sure_c(hv:BkV ro v b)(hn:b.ws.length≤5):CallP prog J (fnv 151) [v] ro (.int .i64 (sureM b:Int)):=by
 obtain⟨vc,vw,rfl,hc,hw⟩:=hv
 obtain⟨b1,c1,rfl⟩:=hw.form
 refine CallP.intro hJ Kr fun c cs tail hret=>enter_X (n:=23) func151 U U (Nl U) ?_
 have C:Ctx prog main J (bf 151 .normal):=⟨hJ,by decide⟩
 refine Xr C U U<|R.box C U U U U fun p1=>Ad C U U<|Xr C U U<|Ad C U U<|Xs C<|Xr C U U<|Rf C 0 U U runUnderlying105 U sizeOf25<|Rf C 4 U U runUnderlying25 U sizeOf23<|Rl C U U isAgg23 V U<|Rn C U U runUnderlying23<|Rm C U U<|R.done C<|X.block C.1<|X.loopI (ι:=Nat) C.1 (fun i=>i≤b.ws.length) (fun i=> [(3, .int .i64 (maskOf (fun i=>(b.wt i).sure) i:Int)),(8, .slice b1 b.ws.length c1),(9, .int .i64 (b.ws.length:Int)),(10, .int .i64 (i:Int)),(1, .pointer (some ⟨p1,0,none⟩))])
  (fun _=>⟨ro,(p1, .cells [.int .i64 b.w, .int .i64 b.h, .int .i64 b.f,vc, .slice b1 b.ws.length c1].toArray 105 (0,0))::tail⟩) (fun i=>b.ws.length-i) 0 (Nat.zero_le _) rfl ⟨U,U,U,U,U,trivial⟩ fun i hi hnext=>?_
 refine Xr C U U<|R.int C U U U U b_lss<|R.done C<|Xs C<|Xk C U (fun hlt=>?_) (fun hlt=>?_)
 ·have hi':i<b.ws.length:=O
  obtain⟨p,off,cap,l,t,fq,hsl,hrop,hsub⟩:=hw.at Wt.len O
  cases hsl
  refine X.skip C.1<|Xs C<|X.block C.1<|Xr C U U<|Rm C U U<|Rx C U U U runUnderlying23 sizeOf58<|R.loadAggRo C U U U isAgg58 sizeOf58 hrop (hsub i hi')<|R.alloc C U U zeroValue58 U fun p5=>R.asg C U U U<|R.store C U U U U sizeOf58 U U U V Ph5<|R.done C<|Xr C U U<|Rf C 4 U U runUnderlying58 U sizeOf4<|Rl C U U isAgg4 V U<|R.done C<|X.cond C.1 U (fun hr=>?_) (fun hr=>?_)
  ·refine X.region C U U<|Rm C U U<|Rm C U U<|R.shift C U U U U (b_shlN O O)<|R.int C U U U U (b_or (maskOf_lt63 _ O) (pow62 O))<|Ad C U U<|X.inBlock C.1<|X.region C U U<|Ra C U U U<|Rm C U U<|R.done C<|X.weak C.1 (Weak.sub (List.sublist_cons_self _ _)) (X.weaken ?_ (hnext (i+1) O O))
   rw [Bk.wt_get hi'] at hr
   exact⟨by simp [look,maskOf,hr,putS],rfl,rfl,by simp [look],rfl,trivial⟩
  ·refine X.skip C.1<|X.inBlock C.1<|X.region C U U<|Ra C U U U<|Rm C U U<|R.done C<|X.weak C.1 (Weak.sub (List.sublist_cons_self _ _)) (X.weaken ?_ (hnext (i+1) O O))
   rw [Bk.wt_get hi'] at hr
   exact⟨by simp [look,maskOf,hr,putS],rfl,rfl,by simp [look],rfl,trivial⟩
 ·obtain rfl:i=b.ws.length:=by omega
  refine X.exit C.1 U<|Xr C U U<|Rm C U U<|Ad C U U<|Xt C func151<|Hp hret ?_
  rfl
theorem list_c{m:Nat}(hm:m<2^63):CallR prog J (fnv 154) [.int .i64 (m:Int)] ro (fun v ro'=>LsI ro' v (listOf m)):=by
 refine CallR.intro hJ Kr fun c cs tail hret=>enter_X (n:=19) func154 U U (Nl U) ?_
 have C:Ctx prog main J (bf 154 .normal):=⟨hJ,by decide⟩
 refine Xr C U U<|Ad C U U<|Xr C U U<|Ad C U U<|Xs C<|Xr C U U<|Rm C U U<|R.done C<|X.block C.1<|X.loopI (ι:=Nat×Value×List (Nat×Obj)) C.1 (fun s=>s.1≤5∧Buf 3 1 tail s.2.1 ((bitsUpto m s.1).flatMap ic) s.2.2) (fun s=> [(0, .int .i64 (m:Int)),(3,s.2.1),(5, .int .i64 (s.1:Int))])
  (fun s=>⟨ro,s.2.2⟩) (fun s=>5-s.1) (0, .slice none 0 0,tail) ⟨by simp, .nil⟩ rfl ⟨U,U,U,trivial⟩ fun s hs hnext=>?_
 obtain⟨i,v0,own0⟩:=s
 obtain⟨hi,hb⟩:=hs
 simp only at hi hb hnext⊢
 refine Xr C U U<|R.int C U U U U b_lss<|R.done C<|Xs C<|Xk C U (fun hlt=>?_) (fun hlt=>?_)
 ·have hi':i<5:=O
  refine X.skip C.1<|Xs C<|X.block C.1<|Xr C U U<|Rm C U U<|Ad C U U<|Xr C U U<|Rm C U U<|Rm C U U<|R.shift C U U U U (b_shrN O O)<|R.int C U U U U (b_and1 (Nat.lt_of_le_of_lt (Nat.shiftRight_le _ _) hm))<|R.int C U U U U b_eql<|R.done C<|X.cond C.1 U (fun hr=>?_) (fun hr=>?_)
  ·have hbl:=bitsUpto_len m i
   have hfl:=flat_len (bitsUpto m i)
   refine X.region C U U<|Rm C U U<|Rm C U U<|R.buildSlice C (vs:=_) U U (show pvals _ _=some (numbered 0 [_]) from rfl) U runUnderlying28 sizeOf3 zeroValue3 Dd (Cat.one U U) fun p15=>R.append1 (kk:=1) C U U U U runUnderlying28 runUnderlying28 (fun _=>nofun) (show prog.info? 3=some Tryz.t3 by kernel_rfl) U U U Dd Dd hb U U (by simp only [List.length_append,List.length_cons,List.length_nil];omega) fun v' own' hb'=>Ad C U U<|X.inBlock C.1<|X.region C U U<|Ra C U U U<|Rm C U U<|R.done C ?_
   rw [Int.toNat_natCast,bit_one] at hr
   refine X.weaken (σ':= [(0, .int .i64 (m:Int)),(3,v'),(5, .int .i64 ((i+1:Nat):Int))]) ⟨rfl,rfl,by simp [look],trivial⟩ (hnext (i+1,v',own') ⟨hi', ?_⟩ Zo)
   simpa [bitsUpto,hr,ic] using hb'
  ·refine X.skip C.1<|X.inBlock C.1<|X.region C U U<|Ra C U U U<|Rm C U U<|R.done C ?_
   rw [Int.toNat_natCast,bit_one] at hr
   refine X.weaken (σ':= [(0, .int .i64 (m:Int)),(3,v0),(5, .int .i64 ((i+1:Nat):Int))]) ⟨rfl,rfl,by simp [look],trivial⟩ (hnext (i+1,v0,own0) ⟨hi', ?_⟩ Zo)
   simpa [bitsUpto,hr] using hb
 ·obtain rfl:i=5:=by omega
  refine X.exit C.1 U<|Xr C U U<|Rm C U U<|Ad C U U<|X.finish C.1 ic_len Dd hb fun ro' hl hls=>Xt C func154<|Hr hret hl ?_
  exact hls
end Go.Lg.B
namespace Go.Lg.B
open Go Go.Conc Go.Lg Go.Proofs Go.Proofs.Tryz
variable {b:Bk}{ro:RO}{v:Value}
def csH:List Rc→Int
 | []=>0
 |x::l=>if !x.fine then 1 else csH l
def Bk.compassesH(b:Bk):Int:=if !between b.cs.length 1 3 then 2 else csH b.cs
def wtsH(n:Nat):List Wt→Int
 | []=>0
 |w::l=>if !isPlace w.s|| !between w.b 0 7 then 1 else if there (between w.k 0 (n-1))≠0 then 6 else wtsH n l
def Bk.witnessesH(b:Bk):Int:=if b.ws.length>5 then 2 else wtsH b.cs.length b.ws
def checkChart(b:Bk):Int:=if b.chart≠0 then b.chart else if b.compassesH≠0 then b.compassesH else b.witnessesH
def Bk.short(b:Bk):Prop:=b.cs.length≤1000∧b.ws.length≤1000
theorem csH_zero:∀ {l:List Rc},csH l=0↔ ∀x∈l,x.fine=true
 | []=>by simp [csH]
 |x::l=>by
  have:=csH_zero (l:=l)
  simp only [csH]
  cases h:x.fine<;>simp [h,this]
theorem wtsH_zero{n:Nat}:∀ {l:List Wt},wtsH n l=0↔ ∀x∈l,x.fine n=true
 | []=>by simp [wtsH]
 |x::l=>by
  have ih:=wtsH_zero (n:=n) (l:=l)
  simp only [wtsH]
  have hk:(there (between x.k 0 (n-1))≠0)↔ ¬((decide (0≤x.k) && decide (x.k<n))=true):=by
   simp only [there,between]
   by_cases h1:0≤x.k<;>by_cases h2:x.k<n<;>simp [h1,h2]<;>omega
  by_cases h1:isPlace x.s=true<;>by_cases h2:between x.b 0 7=true<;>by_cases h3:(decide (0≤x.k) && decide (x.k<n))=true<;>simp [h1,h2,hk,h3,ih,Wt.fine]<;>simp_all<;>(intro a1 a2;omega)
theorem chart_zero:b.chart=0↔(2≤b.w∧b.w≤7)∧(2≤b.h∧b.h≤7)∧(0≤b.f∧b.f≤2):=by
 simp only [Bk.chart,between,Bool.or_eq_true,Bool.not_eq_true',Bool.and_eq_false_iff,decide_eq_false_iff_not]
 constructor
 ·intro h
  split at h
  ·cases h
  ·omega
 ·intro h
  rw [if_neg O]
theorem good_iff:checkChart b=0↔b.good:=by
 have hc:=chart_zero (b:=b)
 have h2:b.compassesH=0↔(1≤b.cs.length∧b.cs.length≤3)∧∀x∈b.cs,x.fine=true:=by
  rw [←csH_zero]
  simp only [Bk.compassesH,between]
  by_cases h:(1≤b.cs.length∧b.cs.length≤3)
  ·have:(decide ((1:Int)≤b.cs.length) && decide ((b.cs.length:Int)≤3))=true:=by simp;omega
   simp [this,h]
  ·have:(decide ((1:Int)≤b.cs.length) && decide ((b.cs.length:Int)≤3))=false:=by simp;omega
   simp [this,h]
 have h3:b.witnessesH=0↔b.ws.length≤5∧∀x∈b.ws,x.fine b.cs.length=true:=by
  rw [←wtsH_zero]
  simp only [Bk.witnessesH]
  split
  ·simp;omega
  ·simp;omega
 unfold checkChart
 constructor
 ·intro h
  split at h
  ·contradiction
  ·split at h
   ·contradiction
   ·rename_i e1 e2
    simp only [ne_eq,Decidable.not_not] at e1 e2
    obtain⟨a1,a2,a3⟩:=hc.1 e1
    obtain⟨b1,b2⟩:=h2.1 e2
    obtain⟨c1,c2⟩:=h3.1 h
    exact⟨a1,a2,a3,b1,b2,c1,c2⟩
 ·rintro⟨a1,a2,a3,b1,b2,c1,c2⟩
  rw [if_neg (by simpa using hc.2 ⟨a1,a2,a3⟩),if_neg (by simpa using h2.2 ⟨b1,b2⟩),h3.2 ⟨c1,c2⟩]
def Env(ro:RO):Prop:= ∃t fq,ro 0=some (.cells [fnv 346,fnv 347,fnv 348].toArray t fq)
theorem Env.mono{ro':RO}(h:Env ro)(hl:ro.le ro'):Env ro':=let⟨t,fq,e⟩:=h;⟨t,fq,hl _ _ e⟩
theorem isReach_bd{x:Rc}(h:isReach x (-3) 3=true): -3≤x.lo∧x.lo≤x.hi∧x.hi≤3:=by
 simpa [isReach,and_assoc] using h
variable {main:Bool}{J:Goroutine→Mem→Prop}(hJ:Closed prog main J)
include hJ
theorem compasses_c(hv:BkV ro v b)(hs:b.short):CallP prog J (fnv 347) [v] ro (.int .i64 b.compassesH):=by
 obtain⟨vc,vw,rfl,hc,hw⟩:=hv
 obtain⟨b1,c1,rfl⟩:=hc.form
 obtain⟨hs1,hs2⟩:=hs
 refine CallP.intro hJ Kr fun c cs tail hret=>enter_X (n:=31) func347 U U (Nl U) ?_
 have C:Ctx prog main J (bf 347 .normal):=⟨hJ,by decide⟩
 refine Xr C U U<|R.box C U U U U fun p1=>Ad C U U<|Xs C<|Xr C U U<|Rf C 0 U U runUnderlying105 U sizeOf25<|Rf C 3 U U runUnderlying25 U sizeOf22<|Rl C U U isAgg22 V U<|Rn C U U runUnderlying22<|R.callP C U U U U (between_c hJ _ _ _ _)<|R.not C U U U<|R.done C<|X.cond C.1 U (fun hn=>?_) (fun hn=>?_)
 ·refine Xr C U U<|Ad C U U<|Xt C func347<|Hp hret ?_
  simp_all [Bk.compassesH,retVal]
 ·refine X.skip C.1<|Xs C<|Xr C U U<|Rf C 0 U U runUnderlying105 U sizeOf25<|Rf C 3 U U runUnderlying25 U sizeOf22<|Rl C U U isAgg22 V U<|Rn C U U runUnderlying22<|Rm C U U<|R.done C<|X.block C.1<|X.loopI (ι:=Nat) C.1 (fun i=>i≤b.cs.length∧csH (b.cs.drop i)=csH b.cs) (fun i=> [(13, .slice b1 b.cs.length c1),(14, .int .i64 (b.cs.length:Int)),(15, .int .i64 (i:Int)),(1, .pointer (some ⟨p1,0,none⟩))])
   (fun _=>⟨ro,(p1, .cells [.int .i64 b.w, .int .i64 b.h, .int .i64 b.f, .slice b1 b.cs.length c1,vw].toArray 105 (0,0))::tail⟩) (fun i=>b.cs.length-i) 0 ⟨Nat.zero_le _,rfl⟩ rfl ⟨U,U,U,U,trivial⟩ fun i hi hnext=>?_
  obtain⟨hi,hr⟩:=hi
  refine Xr C U U<|R.int C U U U U b_lss<|R.done C<|Xs C<|Xk C U (fun hlt=>?_) (fun hlt=>?_)
  ·have hi':i<b.cs.length:=O
   obtain⟨p,off,cap,l,t,fq,hsl,hrop,hsub⟩:=hc.at Rc.len O
   cases hsl
   rw [List.drop_eq_getElem_cons hi'] at hr
   simp only [csH] at hr
   refine X.skip C.1<|Xs C<|X.block C.1<|Xr C U U<|Rx C U U U runUnderlying22 sizeOf46<|R.loadAggRo C U U U isAgg46 sizeOf46 hrop (hsub i hi')<|R.alloc C U U zeroValue46 U fun p4=>R.store C U U U U sizeOf46 U U U V Ph2<|R.done C<|Xr C U U<|R5 C U U isAgg46 sizeOf46 V Tk2<|R.callP C U U U U (isReach_c hJ _ _ _ _)<|R.not C U U U<|Rm C U U<|R.fix (t:=22) U (fun hg=>?_) (fun hg=>?_)
   ·refine R.pass C U U<|R.pass C U U<|R.pass C U U<|R.pass C U U<|R.pass C U U<|R.pass C U U<|R.pickT C U U U U<|R.done C<|X.cond C.1 U (fun _=>?_) (fun h=>nomatch h)
    refine Xr C U U<|Ad C U U<|Xt C func347<|Hp hret ?_
    have hf:(b.cs[i]).fine=false:=by simp at hg;simp [Rc.fine,hg]
    simp [hf] at hr
    simp_all [Bk.compassesH,retVal]
   ·have hbd:=isReach_bd (x:=b.cs[i]) (by simpa using hg)
    refine Rf C 1 U U runUnderlying46 U sizeOf3<|Rl C U U isAgg3 V U<|Rf C 0 U U runUnderlying46 U sizeOf3<|Rl C U U isAgg3 V U<|R.int C U U U U (b_sub O O)<|R.int C U U U U b_geq<|R.pickF C U U U U<|R.done C<|X.cond C.1 U (fun hd=>?_) (fun hd=>?_)
    ·refine Xr C U U<|Ad C U U<|Xt C func347<|Hp hret ?_
     have hf:(b.cs[i]).fine=false:=by simp at hd;simp [Rc.fine];intro _;omega
     simp [hf] at hr
     simp_all [Bk.compassesH,retVal]
    ·refine X.skip C.1<|X.inBlock C.1<|X.region C U U<|Ra C U U U<|Rm C U U<|R.done C ?_
     have hf:(b.cs[i]).fine=true:=by simp at hd hg;simp [Rc.fine,hg];omega
     simp [hf] at hr
     refine X.weak C.1 (Weak.sub (List.sublist_cons_self _ _)) (X.weaken ?_ (hnext (i+1) ⟨O,hr⟩ O))
     exact⟨rfl,rfl,by simp [look],rfl,trivial⟩
  ·obtain rfl:i=b.cs.length:=by omega
   simp [csH] at hr
   refine X.exit C.1 U<|Xr C U U<|Ad C U U<|Xt C func347<|Hp hret ?_
   simp_all [Bk.compassesH,retVal]
theorem witnesses_c(hv:BkV ro v b)(hs:b.small):CallP prog J (fnv 348) [v] ro (.int .i64 b.witnessesH):=by
 have hvv:=hv
 obtain⟨vc,vw,rfl,hc,hw⟩:=hv
 obtain⟨b1,c1,rfl⟩:=hw.form
 have hs0:=hs
 obtain⟨_,_,_,_,hs1,hs2⟩:=hs
 refine CallP.intro hJ Kr fun c cs tail hret=>enter_X (n:=36) func348 U U (Nl U) ?_
 have C:Ctx prog main J (bf 348 .normal):=⟨hJ,by decide⟩
 refine Xr C U U<|R.box C U U U U fun p1=>Ad C U U<|Xs C<|Xr C U U<|Rf C 0 U U runUnderlying105 U sizeOf25<|Rf C 4 U U runUnderlying25 U sizeOf23<|Rl C U U isAgg23 V U<|Rn C U U runUnderlying23<|R.int C U U U U b_gtr<|R.done C<|X.cond C.1 U (fun hn=>?_) (fun hn=>?_)
 ·refine Xr C U U<|Ad C U U<|Xt C func348<|Hp hret ?_
  simp at hn
  simp [Bk.witnessesH,retVal];omega
 ·simp at hn
  refine X.skip C.1<|Xs C<|Xr C U U<|Rf C 0 U U runUnderlying105 U sizeOf25<|Rf C 4 U U runUnderlying25 U sizeOf23<|Rl C U U isAgg23 V U<|Rn C U U runUnderlying23<|Rm C U U<|R.done C<|X.block C.1<|X.loopI (ι:=Nat) C.1 (fun i=>i≤b.ws.length∧wtsH b.cs.length (b.ws.drop i)=wtsH b.cs.length b.ws) (fun i=> [(12, .slice b1 b.ws.length c1),(13, .int .i64 (b.ws.length:Int)),(14, .int .i64 (i:Int)),(1, .pointer (some ⟨p1,0,none⟩))])
   (fun _=>⟨ro,(p1, .cells [.int .i64 b.w, .int .i64 b.h, .int .i64 b.f,vc, .slice b1 b.ws.length c1].toArray 105 (0,0))::tail⟩) (fun i=>b.ws.length-i) 0 ⟨Nat.zero_le _,rfl⟩ rfl ⟨U,U,U,U,trivial⟩ fun i hi hnext=>?_
  obtain⟨hi,hr⟩:=hi
  refine Xr C U U<|R.int C U U U U b_lss<|R.done C<|Xs C<|Xk C U (fun hlt=>?_) (fun hlt=>?_)
  ·have hi':i<b.ws.length:=O
   obtain⟨p,off,cap,l,t,fq,hsl,hrop,hsub⟩:=hw.at Wt.len O
   cases hsl
   rw [List.drop_eq_getElem_cons hi'] at hr
   simp only [wtsH] at hr
   refine X.skip C.1<|Xs C<|X.block C.1<|Xr C U U<|Rx C U U U runUnderlying23 sizeOf58<|R.loadAggRo C U U U isAgg58 sizeOf58 hrop (hsub i hi')<|R.alloc C U U zeroValue58 U fun p4=>R.store C U U U U sizeOf58 U U U V Ph5<|R.done C<|X.block C.1<|Xr C U U<|Rf C 0 U U runUnderlying58 U sizeOf27<|R5 C U U isAgg27 sizeOf27 V Tk2<|R.callP C U U U U (isPlace_c hJ (b.ws[i]).s _)<|R.not C U U U<|Rm C U U<|R.fix (t:=23) U (fun hg=>?_) (fun hg=>?_)
   ·refine R.pass C U U<|R.pass C U U<|R.pass C U U<|R.pass C U U<|R.pickT C U U U U<|Ad C U U<|X.cond C.1 U (fun _=>?_) (fun h=>nomatch h)
    refine Xr C U U<|Ad C U U<|Xt C func348<|Hp hret ?_
    simp at hg
    simp [hg] at hr
    simp [Bk.witnessesH,retVal, ←hr];omega
   ·refine Rf C 2 U U runUnderlying58 U sizeOf3<|Rl C U U isAgg3 V U<|R.callP C U U U U (between_c hJ _ _ _ _)<|R.not C U U U<|R.pickF C U U U U<|Ad C U U<|X.cond C.1 U (fun hd=>?_) (fun hd=>?_)
    ·refine Xr C U U<|Ad C U U<|Xt C func348<|Hp hret ?_
     simp at hg hd
     simp [hg,hd] at hr
     simp [Bk.witnessesH,retVal, ←hr];omega
    ·refine Xr C U U<|R5 C U U isAgg105 sizeOf105 V Tk5<|Rf C 3 U U runUnderlying58 U sizeOf3<|Rl C U U isAgg3 V U<|R.callP C U U U U (compass_c hJ (by assumption) (by assumption) _)<|R.int C U U U U b_neq<|Ad C U U<|X.cond C.1 U (fun hk=>?_) (fun hk=>?_)
     ·refine Xr C U U<|Ad C U U<|Xt C func348<|Hp hret ?_
      simp at hg hd hk
      simp [hg,hd] at hr
      simp only [Bk.compass] at hk
      simp [hk] at hr
      simp [Bk.witnessesH,retVal, ←hr];omega
     ·refine X.skip C.1<|X.inBlock C.1<|X.inBlock C.1<|X.region C U U<|Ra C U U U<|Rm C U U<|R.done C ?_
      simp at hg hd hk
      simp [hg,hd] at hr
      simp only [Bk.compass] at hk
      simp [hk] at hr
      refine X.weak C.1 (Weak.sub (List.sublist_cons_self _ _)) (X.weaken ?_ (hnext (i+1) ⟨O,hr⟩ O))
      exact⟨rfl,rfl,by simp [look],rfl,trivial⟩
  ·obtain rfl:i=b.ws.length:=by omega
   simp [wtsH] at hr
   refine X.exit C.1 U<|Xr C U U<|Ad C U U<|Xt C func348<|Hp hret ?_
   simp [Bk.witnessesH,retVal, ←hr];omega
def hit(b:Bk):Nat→Int
 |0=>b.chart
 |1=>b.compassesH
 |_=>b.witnessesH
theorem checkChart_c(he:Env ro)(hv:BkV ro v b)(hs:b.short):CallP prog J (fnv 24) [v] ro (.int .i64 (checkChart b)):=by
 have hvv:=hv
 obtain⟨vc,vw,rfl,hc,hw⟩:=hv
 obtain⟨et,efq,he⟩:=he
 refine CallP.intro hJ Kr fun c cs tail hret=>enter_X (n:=18) func24 U U (Nl U) ?_
 have C:Ctx prog main J (bf 24 .normal):=⟨hJ,by decide⟩
 refine Xr C U U<|R.box C U U U U fun p1=>Ad C U U<|Xs C<|Xr C U U<|R.loadAggRo C U U U isAgg119 sizeOf119 he Tk3<|Rm C U U<|R.done C<|X.block C.1<|X.loopI (ι:=Nat) C.1 (fun i=>i≤3∧∀j,j<i→hit b j=0) (fun i=> [(6, .agg [fnv 346,fnv 347,fnv 348].toArray),(7, .int .i64 (i:Int)),(1, .pointer (some ⟨p1,0,none⟩))])
  (fun _=>⟨ro,(p1, .cells [.int .i64 b.w, .int .i64 b.h, .int .i64 b.f,vc,vw].toArray 25 (0,0))::tail⟩) (fun i=>3-i) 0 ⟨Nat.zero_le _,fun j hj=>absurd hj (Nat.not_lt_zero _)⟩ rfl ⟨U,U,U,trivial⟩ fun i hi hnext=>?_
 obtain⟨hi,hr⟩:=hi
 refine Xr C U U<|R.int C U U U U b_lss<|R.done C<|Xs C<|Xk C U (fun hlt=>?_) (fun hlt=>?_)
 ·have hi':i<3:=O
  have hget: [fnv 346,fnv 347,fnv 348][((i:Int)).toNat*1]? =some (fnv (346+i)):=by
   have:i=0∨i=1∨i=2:=O
   rcases this with rfl|rfl|rfl<;>rfl
  have hcall:CallP prog J (fnv (346+i)) [.agg [.int .i64 b.w, .int .i64 b.h, .int .i64 b.f,vc,vw].toArray] ro (.int .i64 (hit b i)):=by
   have:i=0∨i=1∨i=2:=O
   rcases this with rfl|rfl|rfl
   ·exact chart_c hJ hvv
   ·exact compasses_c hJ hvv hs
   ·refine witnesses_c hJ hvv ?_
    have:=chart_zero.1 (hr 0 O)
    unfold Bk.small;unfold Bk.short at hs;omega
  refine X.skip C.1<|Xs C<|X.block C.1<|Xr C U U<|R.index C U U U U runUnderlying119 isAgg118 sizeOf118 O O hget<|Ad C U U<|Xr C U U<|Rm C U U<|R5 C U U isAgg25 sizeOf25 V Tk5 ?_;refine R.build C U U U zeroValue105 U runUnderlying105 Kr (Fills.part U U sizeOf25 U Ph5 .nil)<|R.callP C U U U U (hcall)<|Ad C U U<|Xr C U U<|Rm C U U<|R.int C U U U U b_neq<|R.done C<|X.cond C.1 U (fun hh=>?_) (fun hh=>?_)
  ·refine Xr C U U<|Rm C U U<|Ad C U U<|Xt C func24<|Hp hret ?_
   simp at hh
   have:i=0∨i=1∨i=2:=O
   rcases this with rfl|rfl|rfl
   ·simp [hit] at hh;simp [checkChart,hh,retVal,hit]
   ·have h0:=hr 0 O;simp [hit] at hh h0;simp [checkChart,hh,h0,retVal,hit]
   ·have h0:=hr 0 O;have h1:=hr 1 O;simp [hit] at hh h0 h1;simp [checkChart,h0,h1,retVal,hit]
  ·refine X.skip C.1<|X.inBlock C.1<|X.region C U U<|Ra C U U U<|Rm C U U<|R.done C ?_
   simp at hh
   refine X.weaken ?_ (hnext (i+1) ⟨O,fun j hj=>?_⟩ O)
   ·exact⟨rfl,by simp [look],rfl,trivial⟩
   ·by_cases e:j=i
    ·rw [e];exact hh
    ·exact hr j O
 ·obtain rfl:i=3:=by omega
  refine X.exit C.1 U<|Xr C U U<|Ad C U U<|Xt C func24<|Hp hret ?_
  have h0:=hr 0 O;have h1:=hr 1 O;have h2:=hr 2 O
  simp [hit] at h0 h1 h2;simp [checkChart,h0,h1,h2,retVal]
end Go.Lg.B
namespace Go.Lg.B
open Go Go.Conc Go.Lg Go.Proofs Go.Proofs.Tryz
variable {i n:Nat}{a a':Aim}{b:Bk}{v:Value}
def offs:List Rc→Nat→Aim→List Aim
 | [],_,a=> [a]
 |x::l,i,a=>(rz x.lo (x.hi+1-x.lo).toNat).flatMap fun n=>offs l (i+1) (a.set i n)
def aimAt(b:Bk)(n:Nat):Aim:=⟨⟨(n:Int)%b.w,(n:Int) /b.w⟩,0,0,0⟩
def ups:Nat→Nat→List Nat
 |_,0=> []
 |n,m+1=>n::ups (n+1) m
def aims(b:Bk):List Aim:=(ups 0 (b.w*b.h).toNat).flatMap fun n=>offs b.cs 0 (aimAt b n)
theorem Aim.off_set(a:Aim){i k:Int}(v:Int)(hi:0≤i∧i<3)(hk:0≤k∧k<3):(a.set i v).off k=if k=i then v else a.off k:=by
 have h1:i=0∨i=1∨i=2:=O
 have h2:k=0∨k=1∨k=2:=O
 rcases h1 with rfl|rfl|rfl<;>rcases h2 with rfl|rfl|rfl<;>rfl
theorem Aim.set_s(a:Aim)(i v:Int):(a.set i v).s=a.s:=by
 unfold Aim.set;split
 ·rfl
 ·split<;>rfl
def Agree(i n:Nat)(a a':Aim):Prop:=a'.s=a.s∧∀k:Int,0≤k→k<3→(k<i∨(n:Int)≤k)→a'.off k=a.off k
theorem Agree.refl(i n:Nat)(a:Aim):Agree i n a a:=⟨rfl,fun _ _ _ _=>rfl⟩
theorem Agree.trans{b c:Aim}(h:Agree i n a b)(k:Agree i n b c):Agree i n a c:=⟨k.1.trans h.1,fun x h0 h1 h2=>(k.2 x h0 h1 h2).trans (h.2 x h0 h1 h2)⟩
theorem Agree.set(h:Agree i n a a')(hi:i<3)(v:Int):Agree (i+1) n (a.set i v) (a'.set i v):=by
 refine⟨by rw [Aim.set_s,Aim.set_s];exact h.1,fun k h0 h1 h2=>?_⟩
 rw [Aim.off_set _ _ O ⟨h0,h1⟩,Aim.off_set _ _ O ⟨h0,h1⟩]
 split
 ·rfl
 ·exact h.2 k h0 h1 O
theorem Agree.unset{v:Int}(hi:i<n)(hn:n≤3)(h:Agree (i+1) n (a.set i v) a'):Agree i n a a':=by
 refine⟨by rw [h.1,Aim.set_s],fun k h0 h1 h2=>?_⟩
 rw [h.2 k h0 h1 O,Aim.off_set _ _ O ⟨h0,h1⟩,if_neg O]
theorem Agree.eq(h:Agree i i a a'):a=a':=by
 obtain⟨h1,h2⟩:=h
 have e0:=h2 0 O O O
 have e1:=h2 1 O O O
 have e2:=h2 2 O O O
 obtain⟨s,x,y,z⟩:=a;obtain⟨s',x',y',z'⟩:=a'
 simp_all [Aim.off]
theorem offs_congr:∀ (l:List Rc) (i:Nat) (a a':Aim),i+l.length≤3→Agree i (i+l.length) a a'→offs l i a=offs l i a'
 | [],i,a,a',_,h=>by rw [Agree.eq h]
 |x::l,i,a,a',hl,h=>by
  simp only [offs]
  congr 1
  funext n
  simp only [List.length_cons] at hl h
  exact offs_congr l (i+1) _ _ O (by
   have:=h.set O n
   rw [show i+1+l.length=i+(l.length+1) by omega];exact this)
variable {main:Bool}{J:Goroutine→Mem→Prop}(hJ:Closed prog main J)
include hJ
def aimBlocks(b2 b3 b4 b5:Nat)(bl:List Value)(yv nv:Value)(a:Aim):List (Nat×Obj):= [(b5, .cells [nv].toArray 151 (0,0)),(b4, .cells a.cells.toArray 109 (0,0)),(b3, .cells [yv].toArray 238 (0,0)),(b2, .cells bl.toArray 105 (0,0))]
def nextV(b2 b3 b4 b5:Nat):Value:= .func (.func 181) #[] [.pointer (some ⟨b2,0,none⟩), .pointer (some ⟨b3,0,none⟩), .pointer (some ⟨b4,0,none⟩), .pointer (some ⟨b5,0,none⟩)].toArray
theorem next_c{vc vw:Value}{ro0:RO}(hc:Ls Rc.cells 2 ro0 vc b.cs)(hb:b.good)(b2 b3 b4 b5:Nat)(yv:Value){items:List (List Value)}(I:Nat→RO→List (Nat×Obj)→Prop)(E:RO→List (Nat×Obj)→Prop)
  (hy:∀k (hk:k<items.length) ro1 p1,ro0.le ro1→I k ro1 p1→CallV prog J yv items[k] ro1 p1 fun v ro' p'=>(v= .bool true∧I (k+1) ro' p')∨(v= .bool false∧E ro' p')):
  ∀ (m i:Nat) (a:Aim) (ro1:RO) (p1:List (Nat×Obj)) (k:Nat),i+m=b.cs.length→ro0.le ro1→I k ro1 p1→k+(offs (b.cs.drop i) i a).length≤items.length→Seg items k (offs (b.cs.drop i) i a) Aim.val→
   CallV prog J (nextV b2 b3 b4 b5) [.int .i64 (i:Int)] ro1 (aimBlocks b2 b3 b4 b5 [.int .i64 b.w, .int .i64 b.h, .int .i64 b.f,vc,vw] yv (nextV b2 b3 b4 b5) a++p1) fun v ro' p'=>
    (v= .bool true∧∃a' q',Agree i b.cs.length a a'∧p'=aimBlocks b2 b3 b4 b5 [.int .i64 b.w, .int .i64 b.h, .int .i64 b.f,vc,vw] yv (nextV b2 b3 b4 b5) a'++q'∧I (k+(offs (b.cs.drop i) i a).length) ro' q')∨
    (v= .bool false∧∃a' q',p'=aimBlocks b2 b3 b4 b5 [.int .i64 b.w, .int .i64 b.h, .int .i64 b.f,vc,vw] yv (nextV b2 b3 b4 b5) a'++q'∧E ro' q'):=by
 intro m
 induction m with
 |zero=>
  intro i a ro1 p1 k hi hle hI hk hseg
  obtain rfl:i=b.cs.length:=by omega
  obtain⟨bb,bc,rfl⟩:=hc.form
  rw [List.drop_length] at hk hseg⊢
  simp only [offs,List.length_cons,List.length_nil] at hk hseg⊢
  have hki:items[k]? =some [a.val]:=by simpa using hseg 0 Zi
  have hkk:k<items.length:=O
  have hkg:items[k]= [a.val]:=by rw [List.getElem?_eq_getElem hkk] at hki;exact Option.some.inj hki
  have hyk:=hy k hkk ro1 p1 hle hI
  rw [hkg] at hyk
  refine CallV.intro hJ Kr fun c cs tail hret=>?_
  unfold aimBlocks
  refine enter_X (n:=44) func181 U U (Nl U) ?_
  have C:Ctx prog main J (bf 181 .normal):=⟨hJ,by decide⟩
  refine Xr C U U<|Ad C U U<|Xs C<|Xr C U U<|Rm C U U<|Rf C 0 U U runUnderlying105 U sizeOf25<|Rf C 3 U U runUnderlying25 U sizeOf22<|Rl C U U isAgg22 V U<|Rn C U U runUnderlying22<|R.int C U U U U b_eql<|R.done C<|X.cond C.1 U (fun he=>?_) (fun he=>?_)
  ·refine Xr C U U<|Rl C U U isAgg238 V U<|R5 C U U isAgg109 sizeOf109 V Tk5<|R.perm C.1 (perm_mid [_,_,_,_] p1 tail)<|R.call C U U U U U hyk fun v ro' pre' hle' hp=>R.perm C.1 (perm_mid pre' [_,_,_,_] tail)<|Ad C U U<|Xt C func181<|hret _ _ ([_,_,_,_]++pre') _ hle' ?_ (by rw [List.append_assoc];exact List.Sublist.refl _)
   rcases hp with⟨rfl,h⟩|⟨rfl,h⟩
   ·exact .inl ⟨rfl,a,pre',Agree.refl _ _ _,rfl,h⟩
   ·exact .inr ⟨rfl,a,pre',rfl,h⟩
  ·simp at he
 |succ m ih=>
  intro i a ro1 p1 k hi hle hI hk hseg
  have hi':i<b.cs.length:=O
  have hn3:=hb.nc
  obtain⟨p,off,cap,l,t,fq,rfl,hrop,hsub⟩:=hc.at Rc.len O
  have hfine:=hb.cs _ (List.getElem_mem hi')
  have hbd:=isReach_bd (x:=b.cs[i]) (by simp only [Rc.fine,Bool.and_eq_true] at hfine;exact hfine.1)
  rw [List.drop_eq_getElem_cons hi'] at hk hseg⊢
  simp only [offs] at hk hseg⊢
  have hfc:∀ (a':Aim),Agree i b.cs.length a a'→∀n,offs (b.cs.drop (i+1)) (i+1) (a.set i n)=offs (b.cs.drop (i+1)) (i+1) (a'.set i n):=fun a' h n=>
   offs_congr _ _ _ _ Zo (by
    have:=h.set (show i<3 by omega) n
    rw [show i+1+(b.cs.drop (i+1)).length=b.cs.length by simp;omega];exact this)
  have hlo:=(hsub i hi').get 0 Dd
  have hhi:=(hsub i hi').get 1 Dd
  refine CallV.intro hJ Kr fun c cs tail hret=>?_
  unfold aimBlocks
  refine enter_X (n:=44) func181 U U (Nl U) ?_
  have C:Ctx prog main J (bf 181 .normal):=⟨hJ,by decide⟩
  refine Xr C U U<|Ad C U U<|Xs C<|Xr C U U<|Rm C U U<|Rf C 0 U U runUnderlying105 U sizeOf25<|Rf C 3 U U runUnderlying25 U sizeOf22<|Rl C U U isAgg22 V U<|Rn C U U runUnderlying22<|R.int C U U U U b_eql<|R.done C<|X.cond C.1 U (fun he=>?_) (fun he=>?_)
  ·simp at he;omega
  ·refine X.skip C.1<|Xs C<|Xr C U U<|Rf C 0 U U runUnderlying105 U sizeOf25<|Rf C 3 U U runUnderlying25 U sizeOf22<|Rl C U U isAgg22 V U<|Rm C U U<|Rx C U U U runUnderlying22 sizeOf46<|R.fieldAddr C U U U runUnderlying46 U sizeOf3 U<|R.loadOneRo C U U U isAgg3 (hle _ _ hrop) hlo<|Ad C U U<|X.block C.1 ?_
   refine X.loopI (ι:=Int×Nat×Aim×List (Nat×Obj)×RO×Nat) C.1 (fun s=>s.1+s.2.1=b.cs[i].hi+1∧ -3≤s.1∧Agree i b.cs.length a s.2.2.1∧ro1.le s.2.2.2.2.1∧I s.2.2.2.2.2 s.2.2.2.2.1 s.2.2.2.1∧Seg items s.2.2.2.2.2 ((rz s.1 s.2.1).flatMap fun n=>offs (b.cs.drop (i+1)) (i+1) (a.set i n)) Aim.val∧
     s.2.2.2.2.2+((rz s.1 s.2.1).flatMap fun n=>offs (b.cs.drop (i+1)) (i+1) (a.set i n)).length=k+((rz b.cs[i].lo (b.cs[i].hi+1-b.cs[i].lo).toNat).flatMap fun n=>offs (b.cs.drop (i+1)) (i+1) (a.set i n)).length)
    (fun s=> [(0, .int .i64 (i:Int)),(1, .pointer (some ⟨b2,0,none⟩)),(2, .pointer (some ⟨b3,0,none⟩)),(3, .pointer (some ⟨b4,0,none⟩)),(4, .pointer (some ⟨b5,0,none⟩)),(7, .int .i64 s.1)])
    (fun s=>⟨s.2.2.2.2.1,aimBlocks b2 b3 b4 b5 [.int .i64 b.w, .int .i64 b.h, .int .i64 b.f, .slice (some ⟨p,off,none⟩) b.cs.length cap,vw] yv (nextV b2 b3 b4 b5) s.2.2.1++(s.2.2.2.1++tail)⟩) (fun s=>s.2.1) (b.cs[i].lo,(b.cs[i].hi+1-b.cs[i].lo).toNat,a,p1,ro1,k)
    ⟨by simp only;omega,hbd.1,Agree.refl _ _ _,RO.le_refl _,hI,hseg,rfl⟩ rfl ⟨U,U,U,U,U,U,trivial⟩ fun s hs hnext=>?_
   obtain⟨n,mm,a',q,roc,kc⟩:=s
   obtain⟨h1,h0,h2,h3,h4,h5,h6⟩:=hs
   simp only at h1 h2 h3 h4 h5 h6 hnext⊢
   unfold aimBlocks
   refine Xs C<|Xr C U U<|Rm C U U<|Rf C 0 U U runUnderlying105 U sizeOf25<|Rf C 3 U U runUnderlying25 U sizeOf22<|Rl C U U isAgg22 V U<|Rm C U U<|Rx C U U U runUnderlying22 sizeOf46<|R.fieldAddr C U U U runUnderlying46 U sizeOf3 U<|R.loadOneRo C U U U isAgg3 (h3 _ _ (hle _ _ hrop)) hhi<|R.int C U U U U b_leq<|R.done C<|Xk C U (fun hlt=>?_) (fun hlt=>?_)
   ·obtain⟨m',rfl⟩:∃m',mm=m'+1:=⟨mm-1,O⟩
    simp only [rz,List.flatMap_cons] at h5 h6
    obtain⟨hs1,hs2⟩:=h5.split
    rw [List.length_append] at h6
    refine X.skip C.1<|Xs C<|X.block C.1<|Xr C U U<|Rm C U U<|Rm C U U<|Rf C 2 U U runUnderlying109 U sizeOf107<|R.indexAddrA C U U U U runUnderlying107 sizeOf3 O O<|R.store C U U U U sizeOf3 U U U V (a'.putOff n O O)<|R.done C<|Xr C U U<|Rl C U U isAgg151 V U<|Rm C U U<|Ra C U U U ?_
    have hrec:=ih (i+1) (a'.set i n) roc q kc O (RO.le_trans hle h3) h4 (by rw [←hfc a' h2 n];omega) (by rw [←hfc a' h2 n];exact hs1)
    refine R.call C U U U U (pre:=aimBlocks b2 b3 b4 b5 [.int .i64 b.w, .int .i64 b.h, .int .i64 b.f, .slice (some ⟨p,off,none⟩) b.cs.length cap,vw] yv (nextV b2 b3 b4 b5) (a'.set i n)++q) (tail:=tail) U hrec fun v ro' pre' hle' hp=>?_
    rcases hp with⟨rfl,a2,q2,hag,rfl,hI2⟩|⟨rfl,a2,q2,rfl,hE⟩
    ·
     refine R.not C U U U<|R.fixv (t:=43) (v':= .bool false) U U<|R.done C<|X.cond C.1 U (fun h=>nomatch h) (fun _=>?_)
     refine X.skip C.1<|X.inBlock C.1<|X.region C U U<|Rm C U U<|Ra C U U U<|Ad C U U ?_
     rw [←hfc a' h2 n] at hI2
     refine X.weaken ?_ (hnext (n+1,m',a2,q2,ro',kc+(offs (b.cs.drop (i+1)) (i+1) (a.set i n)).length) ⟨?_, ?_, ?_, ?_, ?_, ?_, ?_⟩ (Nat.lt_succ_self _))
     ·exact⟨U,U,U,U,U,U,trivial⟩
     ·simp only;omega
     ·simp only;omega
     ·exact h2.trans (hag.unset hi' hn3.2)
     ·exact RO.le_trans h3 hle'
     ·exact hI2
     ·exact hs2
     ·simp only;omega
    ·
     refine R.not C U U U<|R.fixv (t:=43) (v':= .bool true) U U<|R.done C<|X.cond C.1 U (fun _=>?_) (fun h=>nomatch h)
     refine Xr C U U<|Ad C U U<|Xt C func181<|hret _ _ ([_,_,_,_]++q2) _ (RO.le_trans h3 hle') ?_ (by simp only [aimBlocks,List.append_assoc];exact List.Sublist.refl _)
     exact .inr ⟨rfl,a2,q2,rfl,hE⟩
   ·obtain rfl:mm=0:=by omega
    simp only [rz,List.flatMap_nil,List.length_nil,Nat.add_zero] at h6
    refine X.exit C.1 U<|Xr C U U<|Ad C U U<|Xt C func181<|hret _ _ ([_,_,_,_]++q) _ h3 ?_ (by rw [List.append_assoc];exact List.Sublist.refl _)
    exact .inl ⟨rfl,a',q,h2,rfl,by rw [←h6];exact h4⟩
omit hJ in
theorem fnV.cells(h:fnV v):v.cells= [v].toArray:=by obtain⟨f,a,c,rfl⟩:=h;rfl
omit hJ in
theorem fnV.one(h:fnV v):ones [v]=true:=by obtain⟨f,a,c,rfl⟩:=h;rfl
theorem aims_it{ro:RO}(hv:BkV ro v b)(hb:b.good):Iter prog J (.func (.func 152) [v].toArray #[]) ((aims b).map fun a=> [a.val]) ro:=by
 intro yv I E hyf hmono hy ro0 p0 hle hI0
 obtain⟨vc,vw,rfl,hc,hw⟩:=hv
 have hbw:=hb.w
 have hbh:=hb.h
 have hn3:=hb.nc
 have hwh:0≤b.w*b.h∧b.w*b.h≤49:=⟨Int.mul_nonneg O O,by
  have:=Int.mul_le_mul hbw.2 hbh.2 O O;omega⟩
 have hlen:(aims b).length=((aims b).map fun a=> [a.val]).length:=by simp
 refine CallV.intro (first:= [_]) (vs:= [yv]) (cap:= []) hJ Kr fun c cs tail hret=>enter_X (n:=34) func152 U U (Nl U) ?_
 have C:Ctx prog main J (bf 152 .normal):=⟨hJ,by decide⟩
 refine Xr C U U<|R.box C U U U U fun p2=>R.box C U U U (fnV.cells hyf) fun p3=>R.done C<|Xr C U U<|R.alloc C U U zeroValue109 U fun p4=>R.done C<|Xr C U U<|R.alloc C U U zeroValue151 U fun p5=>R.done C<|Xr C U U<|R.makeFunc C U U U U<|R.store C U U U U sizeOf151 U U U V (.here .nil)<|R.done C<|Xr C U U<|Rf C 0 U U runUnderlying105 U sizeOf25<|Rf C 0 U U runUnderlying25 U sizeOf3<|Rl C U U isAgg3 V U<|Rf C 0 U U runUnderlying105 U sizeOf25<|Rf C 1 U U runUnderlying25 U sizeOf3<|Rl C U U isAgg3 V U<|R.int C U U U U (b_mul O O)<|Rm C U U<|R.done C<|X.block C.1 ?_
 refine X.loopI (ι:=Nat×Nat×Aim×List (Nat×Obj)×RO×Nat) C.1 (fun s=>s.1+s.2.1=(b.w*b.h).toNat∧(∀k:Int,0≤k→k<3→(b.cs.length:Int)≤k→s.2.2.1.off k=0)∧ro0.le s.2.2.2.2.1∧I s.2.2.2.2.2 s.2.2.2.2.1 s.2.2.2.1∧Seg ((aims b).map fun a=> [a.val]) s.2.2.2.2.2 ((ups s.1 s.2.1).flatMap fun n=>offs b.cs 0 (aimAt b n)) Aim.val∧
   s.2.2.2.2.2+((ups s.1 s.2.1).flatMap fun n=>offs b.cs 0 (aimAt b n)).length=(aims b).length)
  (fun s=> [(2, .pointer (some ⟨p2,0,none⟩)),(4, .pointer (some ⟨p4,0,none⟩)),(5, .pointer (some ⟨p5,0,none⟩)),(14, .int .i64 (b.w*b.h)),(15, .int .i64 (s.1:Int))])
  (fun s=>⟨s.2.2.2.2.1,aimBlocks p2 p3 p4 p5 [.int .i64 b.w, .int .i64 b.h, .int .i64 b.f,vc,vw] yv (nextV p2 p3 p4 p5) s.2.2.1++(s.2.2.2.1++tail)⟩) (fun s=>s.2.1) (0,(b.w*b.h).toNat,⟨⟨0,0⟩,0,0,0⟩,p0,ro0,0)
  ⟨by simp only;omega,fun k h0 h1 _=>by
   have:k=0∨k=1∨k=2:=O
   rcases this with rfl|rfl|rfl<;>rfl,RO.le_refl _,hI0,Seg.all _ _,by simp only [aims];omega⟩ rfl ⟨U,U,U,U,U,trivial⟩ fun s hs hnext=>?_
 obtain⟨n,mm,a,q,roc,kc⟩:=s
 obtain⟨h1,h2,h3,h4,h5,h6⟩:=hs
 simp only at h1 h2 h3 h4 h5 h6 hnext⊢
 unfold aimBlocks
 refine Xr C U U<|R.int C U U U U b_lss<|R.done C<|Xs C<|Xk C U (fun hlt=>?_) (fun hlt=>?_)
 ·obtain⟨m',rfl⟩:∃m',mm=m'+1:=⟨mm-1,O⟩
  simp only [ups,List.flatMap_cons] at h5 h6
  obtain⟨hs1,hs2⟩:=h5.split
  rw [List.length_append] at h6
  have hcg:offs b.cs 0 (aimAt b n)=offs b.cs 0 {a with s:=⟨(n:Int)%b.w,(n:Int) /b.w⟩ }:=offs_congr _ _ _ _ O ⟨rfl,fun k h0 h1 hk=>by
   have e:(aimAt b n).off k=0:=by
    have:k=0∨k=1∨k=2:=O
    rcases this with rfl|rfl|rfl<;>rfl
   rw [e]
   exact h2 k h0 h1 O⟩
  refine X.skip C.1<|Xs C<|X.block C.1<|Xr C U U<|Rm C U U<|Ad C U U<|Xs C<|Xd C fun hok=>Dm C 0 hok U U U<|Df (off':=0) C 1 hok U U U runUnderlying105 U sizeOf25 U<|Df (off':=0) C 2 hok U U U runUnderlying25 U sizeOf3 U<|D1 C 3 hok U U isAgg3 V U<|Di C 4 hok U U U U U (b_remP O O)<|Dm C 5 hok U U U<|Df (off':=0) C 6 hok U U U runUnderlying105 U sizeOf25 U<|Df (off':=0) C 7 hok U U U runUnderlying25 U sizeOf3 U<|D1 C 8 hok U U isAgg3 V U<|Di C 9 hok U U U U U (b_quoP O O O) ?_;refine Dp 10 hok (fun _ _ _ A h=>R.build C U (A.w U U) (A.p U U) zeroValue27 U runUnderlying27 Kr (Fills.part U U sizeOf3 U (.here .nil) (Fills.part U U sizeOf3 U (.skip (.here .nil)) .nil)) h)<|Df (off':=0) C 11 hok U U U runUnderlying109 U sizeOf27 U<|De 12 none [false,false] hok (fun _ _ A hk=>?_)
  refine R.store C U (A.w U U) (A.x U U) (A.x U U) sizeOf27 U U U V Ph2 (hk undef _ ⟨QFs.nil, ?_⟩)
  refine D.done C hok Kr<|Xr C U U<|Rl C U U isAgg151 V U ?_
  have hrec:=next_c hJ (ro0:=ro) (vw:=vw) hc hb p2 p3 p4 p5 yv I E (fun k hk ro1 p1 hl=>hy k hk ro1 p1 hl) b.cs.length 0 {a with s:=⟨(n:Int)%b.w,(n:Int) /b.w⟩ } roc q kc O (RO.le_trans hle h3) h4 (by rw [List.drop_zero, ←hcg];omega) (by rw [List.drop_zero, ←hcg];exact hs1)
  rw [List.drop_zero, ←hcg] at hrec
  refine R.call C U U U U (pre:=aimBlocks p2 p3 p4 p5 [.int .i64 b.w, .int .i64 b.h, .int .i64 b.f,vc,vw] yv (nextV p2 p3 p4 p5) {a with s:=⟨(n:Int)%b.w,(n:Int) /b.w⟩ }++q) (tail:=tail) U hrec fun v ro' pre' hle' hp=>?_
  rcases hp with⟨rfl,a2,q2,hag,rfl,hI2⟩|⟨rfl,a2,q2,rfl,hE⟩
  ·
   refine R.not C U U U<|R.fixv (t:=32) (v':= .bool false) U U<|R.done C<|X.cond C.1 U (fun h=>nomatch h) (fun _=>?_)
   refine X.skip C.1<|X.inBlock C.1<|X.region C U U<|Ra C U U U<|Rm C U U<|R.done C<|X.weaken ?_ (hnext (n+1,m',a2,q2,ro',kc+(offs b.cs 0 (aimAt b n)).length) ⟨?_, ?_, ?_, ?_, ?_, ?_⟩ (Nat.lt_succ_self _))
   ·exact⟨U,U,U,U,U,trivial⟩
   ·simp only;omega
   ·intro k g0 g1 g2
    rw [hag.2 k g0 g1 (.inr g2)]
    exact h2 k g0 g1 g2
   ·exact RO.le_trans h3 hle'
   ·exact hI2
   ·exact hs2
   ·simp only;omega
  ·
   refine R.not C U U U<|R.fixv (t:=32) (v':= .bool true) U U<|R.done C<|X.cond C.1 U (fun _=>?_) (fun h=>nomatch h)
   refine X.ret C U U func152 U (by exact .nil) ?_
   exact hret _ _ q2 _ (RO.le_trans h3 hle') ⟨rfl, .inr hE⟩ (by simp only [aimBlocks,List.append_assoc,List.cons_append,List.nil_append];(repeat (first|exact Sr|apply Sc)))
 ·obtain rfl:mm=0:=by omega
  simp only [ups,List.flatMap_nil,List.length_nil,Nat.add_zero] at h6
  refine X.exit C.1 U<|X.fall C U U func152 U (by exact .nil)<|hret _ _ q _ h3 ⟨rfl, .inl ?_⟩ (by simp only [List.cons_append,List.nil_append];(repeat (first|exact Sr|apply Sc)))
  rw [←hlen, ←h6];exact h4
end Go.Lg.B
namespace Go.Lg.B
open Go Go.Conc Go.Lg Go.Proofs Go.Proofs.Tryz
variable {b:Bk}
theorem rz_mem:∀ {m:Nat} {n k:Int},k∈rz n m→n≤k∧k<n+m
 |0,_,_,h=>by simp [rz] at h
 |m+1,n,k,h=>by
  simp only [rz,List.mem_cons] at h
  rcases h with rfl|h
  ·omega
  ·have:=rz_mem h;omega
theorem ups_mem:∀ {m n k:Nat},k∈ups n m→n≤k∧k<n+m
 |0,_,_,h=>by simp [ups] at h
 |m+1,n,k,h=>by
  simp only [ups,List.mem_cons] at h
  rcases h with rfl|h
  ·omega
  ·have:=ups_mem h;omega
theorem Aim.good.set{a:Aim}(h:a.good){i v:Int}(hv: -3≤v∧v≤3):(a.set i v).good:=by
 refine⟨by rw [Aim.set_s];exact h.s,fun k=>?_⟩
 have h0:=h.o 0
 have h1:=h.o 1
 have h2:=h.o 2
 obtain⟨s,x,y,z⟩:=a
 simp only [Aim.off,Aim.set] at*
 simp at h0 h1 h2
 split<;>split<;>(try split)<;>(try split)<;>simp<;>omega
theorem offs_good:∀ (l:List Rc) (i:Nat) (a:Aim),(∀x∈l,x.fine=true)→a.good→∀a'∈offs l i a,a'.good
 | [],_,a,_,h,a',ha=>by simp only [offs,List.mem_singleton] at ha;rw [ha];exact h
 |x::l,i,a,hf,h,a',ha=>by
  simp only [offs,List.mem_flatMap] at ha
  obtain⟨n,hn,ha⟩:=ha
  have hb:=rz_mem hn
  have hx:=hf x List.mem_cons_self
  simp only [Rc.fine,Bool.and_eq_true] at hx
  have:=isReach_bd hx.1
  exact offs_good l (i+1) _ (fun y hy=>hf y (List.mem_cons_of_mem _ hy)) (h.set O) a' ha
theorem aimAt_good(hb:b.good){n:Nat}(hn:n<(b.w*b.h).toNat):(aimAt b n).good:=by
 have hw:=hb.w
 have hh:=hb.h
 have hwh:b.w*b.h≤49:=by
  have:=Int.mul_le_mul hw.2 hh.2 O O;omega
 have h1:=Int.emod_nonneg (n:Int) (show b.w≠0 by omega)
 have h2:=Int.emod_lt_of_pos (n:Int) (show 0<b.w by omega)
 have h3:0≤(n:Int) /b.w:=Int.ediv_nonneg O O
 have h4:(n:Int) /b.w≤n:=Int.ediv_le_self _ O
 refine⟨⟨?_, ?_, ?_, ?_⟩,fun k=>?_⟩
 ·show -1000≤(n:Int)%b.w;omega
 ·show(n:Int)%b.w≤1000;omega
 ·show -1000≤(n:Int) /b.w;omega
 ·show(n:Int) /b.w≤1000;omega
 ·simp only [aimAt,Aim.off]
  split
  ·omega
  ·split<;>omega
theorem aims_good(hb:b.good):∀a∈aims b,a.good:=fun a ha=>by
 simp only [aims,List.mem_flatMap] at ha
 obtain⟨n,hn,ha⟩:=ha
 have:=ups_mem hn
 exact offs_good _ _ _ hb.cs (aimAt_good hb O) a ha
def together(b:Bk)(mask:Nat):Bool:=(aims b).any fun a=>odd b a &&& mask==0
variable {main:Bool}{J:Goroutine→Mem→Prop}(hJ:Closed prog main J)
include hJ
theorem together_c{v:Value}{ro:RO}(hv:BkV ro v b)(hb:b.good){mask:Nat}(hm:mask<2^63):CallR prog J (fnv 126) [v, .int .i64 (mask:Int)] ro (fun w _=>w= .bool (together b mask)):=by
 have hvv:=hv
 obtain⟨vc,vw,rfl,hc,hw⟩:=hv
 refine CallR.intro hJ Kr fun c cs tail hret=>enter_X (n:=15) func126 U U (Nl U) ?_
 have C:Ctx prog main J (bf 126 .normal):=⟨hJ,by decide⟩
 refine Xr C U U<|R.box C U U U U fun p2=>R.box C U U U U fun p3=>R.alloc C U U zeroValue4 U fun p4=>R.done C<|Xs C<|Xr C U U<|R5 C U U isAgg105 sizeOf105 V Tk5<|R.makeFunc C U U U U<|R.done C<|X.block C.1<|X.rangeFunc C (items:=(aims b).map fun a=> [a.val]) (ro0:=ro)
  (fun k ro' q=>q=(p4, .cells [.bool false].toArray 4 (0,0))::(p3, .cells [.int .i64 (mask:Int)].toArray 3 (0,0))::(p2, .cells [.int .i64 b.w, .int .i64 b.h, .int .i64 b.f,vc,vw].toArray 105 (0,0))::tail∧∀j (h:j<(aims b).length),j<k→odd b (aims b)[j] &&& mask≠0)
  (fun x ro' q=>x= .ret∧q=(p4, .cells [.bool true].toArray 4 (0,0))::(p3, .cells [.int .i64 (mask:Int)].toArray 3 (0,0))::(p2, .cells [.int .i64 b.w, .int .i64 b.h, .int .i64 b.f,vc,vw].toArray 105 (0,0))::tail∧together b mask=true)
  rfl rfl (aims_it hJ hvv hb) (RO.le_refl _) rfl (fun x hx=>by obtain⟨a,_,rfl⟩:=List.mem_map.1 hx;rfl) ⟨rfl,fun j _ h=>absurd h (Nat.not_lt_zero _)⟩ (fun _ _ _ _ _ h=>h) ?_ ?_ ?_
 ·intro kk hk l cs H H1 ro1 q hle1 hI C hbegin hdone hjump
  obtain⟨rfl,hq⟩:=hI
  have hk':kk<(aims b).length:=by simpa using hk
  rw [List.getElem_map]
  have hga:=aims_good hb _ (List.getElem_mem hk')
  simp only [roundSlots]
  refine X.region C U U<|R.alloc C U U zeroValue109 U fun p5=>R.store C U U U U sizeOf109 U U U V Ph5<|R.done C<|hbegin _ _ (_::_::_::_::tail)<|X.block C.1<|Xs C<|Xd C fun hok=>D5 C 0 hok U U isAgg105 sizeOf105 V Tk5<|D5 C 1 hok U U isAgg109 sizeOf109 V Tk5<|D1 C 3 hok U U isAgg3 V U<|De 2 (some 11) [true,false,false] hok (fun _ _ A hk=>?_)
  refine R.callP C U (A.w U U) (A.x U U) (A.s U U) (odd_c hJ (hvv.mono hle1) hb _ hga) (hk _ _ ⟨(QFs.cons (QF.of U (fun _ _ A h=>R.loadOne C U (A.w U U) (A.x U U) isAgg3 V U h)) QFs.nil), ?_⟩)
  refine Di C 4 hok U U U U U (b_and (Nat.lt_of_lt_of_le (maskOf_lt _ _) (Nat.pow_le_pow_right O (by have:=hb.nw;omega))) hm)<|Di C 5 hok U U U U U b_eql<|D.done C hok Kr<|X.cond C.1 U (fun hz=>?_) (fun hz=>?_)
  ·refine Xr C U U<|R.store C U U U U sizeOf4 U U U V (.here .nil)<|R.done C<|X.drop C.1 (own':=_::_::_::(tail++H1)) (List.sublist_cons_self _ _)<|hjump _ _ _ _ (_::_::_::tail) (RO.le_refl _) trivial ⟨rfl,rfl, ?_⟩
   simp only [together,List.any_eq_true]
   exact⟨_,List.getElem_mem hk',by simpa using hz⟩
  ·refine X.skip C.1<|X.inBlock C.1<|X.drop C.1 (own':=_::_::_::(tail++H1)) (List.sublist_cons_self _ _)<|hdone _ _ (_::_::_::tail) (RO.le_refl _) ⟨rfl,fun j h hj=>?_⟩
   by_cases e:j=kk
   ·subst e;simpa using hz
   ·exact hq j h O
 ·rintro r ro' q' hl ⟨rfl,hq⟩
  refine X.inBlock C.1<|Xr C U U<|R.store C U U U U sizeOf4 U U U V (.here .nil)<|R.done C<|X.retM C U U func126 U (.cons V (.nil)) (by exact(.one U isAgg4 V U .nil))<|Hr hret hl ?_
  have:together b mask=false:=by
   simp only [together,List.any_eq_false]
   intro a ha
   obtain⟨j,hj,rfl⟩:=List.mem_iff_getElem.1 ha
   simpa using hq j hj (by simpa using hj)
  rw [this];rfl
 ·rintro r x ro' q' hl ⟨rfl,rfl,ht⟩
  refine X.retM C U U func126 U (.cons V (.nil)) (by exact(.one U isAgg4 V U .nil))<|Hr hret hl ?_
  rw [ht];rfl
end Go.Lg.B
namespace Go.Lg.B
open Go Go.Conc Go.Lg Go.Proofs Go.Proofs.Tryz
variable {k:Nat}
theorem perm_in(A B T H:List (Nat×Obj)):(A++((B++T)++H)).Perm (B++(A++(T++H))):=by
 rw [List.append_assoc B];exact perm_mid A B (T++H)
def okMask(b:Bk)(a:Aim)(m:Nat):Bool:=andNot (odd b a) m==0 && (m &&& sureM b==0 && decide (((listOf m).length:Int)≤b.f))
def lots(b:Bk)(a:Aim)(n m:Nat):List Lot:=((ups n m).filter (okMask b a)).map fun k=>⟨a,k⟩
def cases(b:Bk):List Lot:=(aims b).flatMap fun a=>lots b a 0 (2^b.ws.length)
def caseIx(b:Bk)(k:Nat):Nat:=(((aims b).take k).flatMap fun a=>lots b a 0 (2^b.ws.length)).length
theorem caseIx_all(b:Bk):caseIx b (aims b).length=(cases b).length:=by simp [caseIx,cases]
theorem caseIx_succ(b:Bk)(h:k<(aims b).length):caseIx b (k+1)=caseIx b k+(lots b (aims b)[k] 0 (2^b.ws.length)).length:=by
 simp only [caseIx,List.take_succ_eq_append_getElem h,List.flatMap_append,List.length_append,List.flatMap_cons,List.flatMap_nil,List.append_nil]
theorem caseSeg(b:Bk)(h:k<(aims b).length):Seg ((cases b).map fun c=> [c.val]) (caseIx b k) (lots b (aims b)[k] 0 (2^b.ws.length)) Lot.val∧caseIx b (k+1)≤(cases b).length:=by
 have e:aims b=(aims b).take k++(aims b)[k]::(aims b).drop (k+1):=by rw [←List.drop_eq_getElem_cons h,List.take_append_drop]
 have e2:cases b=(((aims b).take k).flatMap fun a=>lots b a 0 (2^b.ws.length))++(lots b (aims b)[k] 0 (2^b.ws.length)++((aims b).drop (k+1)).flatMap fun a=>lots b a 0 (2^b.ws.length)):=by
  conv=>lhs;rw [cases,e]
  rw [List.flatMap_append,List.flatMap_cons]
 have hs:=Seg.all (cases b) Lot.val
 constructor
 ·have h1:Seg ((cases b).map fun c=> [c.val]) 0 ((((aims b).take k).flatMap fun a=>lots b a 0 (2^b.ws.length))++(lots b (aims b)[k] 0 (2^b.ws.length)++((aims b).drop (k+1)).flatMap fun a=>lots b a 0 (2^b.ws.length))) Lot.val:=by
   rw [←e2];exact hs
  have:=h1.split.2.split.1
  rwa [Nat.zero_add] at this
 ·rw [caseIx_succ b h,e2]
  simp only [List.length_append,caseIx]
  omega
variable {main:Bool}{J:Goroutine→Mem→Prop}(hJ:Closed prog main J)
include hJ
theorem cases_it{b:Bk}{v:Value}{ro:RO}(hv:BkV ro v b)(hb:b.good):Iter prog J (.func (.func 86) [v].toArray #[]) ((cases b).map fun c=> [c.val]) ro:=by
 intro yv I E hyf hmono hy ro0 p0 hle hI0
 have hvv:=hv
 obtain⟨vc,vw,rfl,hc,hw⟩:=hv
 obtain⟨wb,wc,rfl⟩:=hw.form
 have hnw:=hb.nw
 have hpw:2^b.ws.length<2^63:=pow62 O
 have hodd:∀a,odd b a<2^63:=fun a=>maskOf_lt63 _ O
 have hsure:sureM b<2^63:=maskOf_lt63 _ O
 refine CallV.intro (first:= [_]) (vs:= [yv]) (cap:= []) hJ Kr fun c cs tail hret=>enter_X (n:=50) func86 U U (Nl U) ?_
 have C:Ctx prog main J (bf 86 .normal):=⟨hJ,by decide⟩
 refine Xr C U U<|R.box C U U U U fun p2=>R.box C U U U (fnV.cells hyf) fun p3=>R.done C<|Xr C U U<|R5 C U U isAgg105 sizeOf105 V Tk5<|R.callP C U U U U (sure_c hJ (hvv.mono hle) hnw)<|R.alloc C U U zeroValue3 U fun p4=>R.store C U U U U sizeOf3 U U U V (.here .nil)<|R.done C<|Xr C U U<|R5 C U U isAgg105 sizeOf105 V Tk5<|R.makeFunc C U U U U<|R.done C<|X.block C.1<|X.rangeFunc C (items:=(aims b).map fun a=> [a.val]) (ro0:=ro)
  (fun k ro' q=>∃q0,q=(p4, .cells [.int .i64 (sureM b:Int)].toArray 3 (0,0))::(p3, .cells [yv].toArray 136 (0,0))::(p2, .cells [.int .i64 b.w, .int .i64 b.h, .int .i64 b.f,vc, .slice wb b.ws.length wc].toArray 105 (0,0))::(q0++tail)∧ro0.le ro'∧I (caseIx b k) ro' q0)
  (fun x ro' q=>x= .ret∧∃q0,q=(p4, .cells [.int .i64 (sureM b:Int)].toArray 3 (0,0))::(p3, .cells [yv].toArray 136 (0,0))::(p2, .cells [.int .i64 b.w, .int .i64 b.h, .int .i64 b.f,vc, .slice wb b.ws.length wc].toArray 105 (0,0))::(q0++tail)∧ro0.le ro'∧E ro' q0)
  rfl rfl (aims_it hJ hvv hb) hle rfl (fun x hx=>by obtain⟨a,_,rfl⟩:=List.mem_map.1 hx;rfl) ⟨p0,rfl,RO.le_refl _,by simpa [caseIx] using hI0⟩ (fun k r r' q hl ⟨q0,e,h1,h2⟩=>⟨q0,e,RO.le_trans h1 hl,hmono _ _ _ _ hl h2⟩) ?_ ?_ ?_
 ·intro kk hk l cs H H1 ro1 q hle1 hI C hbegin hdone hjump
  obtain⟨q0,rfl,hle0,hI⟩:=hI
  have hk':kk<(aims b).length:=by simpa using hk
  rw [List.getElem_map]
  have hga:=aims_good hb _ (List.getElem_mem hk')
  have hix:=caseIx_succ b hk'
  obtain⟨hsg,hixl⟩:=caseSeg b hk'
  generalize(aims b)[kk]=a at hga hix hsg
  simp only [roundSlots]
  refine X.region C U U<|R.alloc C U U zeroValue109 U fun p5=>R.store C U U U U sizeOf109 U U U V Ph5<|R.done C<|hbegin _ _ (_::_::_::_::(q0++tail))<|X.block C.1<|X.scope C.1<|Xr C U U<|R5 C U U isAgg105 sizeOf105 V Tk5<|R5 C U U isAgg109 sizeOf109 V Tk5<|R.callP C U U U U (odd_c hJ (hvv.mono hle1) hb _ hga)<|Ad C U U<|Xs C<|X.label C.1<|Xr C U U<|Rf C 0 U U runUnderlying105 U sizeOf25<|Rf C 4 U U runUnderlying25 U sizeOf23<|Rl C U U isAgg23 V U<|Rn C U U runUnderlying23<|R.shift C U U U U (b_shlN O O)<|Rm C U U<|R.done C<|X.block C.1 ?_
  refine X.loopI (ι:=Nat×Nat×List (Nat×Obj)×RO×Nat) C.1 (fun s=>s.1+s.2.1=2^b.ws.length∧ro1.le s.2.2.2.1∧I s.2.2.2.2 s.2.2.2.1 s.2.2.1∧Seg ((cases b).map fun c=> [c.val]) s.2.2.2.2 (lots b a s.1 s.2.1) Lot.val∧
    s.2.2.2.2+(lots b a s.1 s.2.1).length=caseIx b (kk+1))
   (fun s=> [(2, .pointer (some ⟨p2,0,none⟩)),(3, .pointer (some ⟨p3,0,none⟩)),(4, .pointer (some ⟨p4,0,none⟩)),(5, .pointer (some ⟨p5,0,none⟩)),(6, .int .i64 (odd b a:Int)),(20, .int .i64 ((2^b.ws.length:Nat):Int)),(21, .int .i64 (s.1:Int))])
   (fun s=>⟨s.2.2.2.1,(p5, .cells a.cells.toArray 109 (0,0))::(p4, .cells [.int .i64 (sureM b:Int)].toArray 3 (0,0))::(p3, .cells [yv].toArray 136 (0,0))::(p2, .cells [.int .i64 b.w, .int .i64 b.h, .int .i64 b.f,vc, .slice wb b.ws.length wc].toArray 105 (0,0))::((s.2.2.1++tail)++H1)⟩) (fun s=>s.2.1) (0,2^b.ws.length,q0,ro1,caseIx b kk)
   ⟨by simp,RO.le_refl _,hI,hsg,hix.symm⟩ rfl ⟨U,U,U,U,U,U,U,trivial⟩ fun s hs hnext=>?_
  obtain⟨n,m,q1,roc,kc⟩:=s
  obtain⟨h1,h2,h3,h4,h5⟩:=hs
  simp only at h1 h2 h3 h4 h5 hnext⊢
  refine Xr C U U<|R.int C U U U U b_lss<|R.done C<|Xs C<|Xk C U (fun hlt=>?_) (fun hlt=>?_)
  ·obtain⟨m',rfl⟩:∃m',m=m'+1:=⟨m-1,O⟩
   have hn63:n<2^63:=O
   have hcons:lots b a n (m'+1)=if okMask b a n then⟨a,n⟩::lots b a (n+1) m' else lots b a (n+1) m':=by
    simp only [lots,ups,List.filter_cons];split<;>rfl
   refine X.skip C.1<|Xs C<|X.block C.1<|Xr C U U<|Rm C U U<|Ad C U U<|Xs C<|Xs C<|Xd C fun hok=>Dm C 0 hok U U U<|Dm C 1 hok U U U<|Di C 2 hok U U U U U (b_andNot (hodd a) hn63)<|Di C 3 hok U U U U U b_neq<|Dm C 4 hok U U U<|D.fix (t:=28) U (fun g1=>?_) (fun g1=>?_)
   ·refine Du C 5 hok U<|Du C 6 hok U<|Du C 7 hok U<|Du C 8 hok U<|Dp 9 hok (fun _ _ _ A h=>R.pickT C U (A.w U U) (A.x U U) (A.x U U) h)<|Dm C 10 hok U U U<|Du C 11 hok U<|Du C 12 hok U<|Du C 13 hok U<|Du C 14 hok U<|Du C 15 hok U<|Du C 16 hok U<|Du C 17 hok U<|Dp 18 hok (fun _ _ _ A h=>R.pickT C U (A.w U U) (A.x U U) (A.x U U) h)<|D.done C hok Kr<|X.cond C.1 U (fun _=>?_) (fun h=>nomatch h)
    refine X.exit C.1 U<|X.region C U U<|Ra C U U U<|Rm C U U<|R.done C ?_
    have hok:okMask b a n=false:=by simp only [okMask];simp at g1;simp [g1]
    rw [hcons,hok] at h4 h5
    refine X.weaken ?_ (hnext (n+1,m',q1,roc,kc) ⟨?_,h2,h3,h4,h5⟩ (Nat.lt_succ_self _))
    ·exact⟨rfl,rfl,rfl,rfl,rfl,rfl,by simp [look],trivial⟩
    ·simp only;omega
   ·refine Dm C 5 hok U U U<|D1 C 6 hok U U isAgg3 V U<|Di C 7 hok U U U U U (b_and hn63 hsure)<|Di C 8 hok U U U U U b_neq<|Dp 9 hok (fun _ _ _ A h=>R.pickF C U (A.w U U) (A.x U U) (A.x U U) h)<|Dm C 10 hok U U U<|D.fix (t:=34) U (fun g2=>?_) (fun g2=>?_)
    ·refine Du C 11 hok U<|Du C 12 hok U<|Du C 13 hok U<|Du C 14 hok U<|Du C 15 hok U<|Du C 16 hok U<|Du C 17 hok U<|Dp 18 hok (fun _ _ _ A h=>R.pickT C U (A.w U U) (A.x U U) (A.x U U) h)<|D.done C hok Kr<|X.cond C.1 U (fun _=>?_) (fun h=>nomatch h)
     refine X.exit C.1 U<|X.region C U U<|Ra C U U U<|Rm C U U<|R.done C ?_
     have hok:okMask b a n=false:=by simp only [okMask];simp at g1 g2;simp [g1,g2]
     rw [hcons,hok] at h4 h5
     refine X.weaken ?_ (hnext (n+1,m',q1,roc,kc) ⟨?_,h2,h3,h4,h5⟩ (Nat.lt_succ_self _))
     ·exact⟨rfl,rfl,rfl,rfl,rfl,rfl,by simp [look],trivial⟩
     ·simp only;omega
    ·refine Dm C 11 hok U U U<|Df (off':=0) C 14 hok U U U runUnderlying105 U sizeOf25 U<|Df (off':=2) C 15 hok U U U runUnderlying25 U sizeOf3 U<|D1 C 16 hok U U isAgg3 V U<|De 12 (some 36) [true,false] hok (fun _ _ A hk=>?_)
     refine R.callR C U (A.w U U) (A.x U U) (A.s U U) (list_c hJ hn63) fun v' ro' hle' hls'=>hk _ _ ⟨(QFs.cons (QF.of U (fun _ _ A h=>R.loadOne C U (A.w U U) (A.x U U) isAgg3 V U h)) QFs.nil), ?_⟩
     obtain⟨lb,lc,rfl⟩:=hls'.form
     refine Ds C 13 hok U U runUnderlying28<|Di C 17 hok U U U U U b_gtr<|Dp 18 hok (fun _ _ _ A h=>R.pickF C U (A.w U U) (A.x U U) (A.x U U) h)<|D.done C hok Kr<|X.cond C.1 U (fun g3=>?_) (fun g3=>?_)
     ·refine X.exit C.1 U<|X.region C U U<|Ra C U U U<|Rm C U U<|R.done C ?_
      have hok:okMask b a n=false:=by simp only [okMask];simp at g3;simp;intro _ _;omega
      rw [hcons,hok] at h4 h5
      refine X.weaken ?_ (hnext (n+1,m',q1,ro',kc) ⟨?_,RO.le_trans h2 hle',hmono _ _ _ _ hle' h3,h4,h5⟩ (Nat.lt_succ_self _))
      ·exact⟨rfl,rfl,rfl,rfl,rfl,rfl,by simp [look],trivial⟩
      ·simp only;omega
     ·have hok:okMask b a n=true:=by simp only [okMask];simp at g1 g2 g3;simp [g1,g2];omega
      rw [hcons,hok] at h4 h5
      simp only [if_true] at h4 h5
      have hki:((cases b).map fun c=> [c.val])[kc]? =some [Lot.val ⟨a,n⟩]:=h4 0 (Nat.succ_pos _)
      have hkk:kc<((cases b).map fun c=> [c.val]).length:=by
       have:=(List.getElem?_eq_some_iff.1 hki).1;exact this
      have hkg:((cases b).map fun c=> [c.val])[kc]= [Lot.val ⟨a,n⟩]:=by rw [List.getElem?_eq_getElem hkk] at hki;exact Option.some.inj hki
      have hyk:=hy kc hkk ro' q1 (RO.le_trans hle1 (RO.le_trans h2 hle')) (hmono _ _ _ _ hle' h3)
      rw [hkg] at hyk
      have h4':Seg ((cases b).map fun c=> [c.val]) (kc+1) (lots b a (n+1) m') Lot.val:=(Seg.split (A:= [⟨a,n⟩]) h4).2
      refine X.skip C.1<|Xr C U U<|Rl C U U isAgg136 V U<|R5 C U U isAgg109 sizeOf109 V Tk5<|Rm C U U ?_;refine R.build C U U U zeroValue111 U runUnderlying111 Kr (Fills.part U U sizeOf109 U Ph5 (Fills.part U U sizeOf3 U (.skip (.skip (.skip (.skip (.skip (.here .nil)))))) .nil))<|R.perm C.1 (perm_in [_,_,_,_] q1 tail H1)<|R.call C U U U U U hyk fun v ro2 pre' hle2 hp=>?_
      rcases hp with⟨rfl,hp⟩|⟨rfl,hp⟩
      ·
       refine R.not C U U U<|R.fixv (t:=48) (v':= .bool false) U U<|R.done C<|X.cond C.1 U (fun h=>nomatch h) (fun _=>?_)
       refine X.skip C.1<|X.inBlock C.1<|X.region C U U<|Ra C U U U<|Rm C U U<|R.done C<|X.perm C.1 (perm_in [_,_,_,_] pre' tail H1).symm<|X.weaken ?_ (hnext (n+1,m',pre',ro2,kc+1) ⟨?_,RO.le_trans h2 (RO.le_trans hle' hle2),hp,h4', ?_⟩ (Nat.lt_succ_self _))
       ·exact⟨rfl,rfl,rfl,rfl,rfl,rfl,by simp [look],trivial⟩
       ·simp only;omega
       ·simp only [List.length_cons] at h5⊢;omega
      ·
       refine R.not C U U U<|R.fixv (t:=48) (v':= .bool true) U U<|R.done C<|X.cond C.1 U (fun _=>?_) (fun h=>nomatch h)
       refine X.perm C.1 (perm_in [_,_,_,_] pre' tail H1).symm<|X.drop C.1 (own':=_::_::_::((pre'++tail)++H1)) (List.sublist_cons_self _ _) ?_
       exact hjump _ _ _ _ (_::_::_::(pre'++tail)) (RO.le_trans h2 (RO.le_trans hle' hle2)) trivial ⟨rfl,pre',rfl,RO.le_trans hle0 (RO.le_trans h2 (RO.le_trans hle' hle2)),hp⟩
  ·obtain rfl:m=0:=by omega
   refine X.exit C.1 U<|X.inScope C.1<|X.inBlock C.1<|X.drop C.1 (own':=_::_::_::((q1++tail)++H1)) (List.sublist_cons_self _ _)<|hdone _ _ (_::_::_::(q1++tail)) h2 ⟨q1,rfl,RO.le_trans hle0 h2, ?_⟩
   simp only [lots,ups,List.filter_nil,List.map_nil,List.length_nil,Nat.add_zero] at h5
   rw [←h5];exact h3
 ·rintro r ro' q' hl ⟨q0,rfl,hl0,hI⟩
  refine X.inBlock C.1<|X.fallM C U U func86 U (.cons V .nil) (by exact .nil)<|hret _ _ q0 _ hl0 ⟨rfl, .inl ?_⟩ Vs
  rw [List.length_map] at hI⊢
  rw [←caseIx_all];exact hI
 ·rintro r x ro' q' hl ⟨rfl,q0,rfl,hl0,hE⟩
  refine X.retM C U U func86 U (.cons V .nil) (by exact .nil) ?_
  exact hret _ _ q0 _ hl0 ⟨rfl, .inr hE⟩ Vs
end Go.Lg.B
namespace Go.Lg.B
open Go Go.Conc Go.Lg Go.Proofs Go.Proofs.Tryz
variable {b:Bk}{ro:RO}
instance : Inhabited Aim := ⟨⟨default, 0, 0, 0⟩⟩
instance : Inhabited Lot := ⟨⟨default, 0⟩⟩
abbrev LsL(ro:RO)(v:Value)(xs:List Lot):Prop:=Ls Lot.cells 6 ro v xs
theorem rz_len:∀ (m:Nat) (n:Int),(rz n m).length=m
 |0,_=>rfl
 |m+1,n=>by simp [rz,rz_len m]
theorem ups_len:∀ (m n:Nat),(ups n m).length=m
 |0,_=>rfl
 |m+1,n=>by simp [ups,ups_len m]
theorem flat_le{α β:Type}{f:α→List β}{c:Nat}:∀ {l:List α},(∀x∈l,(f x).length≤c)→(l.flatMap f).length≤l.length*c
 | [],_=>by simp
 |x::l,h=>by
  have h1:=h x List.mem_cons_self
  have h2:=flat_le (fun y hy=>h y (List.mem_cons_of_mem _ hy))
  simp only [List.flatMap_cons,List.length_append,List.length_cons,Nat.add_mul,Nat.one_mul];omega
theorem offs_le:∀ (l:List Rc) (i:Nat) (a:Aim),(∀x∈l,x.fine=true)→(offs l i a).length≤7^l.length
 | [],_,_,_=>by simp [offs]
 |x::l,i,a,h=>by
  have hx:=h x List.mem_cons_self
  simp only [Rc.fine,Bool.and_eq_true] at hx
  have hb:=isReach_bd hx.1
  have h1:=flat_le (l:=rz x.lo (x.hi+1-x.lo).toNat) (f:=fun n=>offs l (i+1) (a.set i n)) (c:=7^l.length) (fun n _=>offs_le l (i+1) _ (fun y hy=>h y (List.mem_cons_of_mem _ hy)))
  rw [rz_len] at h1
  have h2:(x.hi+1-x.lo).toNat*7^l.length≤7*7^l.length:=Nat.mul_le_mul_right _ O
  simp only [offs,List.length_cons,Nat.pow_succ]
  omega
theorem aims_le(hb:b.good):(aims b).length≤16807:=by
 have hw:=hb.w
 have hh:=hb.h
 have hwh:b.w*b.h≤49:=by
  have:=Int.mul_le_mul hw.2 hh.2 O O;omega
 have h1:=flat_le (l:=ups 0 (b.w*b.h).toNat) (f:=fun n=>offs b.cs 0 (aimAt b n)) (c:=343) (fun n _=>Nat.le_trans (offs_le _ _ _ hb.cs) (Nat.pow_le_pow_right O hb.nc.2))
 rw [ups_len] at h1
 have h2:(b.w*b.h).toNat*343≤49*343:=Nat.mul_le_mul_right _ O
 unfold aims;omega
theorem cases_le(hb:b.good):(cases b).length≤600000:=by
 have h1:=flat_le (l:=aims b) (f:=fun a=>lots b a 0 (2^b.ws.length)) (c:=32) (fun a _=>by
  have h2:2^b.ws.length≤2^5:=Nat.pow_le_pow_right O hb.nw
  have h3:=List.length_filter_le (okMask b a) (ups 0 (2^b.ws.length))
  rw [ups_len] at h3
  simp only [lots,List.length_map];omega)
 have:=aims_le hb
 have h3:(aims b).length*32≤16807*32:=Nat.mul_le_mul_right _ this
 unfold cases;omega
def openH(b:Bk)(h:Int):Int:=if checkChart b≠0 then checkChart b else if h≠0 then h else if cases b= [] then 9 else 0
def OpenV(ro:RO)(b:Bk)(h:Int)(vc vw w:Value):Prop:=
 (openH b h≠0∧w= .tuple [.agg [.int .i64 0, .int .i64 0, .int .i64 0, .slice none 0 0, .slice none 0 0, .slice none 0 0].toArray, .int .i64 (openH b h)].toArray)∨
 (openH b h=0∧∃vl,LsL ro vl (cases b)∧w= .tuple [.agg [.int .i64 b.w, .int .i64 b.h, .int .i64 b.f,vc,vw,vl].toArray, .int .i64 0].toArray)
variable {main:Bool}{J:Goroutine→Mem→Prop}(hJ:Closed prog main J)
include hJ
theorem cases_c{v:Value}(he:Env ro)(hv:BkV ro v b)(hs:b.short):CallR prog J (fnv 26) [v] ro (fun w _=>w= .tuple [.int .i64 (if checkChart b≠0 then 0 else((cases b).length:Int)), .int .i64 (checkChart b)].toArray):=by
 have hvv:=hv
 obtain⟨vc,vw,rfl,hc,hw⟩:=hv
 refine CallR.intro hJ Kr fun c cs tail hret=>enter_X (n:=18) func26 U U (Nl U) ?_
 have C:Ctx prog main J (bf 26 .normal):=⟨hJ,by decide⟩
 refine Xr C U U<|R.box C U U U U fun p1=>R.asg C U U U<|Ad C U U<|Xs C<|Xr C U U<|R5 C U U isAgg25 sizeOf25 V Tk5<|R.callP C U U U U (checkChart_c hJ (by assumption) (by assumption) (by assumption))<|Ad C U U<|Xr C U U<|Rm C U U<|R.int C U U U U b_neq<|R.done C<|X.cond C.1 U (fun hh=>?_) (fun hh=>?_)
 ·refine Xr C U U<|Rm C U U<|R.asg C U U U<|Ad C U U<|X.ret C U U func26 U (by exact(.tmp U (.tmp U .nil)))<|Hr hret (RO.le_refl _) ?_
  simp at hh;simp [hh,retVal]
 ·simp at hh
  have hb:=good_iff.1 hh
  have hcl:=cases_le hb
  refine X.skip C.1<|Xr C U U<|R.alloc C U U zeroValue3 U fun p5=>R.store C U U U U sizeOf3 U U U V (.here .nil)<|R.done C<|Xs C<|Xr C U U<|R5 C U U isAgg25 sizeOf25 V Tk5 ?_;refine R.build C U U U zeroValue105 U runUnderlying105 Kr (Fills.part U U sizeOf25 U Ph5 .nil)<|R.makeFunc C U U U U<|R.done C<|X.block C.1<|X.rangeFunc C (items:=(cases b).map fun c=> [c.val]) (ro0:=ro)
   (fun k ro' q=>q=(p5, .cells [.int .i64 (k:Int)].toArray 3 (0,0))::(p1, .cells [.int .i64 b.w, .int .i64 b.h, .int .i64 b.f,vc,vw].toArray 25 (0,0))::tail)
   (fun x ro' q=>False)
   rfl rfl (cases_it hJ hvv hb) (RO.le_refl _) rfl (fun x hx=>by obtain⟨a,_,rfl⟩:=List.mem_map.1 hx;rfl) rfl (fun _ _ _ _ _ h=>h) ?_ ?_ ?_
  ·rintro kk hk l cs H H1 ro1 q hle1 rfl C hbegin hdone hjump
   have hk':kk<(cases b).length:=by simpa using hk
   rw [List.getElem_map]
   simp only [roundSlots]
   refine X.skip C.1<|hbegin _ _ (_::_::tail)<|X.block C.1<|X.region C U U<|Rl C U U isAgg3 V U<|Ra C U U U<|R.store C U U U U sizeOf3 U U U V (.here .nil)<|R.done C<|X.inBlock C.1 ?_
   exact hdone _ _ (_::_::tail) (RO.le_refl _) rfl
  ·rintro r ro' q' hl rfl
   refine X.inBlock C.1<|Xr C U U<|Rl C U U isAgg3 V U<|R.asg C U U U<|Ad C U U<|X.retM C U U func26 U (.cons V (.nil)) (by exact(.tmp U (.tmp U .nil)))<|Hr hret hl ?_
   simp [hh,retVal]
  ·rintro r x ro' q' hl hf
   exact hf.elim
theorem open_c(he:Env ro){vc vw:Value}(hc:Ls Rc.cells 2 ro vc b.cs)(hw:Ls Wt.cells 5 ro vw b.ws)(hs:b.short)(fv:Value)(h:Int)(hf:b.good→CallP prog J fv [.agg [.int .i64 b.w, .int .i64 b.h, .int .i64 b.f,vc,vw].toArray] ro (.int .i64 h)):
  CallR prog J (fnv 93) [.agg [.int .i64 b.w, .int .i64 b.h, .int .i64 b.f,vc,vw].toArray,fv] ro (fun w ro'=>OpenV ro' b h vc vw w):=by
 have hv:BkV ro (.agg [.int .i64 b.w, .int .i64 b.h, .int .i64 b.f,vc,vw].toArray) b:=⟨vc,vw,rfl,hc,hw⟩
 obtain⟨cb,cc,rfl⟩:=hc.form
 obtain⟨wb,wc,rfl⟩:=hw.form
 refine CallR.intro hJ Kr fun c cs tail hret=>enter_X (n:=43) func93 U U (Nl U) ?_
 have C:Ctx prog main J (bf 93 .normal):=⟨hJ,by decide⟩
 refine Xr C U U<|R.box C U U U U fun p2=>R.alloc C U U zeroValue126 U fun p4=>Ad C U U<|Xs C<|Xr C U U<|R5 C U U isAgg25 sizeOf25 V Tk5<|R.callP C U U U U (checkChart_c hJ (by assumption) (by assumption) (by assumption))<|Ad C U U<|Xr C U U<|Rm C U U<|R.int C U U U U b_neq<|R.done C<|X.cond C.1 U (fun hh=>?_) (fun hh=>?_)
 ·simp at hh
  refine Xr C U U ?_;refine R.build C U U U zeroValue126 U runUnderlying126 Kr .nil<|Rm C U U<|R.store C U U U U sizeOf126 U U U V Ph6<|Ad C U U<|X.ret C U U func93 U (by exact(.agg U isAgg126 sizeOf126 V Tk6 (.tmp U .nil)))<|Hr hret (RO.le_refl _)<|.inl ⟨by simp [openH,hh],by simp [openH,hh,retVal]⟩
 ·simp at hh
  have hb:=good_iff.1 hh
  have hcl:=cases_le hb
  refine X.skip C.1<|Xr C U U<|R5 C U U isAgg25 sizeOf25 V Tk5 ?_;refine R.build C U U U zeroValue105 U runUnderlying105 Kr (Fills.part U U sizeOf25 U Ph5 .nil) ?_;refine R.build C U U U zeroValue126 U runUnderlying126 Kr (Fills.part U U sizeOf105 U Ph5 .nil)<|R.alloc C U U zeroValue126 U fun p7=>R.store C U U U U sizeOf126 U U U V Ph6<|R.done C<|Xs C<|Xr C U U<|Rm C U U<|Rf C 0 U U runUnderlying126 U sizeOf105<|R5 C U U isAgg105 sizeOf105 V Tk5<|R.callP C U U U U (hf hb)<|Ad C U U<|Xr C U U<|Rm C U U<|R.int C U U U U b_neq<|R.done C<|X.cond C.1 U (fun hq=>?_) (fun hq=>?_)
  ·simp at hq
   refine Xr C U U ?_;refine R.build C U U U zeroValue126 U runUnderlying126 Kr .nil<|Rm C U U<|R.store C U U U U sizeOf126 U U U V Ph6<|Ad C U U<|X.ret C U U func93 U (by exact(.agg U isAgg126 sizeOf126 V Tk6 (.tmp U .nil)))<|Hr hret (RO.le_refl _)<|.inl ⟨by simp [openH,hh,hq],by simp [openH,hh,hq,retVal]⟩
  ·simp at hq
   refine X.skip C.1<|Xs C<|Xr C U U<|Rf C 0 U U runUnderlying126 U sizeOf105<|R5 C U U isAgg105 sizeOf105 V Tk5<|R.makeFunc C U U U U<|R.done C<|X.block C.1<|X.rangeFunc C (items:=(cases b).map fun c=> [c.val]) (ro0:=ro)
    (fun k ro' q=>∃v' own0,Buf 111 6 tail v' (((cases b).take k).flatMap Lot.cells) own0∧q=(p7, .cells [.int .i64 b.w, .int .i64 b.h, .int .i64 b.f, .slice cb b.cs.length cc, .slice wb b.ws.length wc,v'].toArray 126 (0,0))::(p4, .cells [.int .i64 0, .int .i64 0, .int .i64 0, .slice none 0 0, .slice none 0 0, .slice none 0 0].toArray 126 (0,0))::(p2, .cells [.int .i64 b.w, .int .i64 b.h, .int .i64 b.f, .slice cb b.cs.length cc, .slice wb b.ws.length wc].toArray 25 (0,0))::own0)
    (fun x ro' q=>False)
    rfl rfl (cases_it hJ hv hb) (RO.le_refl _) rfl (fun x hx=>by obtain⟨a,_,rfl⟩:=List.mem_map.1 hx;rfl) ⟨.slice none 0 0,tail,by simpa using Buf.nil,rfl⟩ (fun _ _ _ _ _ h=>h) ?_ ?_ ?_
   ·rintro kk hk l cs H H1 ro1 q hle1 ⟨v0,own0,hbuf,rfl⟩ C hbegin hdone hjump
    have hk':kk<(cases b).length:=by simpa using hk
    rw [List.getElem_map]
    simp only [roundSlots]
    refine X.region C U U<|R.alloc C U U zeroValue111 U fun p9=>R.store C U U U U sizeOf111 U U U V Ph6<|R.done C<|hbegin _ _ (_::_::_::_::own0) ?_
    have hfl:(((cases b).take kk).flatMap Lot.cells).length=kk*6:=by rw [flatMap_len Lot.len];simp;omega
    have hcl6:(((cases b)[kk]).cells).length=6:=rfl
    refine X.block C.1<|X.region C U U<|Rf C 5 U U runUnderlying126 U sizeOf124<|Rl C U U isAgg124 V U<|R5 C U U isAgg111 sizeOf111 V Tk6<|R.buildSlice C (vs:=_) U U (show pvals _ _=some (numbered 0 [_]) from rfl) U runUnderlying124 sizeOf111 zeroValue111 Dd (Cat.one U U) fun p34=>R.append2 (kk:=6) C [_,_,_,_] U U U U runUnderlying124 runUnderlying124 (fun _=>nofun) (show prog.info? 111=some Tryz.t111 by kernel_rfl) U U U Dd Dd (hbuf.app H1) U U (by(try simp only [List.length_append,List.length_cons,List.length_nil]);omega) fun v' own' hb'=>Rf C 5 U U runUnderlying126 U sizeOf124 ?_
    obtain⟨own1,rfl,hb1⟩:=hb'.unapp
    refine R.store C U U U U sizeOf124 hb'.cells1 U hb'.ones1 V (.skip (.skip (.skip (.skip (.skip (.here .nil))))))<|R.done C<|X.inBlock C.1<|X.drop C.1 (own':=_::_::_::(own1++H1)) (List.sublist_cons_self _ _)<|hdone _ _ (_::_::_::own1) (RO.le_refl _) ⟨v',own1, ?_,rfl⟩
    rw [List.take_succ_eq_append_getElem hk',List.flatMap_append,List.flatMap_cons,List.flatMap_nil,List.append_nil]
    exact hb1
   ·rintro r ro' q' hl ⟨v',own0,hbuf,rfl⟩
    have hall:(cases b).take ((cases b).map fun c=> [c.val]).length=cases b:=by simp
    rw [hall] at hbuf
    obtain⟨bs,cap,hvf⟩:=hbuf.form Dd
    rw [flatMap_len Lot.len,Nat.mul_div_cancel _ Dd] at hvf
    subst hvf
    refine X.inBlock C.1<|Xs C<|Xr C U U<|Rf C 5 U U runUnderlying126 U sizeOf124<|Rl C U U isAgg124 V U<|Rn C U U runUnderlying124<|R.int C U U U U b_eql<|R.done C<|X.cond C.1 U (fun hz=>?_) (fun hz=>?_)
    ·simp at hz
     refine Xr C U U ?_;refine R.build C U U U zeroValue126 U runUnderlying126 Kr .nil<|R.store C U U U U sizeOf126 U U U V Ph6<|Ad C U U<|X.drop C.1 (own':=_::_::_::_::tail) (.cons_cons _ (.cons_cons _ (.cons_cons _ (.cons_cons _ hbuf.sub))))<|X.retM C U U func93 U (.cons V (.nil)) (by exact(.agg U isAgg126 sizeOf126 V Tk6 (.tmp U .nil)))<|Hr hret hl ?_
     exact .inl ⟨by simp [openH,hh,hq,hz],by simp [openH,hh,hq,hz,retVal]⟩
    ·simp at hz
     refine X.skip C.1<|Xr C U U<|R5 C U U isAgg126 sizeOf126 V Tk6<|R.store C U U U U sizeOf126 U U U V Ph6<|Ad C U U<|X.finishA [_,_,_,_] C.1 Lot.len Dd hbuf fun ro2 hl2 hls=>X.retM C U U func93 U (.cons V (.nil)) (by exact(.agg U isAgg126 sizeOf126 V Tk6 (.tmp U .nil)))<|Hr hret (RO.le_trans hl hl2) ?_
     exact .inr ⟨by simp [openH,hh,hq,hz],_,hls,rfl⟩
   ·rintro r x ro' q' hl hf
    exact hf.elim
end Go.Lg.B
namespace Go.Lg.B
open Go Go.Conc Go.Lg Go.Proofs Go.Proofs.Tryz
variable {b:Bk}{ro:RO}{v:Value}{p:Nat}{t:TypeId}{fq:Nat×Nat}
def knownZ(p:Lot→Bool)(l:List Lot):Int:=if l.countP p=0 then 2 else if l.countP p=l.length then 1 else 0
theorem countP_take_succ{α:Type}(p:α→Bool){l:List α}{i:Nat}(h:i<l.length):(l.take (i+1)).countP p=(l.take i).countP p+if p l[i] then 1 else 0:=by
 rw [List.take_succ_eq_append_getElem h,List.countP_append]
 simp [List.countP_cons,List.countP_nil]
variable {main:Bool}{J:Goroutine→Mem→Prop}(hJ:Closed prog main J)
include hJ
theorem known_c{vc vw vl:Value}{L:List Lot}(hc:Ls Rc.cells 2 ro vc b.cs)(hw:Ls Wt.cells 5 ro vw b.ws)(hl:LsL ro vl L)(hL:L.length≤600000)(p:Lot→Bool)(fv:Value)(hf:∀c∈L,CallP prog J fv [c.val] ro (.bool (p c))):
  CallP prog J (fnv 100) [.agg [.int .i64 b.w, .int .i64 b.h, .int .i64 b.f,vc,vw,vl].toArray,fv] ro (.int .i64 (knownZ p L)):=by
 obtain⟨cb,cc,rfl⟩:=hc.form
 obtain⟨wb,wc,rfl⟩:=hw.form
 obtain⟨lb,lc,rfl⟩:=hl.form
 refine CallP.intro hJ Kr fun c cs tail hret=>enter_X (n:=29) func100 U U (Nl U) ?_
 have C:Ctx prog main J (bf 100 .normal):=⟨hJ,by decide⟩
 refine Xr C U U<|R.box C U U U U fun p2=>Ad C U U<|Xr C U U<|Ad C U U<|Xs C<|Xr C U U<|Rf C 5 U U runUnderlying126 U sizeOf124<|Rl C U U isAgg124 V U<|Rn C U U runUnderlying124<|Rm C U U<|R.done C<|X.block C.1<|X.loopI (ι:=Nat) C.1 (fun i=>i≤L.length) (fun i=> [(1,fv),(5, .int .i64 ((L.take i).countP p:Int)),(9, .slice lb L.length lc),(10, .int .i64 (L.length:Int)),(11, .int .i64 (i:Int)),(2, .pointer (some ⟨p2,0,none⟩))])
  (fun _=>⟨ro,(p2, .cells [.int .i64 b.w, .int .i64 b.h, .int .i64 b.f, .slice cb b.cs.length cc, .slice wb b.ws.length wc, .slice lb L.length lc].toArray 126 (0,0))::tail⟩) (fun i=>L.length-i) 0 (Nat.zero_le _) rfl ⟨U,U,U,U,U,U,trivial⟩ fun i hi hnext=>?_
 have hct:=List.countP_le_length (p:=p) (l:=L.take i)
 rw [List.length_take] at hct
 refine Xr C U U<|R.int C U U U U b_lss<|R.done C<|Xs C<|Xk C U (fun hlt=>?_) (fun hlt=>?_)
 ·have hi':i<L.length:=O
  obtain⟨pp,off,cap,l,t,fq,hsl,hrop,hsub⟩:=hl.at Lot.len O
  cases hsl
  have hct1:=countP_take_succ p hi'
  refine X.skip C.1<|Xs C<|X.block C.1<|Xr C U U<|Rx C U U U runUnderlying124 sizeOf111<|R.loadAggRo C U U U isAgg111 sizeOf111 hrop (hsub i hi')<|R.alloc C U U zeroValue111 U fun p7=>R.store C U U U U sizeOf111 U U U V Ph6<|R.done C<|Xr C U U<|Rm C U U<|R5 C U U isAgg111 sizeOf111 V Tk6<|R.callP C U U U U ((hf _ (List.getElem_mem hi')))<|R.done C<|X.cond C.1 U (fun hr=>?_) (fun hr=>?_)
  ·refine X.region C U U<|Rm C U U<|Ra C U U U<|Ad C U U<|X.inBlock C.1<|X.region C U U<|Ra C U U U<|Rm C U U<|R.done C<|X.drop C.1 (own':=_::tail) (List.sublist_cons_self _ _)<|X.weaken ?_ (hnext (i+1) O O)
   exact⟨rfl,by simp [look,hct1,hr],rfl,rfl,by simp [look],rfl,trivial⟩
  ·refine X.skip C.1<|X.inBlock C.1<|X.region C U U<|Ra C U U U<|Rm C U U<|R.done C<|X.drop C.1 (own':=_::tail) (List.sublist_cons_self _ _)<|X.weaken ?_ (hnext (i+1) O O)
   exact⟨rfl,by simp [look,hct1,hr],rfl,rfl,by simp [look],rfl,trivial⟩
 ·obtain rfl:i=L.length:=by omega
  rw [List.take_length] at hct⊢
  refine X.exit C.1 U<|Xs C<|Xr C U U<|Rm C U U<|R.done C<|X.block C.1<|Xr C U U<|R.int C U U U U b_eql<|Ad C U U<|X.cond C.1 U (fun q1=>?_) (fun q1=>?_)
  ·refine Xr C U U<|Ad C U U<|Xt C func100<|Hp hret ?_
   (simp only [beq_iff_eq,beq_eq_false_iff_ne,ne_eq] at*;simp only [retVal,knownZ];congr 1;split<;>(try split)<;>omega)
  ·refine Xr C U U<|Rf C 5 U U runUnderlying126 U sizeOf124<|Rl C U U isAgg124 V U<|Rn C U U runUnderlying124<|R.int C U U U U b_eql<|Ad C U U<|X.cond C.1 U (fun q2=>?_) (fun q2=>?_)
   ·refine Xr C U U<|Ad C U U<|Xt C func100<|Hp hret ?_
    (simp only [beq_iff_eq,beq_eq_false_iff_ne,ne_eq] at*;simp only [retVal,knownZ];congr 1;split<;>(try split)<;>omega)
   ·refine X.skip C.1<|X.inBlock C.1<|Xr C U U<|Ad C U U<|Xt C func100<|Hp hret ?_
    (simp only [beq_iff_eq,beq_eq_false_iff_ne,ne_eq] at*;simp only [retVal,knownZ];congr 1;split<;>(try split)<;>omega)
theorem at1_c(hv:BkV ro v b)(hs:b.small)(s:Sq)(hp:ro p=some (.cells s.cells.toArray t fq)):CallP prog J (.func (.func 98) #[] [.pointer (some ⟨p,0,none⟩)].toArray) [v] ro (.int .i64 (b.square s)):=by
 have hvv:=hv
 obtain⟨vc,vw,rfl,hc,hw⟩:=hv
 obtain⟨cb,cc,rfl⟩:=hc.form
 obtain⟨wb,wc,rfl⟩:=hw.form
 refine CallP.introC hJ Kr fun c cs tail hret=>enter_X (n:=7) func98 U U (Nl U) ?_
 have C:Ctx prog main J (bf 98 .normal):=⟨hJ,by decide⟩
 refine Xr C U U<|R.box C U U U U fun p2=>Ad C U U<|Xr C U U<|R5 C U U isAgg105 sizeOf105 V Tk5<|R.loadAggRo C U U U isAgg27 sizeOf27 hp Tk2<|R.callP C U U U U (square_c hJ hvv hs s)<|Ad C U U<|Xt C func98<|Hp hret ?_
 rfl
theorem at2_c(s:Sq)(hp:ro p=some (.cells s.cells.toArray t fq))(co:Lot):CallP prog J (.func (.func 101) #[] [.pointer (some ⟨p,0,none⟩)].toArray) [co.val] ro (.bool (decide (co.a.s=s))):=by
 refine CallP.introC hJ Kr fun c cs tail hret=>enter_X (n:=9) func101 U U (Nl U) ?_
 have C:Ctx prog main J (bf 101 .normal):=⟨hJ,by decide⟩
 refine Xr C U U<|R.box C U U U U fun p2=>Ad C U U<|Xr C U U<|Rf C 0 U U runUnderlying111 U sizeOf109<|Rf C 0 U U runUnderlying109 U sizeOf27<|R5 C U U isAgg27 sizeOf27 V Tk2<|R.loadAggRo C U U U isAgg27 sizeOf27 hp Tk2<|R.eqAgg (p:= [co.a.s.e,co.a.s.n]) (q:= [s.e,s.n]) C U U U U eqT27 U U Kr<|Ad C U U<|Xt C func101<|Hp hret ?_
 (obtain⟨⟨⟨ce,cn⟩,cx,cy,cz⟩,cm⟩:=co;obtain⟨se,sn⟩:=s;simp [retVal])
def told(b:Bk)(h:Int)(p:Lot→Bool):Int×Int:=if openH b h≠0 then(0,openH b h) else(knownZ p (cases b),0)
theorem at_c(he:Env ro)(hv:BkV ro v b)(hs:b.short)(s:Sq):CallR prog J (fnv 33) [v,s.val] ro (fun w _=>w= .tuple [.int .i64 (told b (b.square s) fun c=>decide (c.a.s=s)).1, .int .i64 (told b (b.square s) fun c=>decide (c.a.s=s)).2].toArray):=by
 obtain⟨vc,vw,rfl,hc,hw⟩:=hv
 obtain⟨cb,cc,rfl⟩:=hc.form
 obtain⟨wb,wc,rfl⟩:=hw.form
 refine CallR.intro hJ Kr fun c cs tail hret=>enter_X (n:=20) func33 U U (Nl U) ?_
 have C:Ctx prog main J (bf 33 .normal):=⟨hJ,by decide⟩
 refine Xr C U U<|R.box C U U U U fun p2=>R.box C U U U U fun p3=>R.asg C U U U<|Ad C U U<|Xr C U U<|R.persist C.1 fun ro1 hl1 hps=>?_
 have hc1:=hc.mono hl1
 have hw1:=hw.mono hl1
 refine R5 C U U isAgg25 sizeOf25 V Tk5<|R.makeFunc C U U U U<|R.callR C U U U U ((open_c hJ (he.mono hl1) hc1 hw1 hs _ (b.square s) fun hg=>at1_c hJ ⟨_,_,rfl,hc1,hw1⟩ hg.small s hps)) fun v' ro2 hl2 hp=>Rm C U U ?_
 rcases hp with⟨h0,rfl⟩|⟨h0,vl,hls,rfl⟩
 ·
  refine R.ext C U U U U<|R.ext C U U U U<|R.alloc C U U zeroValue126 U fun p6=>R.store C U U U U sizeOf126 U U U V Ph6<|Ad C U U<|Xs C<|Xr C U U<|Rm C U U<|R.int C U U U U b_neq<|R.done C<|X.cond C.1 U (fun hq=>?_) (fun hq=>?_)
  ·refine Xr C U U<|Rm C U U<|R.asg C U U U<|Ad C U U<|X.ret C U U func33 U (by exact(.tmp U (.tmp U .nil)))<|Hr hret (RO.le_trans hl1 hl2) ?_
   simp [told,h0,retVal]
  ·simp at hq;contradiction
 ·
  have hb:b.good:=by
   apply good_iff.1
   simp only [openH] at h0
   split at h0
   ·contradiction
   ·rename_i h;simpa using h
  obtain⟨lb,lc,rfl⟩:=hls.form
  refine R.ext C U U U U<|R.ext C U U U U<|R.alloc C U U zeroValue126 U fun p6=>R.store C U U U U sizeOf126 U U U V Ph6<|Ad C U U<|Xs C<|Xr C U U<|Rm C U U<|R.int C U U U U b_neq<|R.done C<|X.cond C.1 U (fun hq=>?_) (fun hq=>?_)
  ·simp at hq
  ·refine X.skip C.1<|Xr C U U<|R5 C U U isAgg126 sizeOf126 V Tk6<|R.makeFunc C U U U U<|R.callP C U U U U (known_c hJ (hc1.mono hl2) (hw1.mono hl2) hls (cases_le hb) (fun c=>decide (c.a.s=s)) _ (fun c _=>at2_c hJ s (hl2 _ _ hps) c))<|R.asg C U U U<|Ad C U U<|X.ret C U U func33 U (by exact(.tmp U (.tmp U .nil)))<|Hr hret (RO.le_trans hl1 hl2) ?_
   simp [told,h0,retVal]
end Go.Lg.B
namespace Go.Lg.B
open Go Go.Conc Go.Lg Go.Proofs Go.Proofs.Tryz
variable {b:Bk}{v:Value}{ro:RO}{p:Nat}{t:TypeId}{fq:Nat×Nat}
theorem cases_mem{c:Lot}(h:c∈cases b):c.a∈aims b∧c.m<2^b.ws.length∧okMask b c.a c.m=true:=by
 simp only [cases,List.mem_flatMap,lots,List.mem_map,List.mem_filter] at h
 obtain⟨a,ha,k,⟨hk,hok⟩,rfl⟩:=h
 exact⟨ha,by have:=ups_mem hk;show k<_;omega,hok⟩
theorem openH_good{h:Int}(h0:openH b h=0):b.good∧h=0∧cases b≠ []:=by
 simp only [openH] at h0
 split at h0
 ·contradiction
 ·rename_i h1
  split at h0
  ·contradiction
  ·rename_i h2
   split at h0
   ·cases h0
   ·rename_i h3
    exact⟨good_iff.1 (by simpa using h1),by simpa using h2,h3⟩
theorem there_zero{x:Bool}:there x=0↔x=true:=by cases x<;>simp [there]
theorem bit_cases(a n:Nat):(a>>>n &&& 1:Nat)=if a.testBit n then 1 else 0:=by
 rw [Nat.testBit_eq_decide_div_mod_eq,Nat.shiftRight_eq_div_pow,Nat.and_one_is_mod]
 have:a/2^n%2<2:=Nat.mod_lt _ O
 by_cases h:a/2^n%2=1
 ·simp [h]
 ·have:a/2^n%2=0:=O
  simp [this]
def cnt(L:List Lot)(i:Nat):Nat:=L.countP fun c=>c.m.testBit i
def askUpto(L:List Lot):Nat→Int×Int
 |0=>(-1,L.length)
 |i+1=>if max (cnt L i:Int) (L.length-cnt L i)<(askUpto L i).2 then((i:Int),max (cnt L i:Int) (L.length-cnt L i)) else askUpto L i
def ask(b:Bk):Int×Int×Int:=if openH b 0≠0 then(0,0,openH b 0) else((askUpto (cases b) b.ws.length).1,(askUpto (cases b) b.ws.length).2,0)
variable {main:Bool}{J:Goroutine→Mem→Prop}(hJ:Closed prog main J)
include hJ
theorem false1_c(hv:BkV ro v b)(hs:b.small)(k:Int)(hp:ro p=some (.cells [.int .i64 k].toArray t fq)):CallP prog J (.func (.func 109) #[] [.pointer (some ⟨p,0,none⟩)].toArray) [v] ro (.int .i64 (b.witness k)):=by
 have hvv:=hv
 obtain⟨vc,vw,rfl,hc,hw⟩:=hv
 obtain⟨cb,cc,rfl⟩:=hc.form
 obtain⟨wb,wc,rfl⟩:=hw.form
 refine CallP.introC hJ Kr fun c cs tail hret=>enter_X (n:=7) func109 U U (Nl U) ?_
 have C:Ctx prog main J (bf 109 .normal):=⟨hJ,by decide⟩
 refine Xr C U U<|R.box C U U U U fun p2=>Ad C U U<|Xr C U U<|R5 C U U isAgg105 sizeOf105 V Tk5<|R.loadOneRo C U U U isAgg3 hp U<|R.callP C U U U U (witness_c hJ hvv hs k)<|Ad C U U<|Xt C func109<|Hp hret ?_
 rfl
theorem false2_c(k:Int)(hp:ro p=some (.cells [.int .i64 k].toArray t fq))(h0:0≤k)(h1:k≤62)(co:Lot)(hm:co.m<2^63):CallP prog J (.func (.func 111) #[] [.pointer (some ⟨p,0,none⟩)].toArray) [co.val] ro (.bool (co.m.testBit k.toNat)):=by
 refine CallP.introC hJ Kr fun c cs tail hret=>enter_X (n:=10) func111 U U (Nl U) ?_
 have C:Ctx prog main J (bf 111 .normal):=⟨hJ,by decide⟩
 refine Xr C U U<|R.box C U U U U fun p2=>Ad C U U<|Xr C U U<|Rf C 5 U U runUnderlying111 U sizeOf3<|Rl C U U isAgg3 V U<|R.loadOneRo C U U U isAgg3 hp U<|R.shift C U U U U (b_shrN h0 h1)<|R.int C U U U U (b_and1 (Nat.lt_of_le_of_lt (Nat.shiftRight_le _ _) hm))<|R.int C U U U U b_eql<|Ad C U U<|Xt C func111<|Hp hret ?_
 (rw [bit_one];rfl)
theorem false_c(he:Env ro)(hv:BkV ro v b)(hs:b.short)(k:Int):CallR prog J (fnv 37) [v, .int .i64 k] ro (fun w _=>w= .tuple [.int .i64 (told b (b.witness k) fun c=>c.m.testBit k.toNat).1, .int .i64 (told b (b.witness k) fun c=>c.m.testBit k.toNat).2].toArray):=by
 obtain⟨vc,vw,rfl,hc,hw⟩:=hv
 obtain⟨cb,cc,rfl⟩:=hc.form
 obtain⟨wb,wc,rfl⟩:=hw.form
 refine CallR.intro hJ Kr fun c cs tail hret=>enter_X (n:=20) func37 U U (Nl U) ?_
 have C:Ctx prog main J (bf 37 .normal):=⟨hJ,by decide⟩
 refine Xr C U U<|R.box C U U U U fun p2=>R.box C U U U U fun p3=>R.asg C U U U<|Ad C U U<|Xr C U U<|R.persist C.1 fun ro1 hl1 hps=>?_
 have hc1:=hc.mono hl1
 have hw1:=hw.mono hl1
 refine R5 C U U isAgg25 sizeOf25 V Tk5<|R.makeFunc C U U U U<|R.callR C U U U U ((open_c hJ (he.mono hl1) hc1 hw1 hs _ (b.witness k) fun hg=>false1_c hJ ⟨_,_,rfl,hc1,hw1⟩ hg.small k hps)) fun v' ro2 hl2 hp=>Rm C U U ?_
 rcases hp with⟨h0,rfl⟩|⟨h0,vl,hls,rfl⟩
 ·
  refine R.ext C U U U U<|R.ext C U U U U<|R.alloc C U U zeroValue126 U fun p6=>R.store C U U U U sizeOf126 U U U V Ph6<|Ad C U U<|Xs C<|Xr C U U<|Rm C U U<|R.int C U U U U b_neq<|R.done C<|X.cond C.1 U (fun hq=>?_) (fun hq=>?_)
  ·refine Xr C U U<|Rm C U U<|R.asg C U U U<|Ad C U U<|X.ret C U U func37 U (by exact(.tmp U (.tmp U .nil)))<|Hr hret (RO.le_trans hl1 hl2) ?_
   simp [told,h0,retVal]
  ·simp at hq;contradiction
 ·
  obtain⟨hb,hk0,_⟩:=openH_good h0
  have hkr:0≤k∧k<b.ws.length:=by
   have:=there_zero.1 hk0
   simp only [between,Bool.and_eq_true,decide_eq_true_eq] at this;omega
  have hnw:=hb.nw
  obtain⟨lb,lc,rfl⟩:=hls.form
  refine R.ext C U U U U<|R.ext C U U U U<|R.alloc C U U zeroValue126 U fun p6=>R.store C U U U U sizeOf126 U U U V Ph6<|Ad C U U<|Xs C<|Xr C U U<|Rm C U U<|R.int C U U U U b_neq<|R.done C<|X.cond C.1 U (fun hq=>?_) (fun hq=>?_)
  ·simp at hq
  ·refine X.skip C.1<|Xr C U U<|R5 C U U isAgg126 sizeOf126 V Tk6<|R.makeFunc C U U U U<|R.callP C U U U U (known_c hJ (hc1.mono hl2) (hw1.mono hl2) hls (cases_le hb) (fun c=>c.m.testBit k.toNat) _ (fun c hcm=>false2_c hJ k (hl2 _ _ hps) hkr.1 O c (Nat.lt_trans (cases_mem hcm).2.1 (pow62 O))))<|R.asg C U U U<|Ad C U U<|X.ret C U U func37 U (by exact(.tmp U (.tmp U .nil)))<|Hr hret (RO.le_trans hl1 hl2) ?_
   simp [told,h0,retVal]
omit hJ in
theorem cnt_take(L:List Lot)(i:Nat){j:Nat}(h:j<L.length):cnt (L.take (j+1)) i=cnt (L.take j) i+if L[j].m.testBit i then 1 else 0:=countP_take_succ _ h
theorem ask_c(he:Env ro)(hv:BkV ro v b)(hs:b.short):CallR prog J (fnv 58) [v] ro (fun w _=>w= .tuple [.int .i64 (ask b).1, .int .i64 (ask b).2.1, .int .i64 (ask b).2.2].toArray):=by
 have hvv:=hv
 obtain⟨vc,vw,rfl,hc,hw⟩:=hv
 obtain⟨cb,cc,rfl⟩:=hc.form
 obtain⟨wb,wc,rfl⟩:=hw.form
 refine CallR.intro hJ Kr fun c cs tail hret=>enter_X (n:=58) func58 U U (Nl U) ?_
 have C:Ctx prog main J (bf 58 .normal):=⟨hJ,by decide⟩
 refine Xr C U U<|R.box C U U U U fun p1=>R.asg C U U U<|R.asg C U U U<|Ad C U U<|Xr C U U<|R5 C U U isAgg25 sizeOf25 V Tk5<|R.callR C U U U U ((open_c hJ he hc hw hs _ 0 fun hg=>nothing_c hJ b hvv)) fun v' ro2 hl2 hp=>Rm C U U ?_
 rcases hp with⟨h0,rfl⟩|⟨h0,vl,hls,rfl⟩
 ·
  refine R.ext C U U U U<|R.ext C U U U U<|R.alloc C U U zeroValue126 U fun p5=>R.store C U U U U sizeOf126 U U U V Ph6<|Ad C U U<|Xs C<|Xr C U U<|Rm C U U<|R.int C U U U U b_neq<|R.done C<|X.cond C.1 U (fun hq=>?_) (fun hq=>?_)
  ·refine Xr C U U<|Rm C U U<|R.asg C U U U<|R.asg C U U U<|Ad C U U<|X.ret C U U func58 U (by exact(.tmp U (.tmp U (.tmp U .nil))))<|Hr hret hl2 ?_
   simp [ask,h0,retVal]
  ·simp at hq;contradiction
 ·
  obtain⟨hb,_,_⟩:=openH_good h0
  have hnw:=hb.nw
  have hcl:=cases_le hb
  obtain⟨lb,lc,rfl⟩:=hls.form
  refine R.ext C U U U U<|R.ext C U U U U<|R.alloc C U U zeroValue126 U fun p5=>R.store C U U U U sizeOf126 U U U V Ph6<|Ad C U U<|Xs C<|Xr C U U<|Rm C U U<|R.int C U U U U b_neq<|R.done C<|X.cond C.1 U (fun hq=>?_) (fun hq=>?_)
  ·simp at hq
  ·refine X.skip C.1<|Xs C<|Xd C fun hok=>Df (off':=5) C 0 hok U U U runUnderlying126 U sizeOf124 U<|D1 C 1 hok U U isAgg124 V U<|Ds C 2 hok U U runUnderlying124<|Da C 3 hok U U<|Da C 4 hok U U<|D.done C hok Kr<|Xs C<|Xr C U U<|Rf C 4 U U runUnderlying25 U sizeOf23<|Rl C U U isAgg23 V U<|Rn C U U runUnderlying23<|Rm C U U<|R.done C<|X.block C.1<|X.loopI (ι:=Nat) C.1 (fun i=>i≤b.ws.length) (fun i=> [(2, .int .i64 (askUpto (cases b) i).1),(3, .int .i64 (askUpto (cases b) i).2),(24, .int .i64 (b.ws.length:Int)),(25, .int .i64 (i:Int)),(5, .pointer (some ⟨p5,0,none⟩))])
    (fun _=>⟨ro2,(p5, .cells [.int .i64 b.w, .int .i64 b.h, .int .i64 b.f, .slice cb b.cs.length cc, .slice wb b.ws.length wc, .slice lb (cases b).length lc].toArray 126 (0,0))::(p1, .cells [.int .i64 b.w, .int .i64 b.h, .int .i64 b.f, .slice cb b.cs.length cc, .slice wb b.ws.length wc].toArray 25 (0,0))::tail⟩) (fun i=>b.ws.length-i) 0 (Nat.zero_le _) rfl ⟨U,U,U,U,U,trivial⟩ fun i hi hnext=>?_
   refine Xr C U U<|R.int C U U U U b_lss<|R.done C<|Xs C<|Xk C U (fun hlt=>?_) (fun hlt=>?_)
   ·have hi':i<b.ws.length:=O
    refine X.skip C.1<|Xs C<|X.block C.1<|Xr C U U<|Rm C U U<|Ad C U U<|Xr C U U<|Ad C U U<|Xs C<|Xr C U U<|Rf C 5 U U runUnderlying126 U sizeOf124<|Rl C U U isAgg124 V U<|Rn C U U runUnderlying124<|Rm C U U<|R.done C<|X.block C.1<|X.loopI (ι:=Nat) C.1 (fun j=>j≤(cases b).length) (fun j=> [(2, .int .i64 (askUpto (cases b) i).1),(3, .int .i64 (askUpto (cases b) i).2),(24, .int .i64 (b.ws.length:Int)),(25, .int .i64 (i:Int)),(5, .pointer (some ⟨p5,0,none⟩)),(6, .int .i64 (i:Int)),(7, .int .i64 (cnt ((cases b).take j) i:Int)),(29, .slice lb (cases b).length lc),(30, .int .i64 ((cases b).length:Int)),(31, .int .i64 (j:Int))])
     (fun _=>⟨ro2,(p5, .cells [.int .i64 b.w, .int .i64 b.h, .int .i64 b.f, .slice cb b.cs.length cc, .slice wb b.ws.length wc, .slice lb (cases b).length lc].toArray 126 (0,0))::(p1, .cells [.int .i64 b.w, .int .i64 b.h, .int .i64 b.f, .slice cb b.cs.length cc, .slice wb b.ws.length wc].toArray 25 (0,0))::tail⟩) (fun j=>(cases b).length-j) 0 (Nat.zero_le _) rfl ⟨U,U,U,U,U,U,U,U,U,U,trivial⟩ fun j hj hnextj=>?_
    have hcj:cnt ((cases b).take j) i≤((cases b).take j).length:=List.countP_le_length
    rw [List.length_take] at hcj
    refine Xr C U U<|R.int C U U U U b_lss<|R.done C<|Xs C<|Xk C U (fun hlj=>?_) (fun hlj=>?_)
    ·have hj':j<(cases b).length:=O
     obtain⟨pp,off,cap,l,t,fq,hsl,hrop,hsub⟩:=hls.at Lot.len O
     cases hsl
     have hm63:(cases b)[j].m<2^63:=Nat.lt_trans (cases_mem (List.getElem_mem hj')).2.1 (pow62 O)
     have hbc:=bit_cases (cases b)[j].m i
     have hct1:=cnt_take (cases b) i hj'
     refine X.skip C.1<|Xs C<|X.block C.1<|Xr C U U<|Rx C U U U runUnderlying124 sizeOf111<|R.loadAggRo C U U U isAgg111 sizeOf111 hrop (hsub j hj')<|R.alloc C U U zeroValue111 U fun p9=>R.store C U U U U sizeOf111 U U U V Ph6<|R.done C<|X.region C U U<|Rm C U U<|Rf C 5 U U runUnderlying111 U sizeOf3<|Rl C U U isAgg3 V U<|Rm C U U<|R.shift C U U U U (b_shrN O O)<|R.int C U U U U (b_and1 (Nat.lt_of_le_of_lt (Nat.shiftRight_le _ _) hm63))<|R.int C U U U U (b_add (by simp only [Int.toNat_natCast,hbc];split<;>omega) (by simp only [Int.toNat_natCast,hbc];split<;>omega))<|Ad C U U<|X.inBlock C.1<|X.region C U U<|Ra C U U U<|Rm C U U<|R.done C<|X.drop C.1 (own':=_::_::tail) (List.sublist_cons_self _ _)<|X.weaken ?_ (hnextj (j+1) O O)
     refine⟨rfl,rfl,rfl,rfl,rfl,rfl, ?_,rfl,rfl,by simp [look],trivial⟩
     simp only [look,Nat.beq,Int.toNat_natCast,hbc,hct1]
     split<;>simp
    ·obtain rfl:j=(cases b).length:=by omega
     rw [List.take_length] at hcj⊢
     refine X.exit C.1 U<|Xr C U U<|Rm C U U<|Rf C 5 U U runUnderlying126 U sizeOf124<|Rl C U U isAgg124 V U<|Rn C U U runUnderlying124<|Rm C U U<|R.int C U U U U (b_sub O O)<|R.max2 C U U U U<|Ad C U U<|Xr C U U<|Rm C U U<|Rm C U U<|R.int C U U U U b_lss<|R.done C<|X.cond C.1 U (fun hm=>?_) (fun hm=>?_)
     ·refine X.region C U U<|Rm C U U<|Rm C U U<|R.asg C U U U<|Ad C U U<|X.inBlock C.1<|X.region C U U<|Ra C U U U<|Rm C U U<|R.done C ?_
      simp at hm
      refine X.weaken ?_ (hnext (i+1) O O)
      have e:askUpto (cases b) (i+1)=((i:Int),max (cnt (cases b) i:Int) ((cases b).length-cnt (cases b) i)):=by simp only [askUpto];rw [if_pos O]
      rw [e]
      exact⟨rfl,rfl,rfl,by simp [look],rfl,trivial⟩
     ·refine X.skip C.1<|X.inBlock C.1<|X.region C U U<|Ra C U U U<|Rm C U U<|R.done C ?_
      simp at hm
      refine X.weaken ?_ (hnext (i+1) O O)
      have e:askUpto (cases b) (i+1)=askUpto (cases b) i:=by simp only [askUpto];rw [if_neg O]
      rw [e]
      exact⟨rfl,rfl,rfl,by simp [look],rfl,trivial⟩
   ·obtain rfl:i=b.ws.length:=by omega
    refine X.exit C.1 U<|Xr C U U<|Rm C U U<|Rm C U U<|R.asg C U U U<|R.asg C U U U<|Ad C U U<|X.ret C U U func58 U (by exact(.tmp U (.tmp U (.tmp U .nil))))<|Hr hret hl2 ?_
    simp [ask,h0,retVal]
end Go.Lg.B
namespace Go.Lg.B
open Go Go.Conc Go.Lg Go.Proofs Go.Proofs.Tryz
open Go.ConcR (KK WgAt stA smA rd wr mk)
open Go.ConcN (WgLive)
variable {ro:RO}{own:List (Nat×Obj)}{p5:Nat}{p:Nat→Bool}
section
variable {P:Program}{ty:TypeId}{Wg Ch:Nat}{A A':Goroutine→Mem→Prop}(h:∀g M,A g M→A' g M)
include h
theorem AtW2.mono{vs:Nat}:∀g M,AtW2 P ty Wg Ch A vs g M→AtW2 P ty Wg Ch A' vs g M:=fun _ _ ⟨h1,h2,h3⟩=>⟨h1,h2,fun v hv hne=>let⟨g',h4,h5⟩:=h3 v hv hne;⟨g',h4,h5.mono h⟩⟩
theorem AtW1.mono:∀g M,AtW1 P ty Wg Ch A g M→AtW1 P ty Wg Ch A' g M:=fun _ _ ⟨h1,h2⟩=>⟨h1,fun v hv=>let⟨g',h3,h4,h5⟩:=h2 v hv;⟨g',h3,h4,fun hne=>(h5 hne).mono (AtW2.mono h)⟩⟩
theorem AtKd.mono:∀g M,AtKd P ty Wg A g M→AtKd P ty Wg A' g M:=fun _ _ ⟨h1,g',h2,h3⟩=>⟨h1,g',h2,h3.mono h⟩
end
def AnchA(Wg Ch:Nat)(g:Goroutine)(M:Mem):Prop:= ∃c cs ro own,Tr (WgLive 201 Wg) prog false (AtCl prog Ch) (G (c.finish (.tuple #[])) cs) ⟨ro,own⟩∧Anch Wg c cs ⟨ro,own⟩ g M
theorem anchA_run{Wg Ch:Nat}:∀g M,AnchA Wg Ch g M→g.status= .running:=fun g M ⟨_,_,_,_,_,h⟩=>anch_run g M h
theorem anchA_w1{Wg Ch:Nat}:∀g M,AnchA Wg Ch g M→AtW1 prog 201 Wg Ch (AnchA Wg Ch) g M:=fun g M ⟨c,cs,ro,own,h1,h2⟩=>AtW1.mono (fun _ _ h=>⟨c,cs,ro,own,h1,h⟩) g M (anch_w1 h1 g M h2)
theorem wait_c{Wg Ch:Nat}{c:Frame}{cs:List Frame}(h:Tr (WgLive 201 Wg) prog false (AtCl prog Ch) (G (c.finish (.tuple #[])) cs) ⟨ro,own⟩):
  Tr (WgLive 201 Wg) prog false (AtKd prog 201 Wg (AnchA Wg Ch)) (G (Frame.enter prog 165 [.pointer (some ⟨Wg,0,none⟩)].toArray .normal) (c::cs)) ⟨ro,own⟩:=wait_t.mono (AtKd.mono fun _ _ k=>⟨_,_,_,_,h,k⟩)
theorem closer_t{Wg Ch:Nat}(h5:ro p5=some (.cells [.chan (some Ch)].toArray 191 (0,0))):
  Tr (WgLive 201 Wg) prog false (AtKd prog 201 Wg (AnchA Wg Ch)) (born prog ⟨.fn (.func 164) [.pointer (some ⟨Wg,0,none⟩), .pointer (some ⟨p5,0,none⟩)].toArray, #[]⟩) ⟨ro,own⟩:=by
 have hJ:Closed prog false (Tr (WgLive 201 Wg) prog false (AtKd prog 201 Wg (AnchA Wg Ch))):=Tr.closed
 refine born_X (n:=4) hJ func164 Dd U U (Nl U) ?_
 have C:Ctx prog false _ (bf 164 .deferred):=⟨hJ,by decide⟩
 refine Xr C U U<|R.enter C U U Kr U fun hok a ha=>wait_c<|R.resume (o:=_) ha hok U ?_
 have hJ:Closed prog false (Tr (WgLive 201 Wg) prog false (AtCl prog Ch)):=Tr.closed
 have C:Ctx prog false _ (bf 164 .deferred):=⟨hJ,by decide⟩
 refine R.done C<|X.region C U U<|R.loadOneRo C U U U isAgg191 h5 U ?_
 exact R.closeQ Kr func164 rfl (fun a=>by rfl) rfl rfl rfl
def okL(p:Nat→Bool)(m:Nat)(sent:List Value)(ro:RO):Prop:=if p m then∃v,sent= [v]∧LsI ro v (listOf m) else sent= []
theorem okL.mono:∀m sent ro ro',RO.le ro ro'→okL p m sent ro→okL p m sent ro':=fun m sent ro ro' hl h=>by
 unfold okL at h⊢
 split
 ·rw [if_pos ‹_›] at h;obtain⟨v,h1,h2⟩:=h;exact⟨v,h1,h2.mono hl⟩
 ·rw [if_neg ‹_›] at h;exact h
def IsC(fv:Value)(p:Nat→Bool)(N:Nat)(ro:RO):Prop:= ∀ {main:Bool} {J:Goroutine→Mem→Prop},Closed prog main J→∀ro',ro.le ro'→∀m,m<N→CallR prog J fv [.int .i64 (m:Int)] ro' (fun w _=>w= .bool (p m))
theorem worker_t{fv:Value}{N m Wg Ch p3 pm:Nat}{ro0:RO}(hp:IsC fv p N ro0)(hle:ro0.le ro)(hm:m<N)(hm2:m<2^63)(h3:ro p3=some (.cells [fv].toArray 151 (0,0)))(h5:ro p5=some (.cells [.chan (some Ch)].toArray 191 (0,0))):
  Wtr prog 201 Wg Ch (okL p m) [] (born prog ⟨.fn (.func 162) [.pointer (some ⟨Wg,0,none⟩), .pointer (some ⟨p3,0,none⟩), .pointer (some ⟨pm,0,none⟩), .pointer (some ⟨p5,0,none⟩)].toArray, #[]⟩) ⟨ro, [(pm, .cells [.int .i64 (m:Int)].toArray 3 (0,0))]⟩:=by
 have hJ:Closed prog false (Wtr prog 201 Wg Ch (okL p m) []):=Wtr.closed
 refine born_X (n:=10) hJ func162 Dd U U (Nl U) ?_
 have C:Ctx prog false _ (bf 162 .deferred):=⟨hJ,by decide⟩
 refine Xr C U U<|R.defer C (xs:= [.tmp 0]) (vs:= [.pointer (some ⟨Wg,0,none⟩)]) U U U<|R.done C<|Xr C U U<|R.loadOneRo C U U U isAgg151 h3 U<|Rl C U U isAgg3 V U<|R.callR C U U U U (hp hJ ro hle m hm) fun w ro1 hle1 hw1=>?_
 subst hw1
 have h5:=hle1 _ _ h5
 refine R.done C<|X.cond C.1 U (fun hpm=>?_) (fun hpm=>?_)
 ·refine Xd C fun hok=>D2 C 0 hok U U isAgg191 (by first|exact h5|exact hle' _ _ h5) U<|D1 C 1 hok U U isAgg3 V U<|De 2 (some 9) [false,true] hok (fun _ _ A hk=>?_)
  refine R.callR C U (A.w U U) (A.x U U) (A.s U U) (list_c hJ (by assumption)) fun v' ro' hle' hls'=>hk _ _ ⟨(QFs.cons (QF.of U (fun _ _ A h=>R.loadOneRo C U (A.w U U) (A.x U U) isAgg191 (by first|exact h5|exact hle' _ _ h5) U h)) QFs.nil), ?_⟩
  have hJ2:Closed prog false (Wtr prog 201 Wg Ch (okL p m) [v']):=Wtr.closed
  have C2:Ctx prog false _ (bf 162 .deferred):=⟨hJ2,by decide⟩
  refine D.last (i:=3) hok Kr Kr fun σr A=>?_;refine R.send Dd U (A.w U U) (A.x U U) (A.x U U) (by obtain⟨_,_,rfl,_⟩:=hls';rfl)<|R.done C2 ?_
  exact X.doneW (L:=wgL) wgLib func162 rfl (by unfold okL;rw [if_pos hpm];exact⟨_,rfl,hls'⟩)
 ·refine X.skip C.1 ?_
  exact X.doneW (L:=wgL) wgLib func162 rfl (by unfold okL;rw [if_neg (by simp [hpm])])
end Go.Lg.B
namespace Go.Lg.B
open Go Go.Conc Go.Lg Go.Proofs Go.Proofs.Tryz
open Go.ConcR (KK WgAt stA smA rd wr mk)
open Go.ConcN (WgLive)
variable {fv v:Value}{own tail:List (Nat×Obj)}{ro ro0:RO}{p:Nat→Bool}{Ch N Wg:Nat}{rs:List Value}{cs:List Frame}{Q:Machine→Outcome→World→Trace→Prop}{At:List Value→Goroutine→Mem→Prop}
noncomputable def b124:Code:=Tryz.f124.body.getD .skip
noncomputable def d5:Code:=cR (cR (cR b124))
noncomputable def lb1:Code:=cB (cB (cR (cL d5)))
noncomputable def d7:Code:=cR (cR (cR d5))
noncomputable def lb2:Code:=cB (cB (cR (cL d7)))
theorem cells_one(h:oneCell v=true):v.cells= [v].toArray:=by cases v<;>first|rfl|cases h
theorem ones_one(h:oneCell v=true):ones [v]=true:=by cases v<;>first|rfl|cases h
def LsLs(ro:RO)(v:Value)(L:List (List Int)):Prop:= ∃zs:List (Value×List Int),Ls (fun z:Value×List Int=> [z.1]) 1 ro v zs∧zs.map (·.2)=L∧(∀z∈zs,LsI ro z.1 z.2)∧∀bs n cap,v= .slice bs n cap→n≤cap
theorem Buf.cap{e:TypeId}{k:Nat}{cells:List Value}(h:Buf e k tail v cells own):∀bs n cap,v= .slice bs n cap→n≤cap:=by
 cases h with
 |nil=>rintro bs n cap e;cases e;exact Nat.le_refl _
 |blk c1 c2 c3=>rintro bs n cap e;cases e;exact c3
theorem LsLs.mono{ro':RO}{L:List (List Int)}(h:LsLs ro v L)(hl:ro.le ro'):LsLs ro' v L:=let⟨zs,h1,h2,h3,h4⟩:=h;⟨zs,h1.mono hl,h2,fun z hz=>(h3 z hz).mono hl,h4⟩
theorem perm_map_inv{α β:Type}{V:α→β}{a b:List β}(h:a.Perm b):∀l:List α,b=l.map V→∃l':List α,l'.Perm l∧a=l'.map V:=by
 induction h with
 |nil=>intro l e;exact⟨[],by cases l<;>simp_all,rfl⟩
 |cons x _ ih=>
  intro l e
  cases l with
  |nil=>cases e
  |cons y l=>
   simp only [List.map_cons,List.cons.injEq] at e
   obtain⟨l',h1,h2⟩:=ih l e.2
   exact⟨y::l',h1.cons y,by simp [h2,e.1]⟩
 |swap x y _=>
  intro l e
  match l,e with
  |u::v::l,e=>
   simp only [List.map_cons,List.cons.injEq] at e
   exact⟨v::u::l, .swap ..,by simp [e.1,e.2.1,e.2.2]⟩
 |trans _ _ ih1 ih2=>
  intro l e
  obtain⟨l1,h1,h2⟩:=ih2 l e
  obtain⟨l2,h3,h4⟩:=ih1 l1 h2
  exact⟨l2,h3.trans h1,h4⟩
theorem sent_lists(h:AllSent N (okL p) rs ro):∃zs:List (Value×List Int),rs=zs.map (·.1)∧(∀z∈zs,LsI ro z.1 z.2)∧∃ms:List Nat,ms.Perm ((List.range N).filter p)∧zs.map (·.2)=ms.map listOf:=by
 obtain⟨S,hp,hS⟩:=h
 have hV:∃V:Nat→Value,∀m,m<N→p m=true→S m= [V m]∧LsI ro (V m) (listOf m):=by
  refine⟨fun m=>(S m).headD undef,fun m hm hpm=>?_⟩
  have:=hS m hm
  unfold okL at this
  rw [if_pos hpm] at this
  obtain⟨v,h1,h2⟩:=this
  simp only [h1,List.headD_cons]
  exact⟨trivial,h2⟩
 obtain⟨V,hV⟩:=hV
 have key:∀l:List Nat,(∀m∈l,m<N)→l.flatMap S=(l.filter p).map V:=by
  intro l
  induction l with
  |nil=>intro _;rfl
  |cons m l ih=>
   intro hl
   rw [List.flatMap_cons,ih fun x hx=>hl x (List.mem_cons_of_mem _ hx)]
   have hm:=hl m List.mem_cons_self
   by_cases hpm:p m=true
   ·rw [(hV m hm hpm).1];simp [hpm]
   ·have:=hS m hm
    unfold okL at this
    rw [if_neg hpm] at this
    rw [this];simp [hpm]
 rw [key _ fun m hm=>List.mem_range.1 hm] at hp
 obtain⟨ms,h1,h2⟩:=perm_map_inv hp _ rfl
 refine⟨ms.map fun m=>(V m,listOf m),by simp [h2,Function.comp_def],fun z hz=>?_,ms,h1,by simp [Function.comp_def]⟩
 obtain⟨m,hm,rfl⟩:=List.mem_map.1 hz
 have:=h1.mem_iff.1 hm
 rw [List.mem_filter,List.mem_range] at this
 exact(hV m this.1 this.2).2
def AtR(Ch:Nat)(ro0:RO)(cs:List Frame)(tail:List (Nat×Obj))(rs:List Value)(g:Goroutine)(M:Mem):Prop:=
 ∃a ro vb own,Holds 30 [] [(21, .chan (some Ch)),(8,vb)] a∧g=G (fr (bf 124 .normal) a [.inRegion (cO (cL lb2)) [0,1], .code (cR lb2), .inLoop lb2, .inBlock 2, .code (cR d7)]) cs∧M=⟨ro,own⟩∧Buf 28 1 tail vb rs own∧ro0.le ro
theorem atR_run:∀rs g M,AtR Ch ro0 cs tail rs g M→g.status= .running:=by
 rintro rs g M ⟨a,ro,vb,own,_,rfl,_,_⟩;rfl
theorem to_recv{vb:Value}(hle:ro0.le ro)(hb:Buf 28 1 tail vb rs own):
  X (Tr (WgLive 201 Wg) prog true (AtR Ch ro0 cs tail rs)) (bf 124 .normal) cs 30 [.code lb2, .inLoop lb2, .inBlock 2, .code (cR d7)] [] [(21, .chan (some Ch)),(8,vb)] ⟨ro,own⟩:=by
 have hJ:Closed prog true (Tr (WgLive 201 Wg) prog true (AtR Ch ro0 cs tail rs)):=Tr.closed
 have C:Ctx prog true _ (bf 124 .normal):=⟨hJ,by decide⟩
 refine Xr C U U ?_
 exact fun _ a ha=>Tr.stop ⟨a,ro,vb,own,ha,rfl,rfl,hb,hle⟩
theorem recv_c{c:Frame}(hN:N≤1048576)
  (hret:∀v ro' own,ro0.le ro'→(∃L,LsLs ro' v L∧∃ms:List Nat,ms.Perm ((List.range N).filter p)∧L=ms.map listOf)→tail.Sublist own→JM prog Q (G (c.finish v) cs) ⟨ro',own⟩):
  ∀rs g M,AtR Ch ro0 (c::cs) tail rs g M→Recv prog 201 Wg Ch N (okL p) (JM prog Q) (AtR Ch ro0 (c::cs) tail) rs g M:=by
 rintro rs g M ⟨a,ro,vb,own,ha,rfl,rfl,hb,hle0⟩
 have hok:dstsOk 30 (cO (cL lb2)).toList=true:=by kernel_rfl
 refine recvAt Dd hok ha U U U runUnderlying191 zeroValue28 (fun v hrl hv=>?_) (fun ro' hl hs=>?_)
 ·have hJ:Closed prog true (Tr (WgLive 201 Wg) prog true (AtR Ch ro0 (c::cs) tail (rs++ [v]))):=Tr.closed
  have C:Ctx prog true _ (bf 124 .normal):=⟨hJ,by decide⟩
  refine R.ext C U U U U<|R.fixv (t:=23) (v':= .bool true) U (by rfl)<|R.done C<|Xs C<|X.cond C.1 U (fun _=>?_) (fun h=>nomatch h)
  refine X.skip C.1<|X.block C.1<|Xr C U U<|R.ext C U U U U<|Ad C U U<|X.region C U U<|Rm C U U<|Rm C U U<|R.buildSlice C (vs:=_) U U (show pvals _ _=some (numbered 0 [_]) from rfl) U runUnderlying149 sizeOf28 zeroValue28 Dd (Cat.one (cells_one hv) U) fun p27=>R.append1 (kk:=1) C U U U U runUnderlying149 runUnderlying149 (fun _=>nofun) (show prog.info? 28=some Tryz.t28 by kernel_rfl) U U U Dd Dd hb U (ones_one hv) (by simp only [List.length_append,List.length_cons,List.length_nil];omega) fun v' own' hb'=>Ad C U U<|X.inBlock C.1<|X.inLoop hJ<|X.weaken (σ':= [(21, .chan (some Ch)),(8,v')]) ⟨U,U,trivial⟩ ?_
  exact to_recv hle0 hb'
 ·have hJ:Closed prog true (JM prog Q):=JM.closed
  have C:Ctx prog true _ (bf 124 .normal):=⟨hJ,by decide⟩
  obtain⟨zs,rfl,hz,ms,hp,hm⟩:=sent_lists hs
  refine R.ext C U U U U<|R.fixv (t:=23) (v':= .bool false) U (by rfl)<|R.done C<|Xs C<|X.cond C.1 U (fun h=>nomatch h) (fun _=>?_)
  refine X.exit C.1 U<|Xr C U U<|Rm C U U<|Ad C U U ?_
  have hfl:zs.map (·.1)=zs.flatMap (fun z:Value×List Int=> [z.1]):=by simp [List.map_eq_flatMap]
  rw [hfl] at hb
  have hcap:=Buf.cap hb
  refine X.finish (enc:=fun z:Value×List Int=> [z.1]) (kk:=1) C.1 (fun _=>rfl) Dd hb fun ro2 hl2 hls=>X.ret C U U func124 U (by exact .tmp U .nil) ?_
  exact hret _ ro2 tail (RO.le_trans hle0 (RO.le_trans hl hl2)) ⟨_,⟨zs,hls,rfl,fun z hz'=>(hz z hz').mono hl2,hcap⟩,ms,hp,hm⟩ (.refl _)
theorem spawn_t{p3 p5:Nat}{kr:List Item}(hp:IsC fv p N ro)(hN:N≤1048576)(h3:ro p3=some (.cells [fv].toArray 151 (0,0)))(h5:ro p5=some (.cells [.chan (some Ch)].toArray 191 (0,0)))
  (hfin:X (Tr (WgLive 201 Wg) prog true (AtGoC prog 201 Wg (AnchA Wg Ch) At)) (bf 124 .normal) cs 30 kr [] [(6, .pointer (some ⟨Wg,0,none⟩)),(5, .pointer (some ⟨p5,0,none⟩))] ⟨ro,own⟩):
  ∀r,r≤N→X (Tr (WgLive 201 Wg) prog true (Sp prog 201 Wg Ch (AnchA Wg Ch) (okL p) At N r)) (bf 124 .normal) cs 30 (.code lb1:: .inLoop lb1:: .inBlock 0::kr) []
   [(13, .int .i64 (N:Int)),(14, .int .i64 ((N-r:Nat):Int)),(6, .pointer (some ⟨Wg,0,none⟩)),(5, .pointer (some ⟨p5,0,none⟩)),(3, .pointer (some ⟨p3,0,none⟩))] ⟨ro,own⟩:=by
 intro r
 induction r with
 |zero=>
  intro _
  have hJ:Closed prog true (Tr (WgLive 201 Wg) prog true (Sp prog 201 Wg Ch (AnchA Wg Ch) (okL p) At N 0)):=Tr.closed
  have C:Ctx prog true _ (bf 124 .normal):=⟨hJ,by decide⟩
  refine Xr C U U<|R.int C U U U U b_lss<|R.fixv (t:=15) (v':= .bool false) U (by exact congrArg Value.bool Zi)<|R.done C<|Xs C<|X.cond C.1 U (fun h=>nomatch h) (fun _=>?_)
  refine X.exit C.1 U<|X.weaken ?_ hfin
  exact⟨U,U,trivial⟩
 |succ r ih=>
  intro hr
  have hJ:Closed prog true (Tr (WgLive 201 Wg) prog true (AtS6 prog 201 Wg Ch (okL p) (N- (r+1)) (Sp prog 201 Wg Ch (AnchA Wg Ch) (okL p) At N r))):=Tr.closed
  have C:Ctx prog true _ (bf 124 .normal):=⟨hJ,by decide⟩
  show X (Tr (WgLive 201 Wg) prog true (AtS6 prog 201 Wg Ch (okL p) (N- (r+1)) (Sp prog 201 Wg Ch (AnchA Wg Ch) (okL p) At N r))) (bf 124 .normal) cs 30 (.code lb1:: .inLoop lb1:: .inBlock 0::kr) [] _ _
  refine Xr C U U<|R.int C U U U U b_lss<|R.fixv (t:=15) (v':= .bool true) U (by exact congrArg Value.bool Zo)<|R.done C<|Xs C<|X.cond C.1 U (fun _=>?_) (fun h=>nomatch h)
  refine X.skip C.1<|Xs C<|X.block C.1<|Xr C U U<|Rm C U U<|R.alloc C U U zeroValue3 U fun p7=>R.store C U U U U sizeOf3 U U U V (.here .nil)<|R.done C<|Xr C U U<|R.enter C U U Kr U fun hok a ha=>add_t<|R.resume (o:=_) ha hok U ?_
  have hJ:Closed prog true (Tr (WgLive 201 Wg) prog true (AtGo prog 201 Wg Ch (okL p) (N- (r+1)) (Sp prog 201 Wg Ch (AnchA Wg Ch) (okL p) At N r))):=Tr.closed
  have C:Ctx prog true _ (bf 124 .normal):=⟨hJ,by decide⟩
  refine R.done C<|X.region C U U<|R.makeFunc C U U U U<|R.goW Dd U U U (c:= [_]) (.refl _) (worker_t hp (RO.le_refl _) O O h3 h5) ?_
  have hJ:Closed prog true (Tr (WgLive 201 Wg) prog true (Sp prog 201 Wg Ch (AnchA Wg Ch) (okL p) At N r)):=Tr.closed
  have C:Ctx prog true _ (bf 124 .normal):=⟨hJ,by decide⟩
  refine R.done C<|X.inBlock C.1<|X.region C U U<|Ra C U U U<|Rm C U U<|R.done C<|X.inLoop hJ<|X.weaken ?_ (ih O)
  exact⟨rfl,congrArg (fun z=>some (Value.int .i64 z)) O,rfl,rfl,rfl,trivial⟩
theorem X.phase{P:Program}{ty:TypeId}{n:Nat}{Anch:Goroutine→Mem→Prop}{ok:Nat→List Value→RO→Prop}{b:Frame}{nn:Nat}{k:List Item}{ds:List Deferred}{σ:Slots}{s r:Nat}{tm:Bool}
  (hn:n<2147483648) (hA:∀g M,Anch g M→g.status= .running) (hAn:∀g M,Anch g M→AtW1 P ty Wg Ch Anch g M) (hAt:∀rs g M,At rs g M→g.status= .running) (hR:∀rs g M,At rs g M→Recv P ty Wg Ch n ok (JM P Q) At rs g M) (hok:∀i s ro ro',ro.le ro'→ok i s ro→ok i s ro')
  (h:X (Tr (WgLive ty Wg) P true (Sp P ty Wg Ch Anch ok At n n)) b cs nn k ds σ ⟨ro,own⟩):X (JM P Q) b cs nn k ds σ ⟨ro,(Wg, .cells #[.int .u64 0, .int .u32 0] ty (0,0))::(Ch, .chan 0 #[] false s r tm)::own⟩:=fun a ha=>JM.phase hn hA hAn hAt hR hok (h a ha)
theorem lists_c{b:Bk}(hv:BkV ro v b)(h20:b.ws.length≤20)(hp:IsC fv p (2^b.ws.length) ro)(hf1:oneCell fv=true):
  CallR prog (JM prog Q) (fnv 124) [v,fv] ro fun v' ro'=>∃L,LsLs ro' v' L∧∃ms:List Nat,ms.Perm ((List.range (2^b.ws.length)).filter p)∧L=ms.map listOf:=by
 have hJ:Closed prog true (JM prog Q):=JM.closed
 have hvv:=hv
 obtain⟨vc,vw,rfl,hc,hw⟩:=hv
 obtain⟨cb,cc,rfl⟩:=hc.form
 obtain⟨wb,wc,rfl⟩:=hw.form
 have h2:2^b.ws.length≤2^20:=Nat.pow_le_pow_right O h20
 have h1:0<2^b.ws.length:=Nat.two_pow_pos _
 have he:everybody b+1=2^b.ws.length:=by simp only [everybody];omega
 let main:=true
 let J:=JM prog Q
 refine CallR.intro hJ Kr fun c cs tail hret=>enter_X (n:=30) func124 U U (Nl U) ?_
 have C:Ctx prog main J (bf 124 .normal):=⟨hJ,by decide⟩
 refine Xr C U U<|R.box C U U U U fun p2=>R.box C U U U (cells_one hf1) fun p3=>Ad C U U<|Xr C U U<|R.makeChan C U U U runUnderlying191 (show prog.info? 28=some Tryz.t28 by kernel_rfl) fun p10=>R.alloc C U U zeroValue191 U fun p5=>R.store C U U U U sizeOf191 U U U V (.here .nil)<|R.done C<|Xr C U U<|R.alloc C U U zeroValue201 U fun p6=>R.done C<|Xs C<|Xr C U U<|R.perm C.1 (perm_mid [_] [_] _)<|R.persist C.1 fun ro1 hle1 h5=>R.perm C.1 (perm_mid [_,_] [_] _)<|R.persist C.1 fun ro2 hle2 h3=>?_
 have hle:ro.le ro2:=RO.le_trans hle1 hle2
 have hvv:=hvv.mono hle
 have h5:=hle2 _ _ h5
 refine R5 C U U isAgg105 sizeOf105 V Tk5<|R.callP C U U U U (everybody_c hJ (by assumption) O)<|Ra C U U U<|Rm C U U<|R.done C<|X.block C.1<|X.drop hJ (own':=_::_::tail) (.cons_cons _ (.cons_cons _ (List.sublist_cons_self _ _)))<|X.phase (n:=2^b.ws.length) (At:=AtR p10 ro2 (c::cs) tail) O anchA_run anchA_w1 atR_run (recv_c (ro0:=ro2) (p:=p) O fun v' ro' own' hl hL hs=>hret _ _ _ (RO.le_trans hle hl) hs hL) okL.mono<|X.loop (main:=true) Tr.closed<|X.weaken ?_ (spawn_t (p3:=p3) (p5:=p5) (fun hJ ro' hl m hm=>hp hJ ro' (RO.le_trans hle hl) m hm) O h3 h5 ?_ (2^b.ws.length) (Nat.le_refl _))
 ·exact⟨congrArg (fun z=>some (Value.int .i64 z)) O,congrArg (fun z=>some (Value.int .i64 z)) O,rfl,rfl,rfl,trivial⟩
 have hJ:Closed prog true (Tr (WgLive 201 p6) prog true (AtGoC prog 201 p6 (AnchA p6 p10) (AtR p10 ro2 (c::cs) tail))):=Tr.closed
 have C:Ctx prog true _ (bf 124 .normal):=⟨hJ,by decide⟩
 refine Xr C U U<|R.makeFunc C U U U U<|R.goC Dd U U U (c:= []) (.refl _) (closer_t h5) ?_
 have hJ:Closed prog true (Tr (WgLive 201 p6) prog true (AtR p10 ro2 (c::cs) tail [])):=Tr.closed
 have C:Ctx prog true _ (bf 124 .normal):=⟨hJ,by decide⟩
 refine R.done C<|Xr C U U<|Ad C U U<|Xs C<|Xr C U U<|R.loadOneRo C U U U isAgg191 h5 U<|R.done C<|X.block C.1<|X.loop (main:=true) Tr.closed<|X.weaken ?_ (to_recv (RO.le_refl _) .nil)
 exact⟨U,U,trivial⟩
end Go.Lg.B
namespace Go.Lg.B
open Go Go.Conc Go.Lg Go.Proofs Go.Proofs.Tryz
variable {α:Type}{i:Nat}{s:Sq}{l:List Sq}{b:Bk}{v:Value}{ro:RO}
def addNew{α:Type} [DecidableEq α] (acc:List α)(s:α):List α:=if s∈acc then acc else acc++ [s]
def firsts{α:Type} [DecidableEq α] (l:List α):List α:=l.foldl addNew []
theorem firsts_take [DecidableEq α] {l:List α}(h:i<l.length):firsts (l.take (i+1))=addNew (firsts (l.take i)) l[i]:=by
 unfold firsts
 rw [List.take_succ_eq_append_getElem h,List.foldl_append];rfl
theorem addNew_len [DecidableEq α] (acc:List α)(s:α):(addNew acc s).length≤acc.length+1:=by
 unfold addNew;split<;>simp
theorem foldl_len{α:Type} [DecidableEq α]:∀ (l acc:List α),(l.foldl addNew acc).length≤acc.length+l.length
 | [],_=>by simp
 |s::l,acc=>by
  have h1:=foldl_len l (addNew acc s)
  have h2:=addNew_len acc s
  simp only [List.foldl_cons,List.length_cons];omega
theorem firsts_len [DecidableEq α] (l:List α):(firsts l).length≤l.length:=by
 have:=foldl_len l []
 simpa [firsts] using this
def wheres(b:Bk):List Sq:=if openH b 0≠0 then [] else firsts ((cases b).map fun c=>c.a.s)
def keyOf(s:Sq):List Int:= [s.e,s.n]
theorem keyOf_inj{t:Sq}(h:keyOf s=keyOf t):s=t:=by
 obtain⟨a,c⟩:=s
 obtain⟨a',c'⟩:=t
 simp only [keyOf,List.cons.injEq] at h
 rw [h.1,h.2.1]
theorem key_mem:keyOf s∈l.map keyOf↔s∈l:=by
 rw [List.mem_map]
 exact⟨fun⟨t,h1,h2⟩=>keyOf_inj h2▸h1,fun h=>⟨s,h,rfl⟩⟩
abbrev LsS(ro:RO)(v:Value)(xs:List Sq):Prop:=Ls Sq.cells 2 ro v xs
def widen(r:Rc×Rc)(s:Sq):Rc×Rc:=(⟨min r.1.lo s.e,max r.1.hi s.e⟩,⟨min r.2.lo s.n,max r.2.hi s.n⟩)
def boxFrom(s:Sq)(l:List Sq):Rc×Rc:=l.foldl widen (⟨s.e,s.e⟩,⟨s.n,s.n⟩)
def box(b:Bk):Rc×Rc:=if openH b 0≠0 then(⟨0,0⟩,⟨0,0⟩) else boxFrom ((wheres b).headD default) (wheres b)
theorem wheres_pos(h0:openH b 0=0):0<(wheres b).length:=by
 rw [wheres,if_neg (by simp [h0])]
 have hc:=(openH_good h0).2.2
 cases hcs:cases b with
 |nil=>exact absurd hcs hc
 |cons x l=>
  unfold firsts
  simp only [List.map_cons,List.foldl_cons]
  have:∀ (l acc:List Sq),0<acc.length→0<(l.foldl addNew acc).length:=by
   intro l
   induction l with
   |nil=>intro acc h;exact h
   |cons y l ih=>
    intro acc h
    refine ih _ ?_
    unfold addNew;split
    ·exact h
    ·simp
  exact this _ _ (by unfold addNew;simp)
theorem wheres_len:(wheres b).length≤(cases b).length:=by
 rw [wheres]
 split
 ·simp
 ·have:=firsts_len ((cases b).map fun c=>c.a.s)
  simpa using this
theorem headD_get(h:0<l.length):l.headD default=l[0]:=by
 cases l with
 |nil=>simp at h
 |cons x l=>rfl
theorem boxFrom_take(h:i<l.length):boxFrom s (l.take (i+1))=widen (boxFrom s (l.take i)) l[i]:=by
 unfold boxFrom
 rw [List.take_succ_eq_append_getElem h,List.foldl_append];rfl
variable {main:Bool}{J:Goroutine→Mem→Prop}(hJ:Closed prog main J)
include hJ
theorem where_c(he:Env ro)(hv:BkV ro v b)(hs:b.short):CallR prog J (fnv 28) [v] ro (fun w ro'=>∃vs,LsS ro' vs (wheres b)∧w= .tuple [vs, .int .i64 (openH b 0)].toArray):=by
 have hvv:=hv
 obtain⟨vc,vw,rfl,hc,hw⟩:=hv
 obtain⟨cb,cc,rfl⟩:=hc.form
 obtain⟨wb,wc,rfl⟩:=hw.form
 refine CallR.intro hJ Kr fun c cs tail hret=>enter_X (n:=44) func28 U U (Nl U) ?_
 have C:Ctx prog main J (bf 28 .normal):=⟨hJ,by decide⟩
 refine Xr C U U<|R.box C U U U U fun p1=>R.asg C U U U<|Ad C U U<|Xr C U U<|R5 C U U isAgg25 sizeOf25 V Tk5<|R.callR C U U U U ((open_c hJ he hc hw hs _ 0 fun hg=>nothing_c hJ b hvv)) fun v1 ro2 hl2 hp=>?_
 rcases hp with⟨h0,rfl⟩|⟨h0,vl,hls,rfl⟩
 ·
  refine Rm C U U<|R.ext C U U U U<|R.ext C U U U U<|R.alloc C U U zeroValue126 U fun p4=>R.store C U U U U sizeOf126 U U U V Ph6<|Ad C U U<|Xs C<|Xr C U U<|Rm C U U<|R.int C U U U U b_neq<|R.done C<|X.cond C.1 U (fun hq=>?_) (fun hq=>?_)
  ·refine Xr C U U<|Rm C U U<|R.asg C U U U<|Ad C U U<|X.ret C U U func28 U (by exact(.tmp U (.tmp U .nil)))<|Hr hret hl2 ?_
   exact⟨_,by rw [wheres,if_pos h0];exact .nil,rfl⟩
  ·simp at hq;contradiction
 ·
  have hb:b.good:=(openH_good h0).1
  obtain⟨lb,lc,rfl⟩:=hls.form
  have hcl:=cases_le hb
  refine Rm C U U<|R.ext C U U U U<|R.ext C U U U U<|R.alloc C U U zeroValue126 U fun p4=>R.store C U U U U sizeOf126 U U U V Ph6<|Ad C U U<|Xs C<|Xr C U U<|Rm C U U<|R.int C U U U U b_neq<|R.done C<|X.cond C.1 U (fun hq=>?_) (fun hq=>?_)
  ·simp at hq
  ·refine X.skip C.1<|Xr C U U<|R.makeMap C U U  fun p18=>Ad C U U<|Xr C U U<|Ad C U U<|Xs C<|Xr C U U<|Rf C 5 U U runUnderlying126 U sizeOf124<|Rl C U U isAgg124 V U<|Rn C U U runUnderlying124<|Rm C U U<|R.done C<|X.block C.1<|X.drop C.1 (own':=_::tail) (.cons_cons _ (.cons _ (List.sublist_cons_self _ _)))<|X.loopI (ι:=Nat×Value×List (Nat×Obj)) C.1 (fun s=>s.1≤(cases b).length∧Buf 27 2 tail s.2.1 ((firsts (((cases b).map fun c=>c.a.s).take s.1)).flatMap Sq.cells) s.2.2)
    (fun s=> [(6, .map (some p18)),(7,s.2.1),(20, .slice lb (cases b).length lc),(21, .int .i64 ((cases b).length:Int)),(22, .int .i64 (s.1:Int))])
    (fun s=>⟨ro2,(p18,setObj_ ((firsts (((cases b).map fun c=>c.a.s).take s.1)).map keyOf))::s.2.2⟩) (fun s=>(cases b).length-s.1) (0, .slice none 0 0,tail) ⟨Nat.zero_le _, .nil⟩ rfl ⟨U,U,U,U,U,trivial⟩ fun s hs hnext=>?_
   obtain⟨i,v0,own0⟩:=s
   obtain⟨hi,hbuf⟩:=hs
   simp only at hi hbuf hnext⊢
   refine Xr C U U<|R.int C U U U U b_lss<|R.done C<|Xs C<|Xk C U (fun hlt=>?_) (fun hlt=>?_)
   ·have hi':i<(cases b).length:=O
    obtain⟨pp,off,cap,l,t,fq,hsl,hrop,hsub⟩:=hls.at Lot.len O
    cases hsl
    have hft:=firsts_take (l:=(cases b).map fun c=>c.a.s) (i:=i) (by simpa using hi')
    rw [List.getElem_map] at hft
    have hfl:=firsts_len (((cases b).map fun c=>c.a.s).take i)
    rw [List.length_take] at hfl
    have hfc:=flatMap_len Sq.len (firsts (((cases b).map fun c=>c.a.s).take i))
    have hks:∀x∈(firsts (((cases b).map fun c=>c.a.s).take i)).map keyOf,x.length=2:=fun x hx=>by obtain⟨_,_,rfl⟩:=List.mem_map.1 hx;rfl
    refine X.skip C.1<|Xs C<|X.block C.1<|Xr C U U<|Rx C U U U runUnderlying124 sizeOf111<|R.loadAggRo C U U U isAgg111 sizeOf111 hrop (hsub i hi')<|R.alloc C U U zeroValue111 U fun p9=>R.store C U U U U sizeOf111 U U U V Ph6<|R.done C<|Xr C U U<|Rm C U U<|Rf C 0 U U runUnderlying111 U sizeOf109<|Rf C 0 U U runUnderlying109 U sizeOf27<|R5 C U U isAgg27 sizeOf27 V Tk2<|R.lookupSet (key:=keyOf (cases b)[i].a.s) C U U U U runUnderlying129 runUnderlying27 zeroValue4 eqT27 ckT27 U hks V<|R.not C U U U<|R.done C<|X.cond C.1 U (fun hr=>?_) (fun hr=>?_)
    ·simp only [Bool.not_eq_true',decide_eq_false_iff_not] at hr
     have hn:(cases b)[i].a.s∉firsts (((cases b).map fun c=>c.a.s).take i):=fun h=>hr (key_mem.2 h)
     refine Xr C U U<|Rm C U U<|Rf C 0 U U runUnderlying111 U sizeOf109<|Rf C 0 U U runUnderlying109 U sizeOf27<|R5 C U U isAgg27 sizeOf27 V Tk2<|R.insertSet (key:=keyOf (cases b)[i].a.s) C U U U U runUnderlying129 runUnderlying27 eqT27 ckT27 U hks hr V<|R.done C<|X.region C U U<|Rm C U U<|Rf C 0 U U runUnderlying111 U sizeOf109<|Rf C 0 U U runUnderlying109 U sizeOf27<|R5 C U U isAgg27 sizeOf27 V Tk2<|R.buildSlice C (vs:=_) U U (show pvals _ _=some (numbered 0 [_]) from rfl) U runUnderlying41 sizeOf27 zeroValue27 Dd (Cat.one U U) fun p40=>R.append2 (kk:=2) C [_,_] U U U U runUnderlying41 runUnderlying41 (fun _=>nofun) (show prog.info? 27=some Tryz.t27 by kernel_rfl) U U U Dd Dd hbuf U U (by(try simp only [List.length_append,List.length_cons,List.length_nil]);omega) fun v' own' hb'=>Ad C U U<|X.inBlock C.1<|X.region C U U<|Ra C U U U<|Rm C U U<|R.done C<|X.drop C.1 (own':=_::own') (List.sublist_cons_self _ _) ?_
     rw [addNew,if_neg hn] at hft
     have hgo:=hnext (i+1,v',own') ⟨hi',by rw [hft,List.flatMap_append];exact hb'⟩ Zo
     simp only at hgo
     rw [hft,List.map_append] at hgo
     refine X.weaken ?_ hgo
     exact⟨rfl,rfl,rfl,rfl,by simp [look],trivial⟩
    ·simp only [Bool.not_eq_false',decide_eq_true_eq] at hr
     have hn:(cases b)[i].a.s∈firsts (((cases b).map fun c=>c.a.s).take i):=key_mem.1 hr
     refine X.skip C.1<|X.inBlock C.1<|X.region C U U<|Ra C U U U<|Rm C U U<|R.done C<|X.drop C.1 (own':=_::own0) (List.sublist_cons_self _ _) ?_
     rw [addNew,if_pos hn] at hft
     have hgo:=hnext (i+1,v0,own0) ⟨hi',by rw [hft];exact hbuf⟩ Zo
     simp only at hgo
     rw [hft] at hgo
     refine X.weaken ?_ hgo
     exact⟨rfl,rfl,rfl,rfl,by simp [look],trivial⟩
   ·obtain rfl:i=(cases b).length:=by omega
    refine X.exit C.1 U<|Xr C U U<|Rm C U U<|R.asg C U U U<|Ad C U U ?_
    have hall:((cases b).map fun c=>c.a.s).take (cases b).length=(cases b).map fun c=>c.a.s:=by rw [List.take_of_length_le];simp
    rw [hall] at hbuf
    refine X.drop C.1 (own':=own0) (List.sublist_cons_self _ _)<|X.finish C.1 Sq.len Dd hbuf fun ro3 hl3 hls3=>X.ret C U U func28 U (by exact(.tmp U (.tmp U .nil)))<|Hr hret (RO.le_trans hl2 hl3) ?_
    exact⟨_,by rw [wheres,if_neg (by simp [h0])];exact hls3,by rw [h0];rfl⟩
theorem box_c(he:Env ro)(hv:BkV ro v b)(hs:b.short):CallR prog J (fnv 31) [v] ro (fun w _=>w= .tuple [.agg (box b).1.cells.toArray, .agg (box b).2.cells.toArray, .int .i64 (openH b 0)].toArray):=by
 have hvv:=hv
 obtain⟨vc,vw,rfl,hc,hw⟩:=hv
 obtain⟨cb,cc,rfl⟩:=hc.form
 obtain⟨wb,wc,rfl⟩:=hw.form
 refine CallR.intro hJ Kr fun c cs tail hret=>enter_X (n:=67) func31 U U (Nl U) ?_
 have C:Ctx prog main J (bf 31 .normal):=⟨hJ,by decide⟩
 refine Xr C U U<|R.box C U U U U fun p1=>R.alloc C U U zeroValue46 U fun p2=>R.alloc C U U zeroValue46 U fun p3=>Ad C U U<|Xr C U U<|R5 C U U isAgg25 sizeOf25 V Tk5<|R.callR C U U U U (where_c hJ (by assumption) (by assumption) (by assumption)) fun v1 ro2 hl2 hp=>?_
 obtain⟨vs,hls,rfl⟩:=hp
 refine Rm C U U<|R.ext C U U U U<|R.ext C U U U U<|R.asg C U U U<|Ad C U U<|Xs C<|Xr C U U<|Rm C U U<|R.int C U U U U b_neq<|R.done C<|X.cond C.1 U (fun hq=>?_) (fun hq=>?_)
 ·simp at hq
  refine Xr C U U ?_;refine R.build C U U U zeroValue46 U runUnderlying46 Kr .nil ?_;refine R.build C U U U zeroValue46 U runUnderlying46 Kr .nil<|Rm C U U<|R.store C U U U U sizeOf46 U U U V Ph2<|R.store C U U U U sizeOf46 U U U V Ph2<|Ad C U U<|X.ret C U U func31 U (by exact(.agg U isAgg46 sizeOf46 V Tk2 (.agg U isAgg46 sizeOf46 V Tk2 (.tmp U .nil))))<|Hr hret hl2 ?_
  simp [box,hq,retVal,Rc.cells]
 ·simp at hq
  have hpos:=wheres_pos hq
  have hwl:=wheres_len (b:=b)
  have hcl:=cases_le (openH_good hq).1
  obtain⟨pp,off,cap,l,t,fq,rfl,hrop,hsub⟩:=hls.at Sq.len hpos
  obtain⟨s0,hs0⟩:∃s0,s0=(wheres b)[0]:=⟨_,rfl⟩
  have hE:l[off]? =some (.int .i64 s0.e):=by have:=(hsub 0 hpos).get 0 Dd;rw [hs0];simpa [Sq.cells] using this
  have hN:l[off+1]? =some (.int .i64 s0.n):=by have:=(hsub 0 hpos).get 1 Dd;rw [hs0];simpa [Sq.cells] using this
  refine X.skip C.1<|Xs C<|Xd C fun hok=>Dm C 0 hok U U U<|Dx C 1 hok U U U runUnderlying41 sizeOf27<|Df C 2 hok U U U runUnderlying27 U sizeOf3 U<|D2 C 3 hok U U isAgg3 hrop hE<|Dm C 4 hok U U U<|Dx C 5 hok U U U runUnderlying41 sizeOf27<|Df C 6 hok U U U runUnderlying27 U sizeOf3 U<|D2 C 7 hok U U isAgg3 hrop hE ?_;refine Dp 8 hok (fun _ _ _ A h=>R.build C U (A.w U U) (A.p U U) zeroValue46 U runUnderlying46 Kr (Fills.part U U sizeOf3 U (.here .nil) (Fills.part U U sizeOf3 U (.skip (.here .nil)) .nil)) h)<|Dm C 9 hok U U U<|Dx C 10 hok U U U runUnderlying41 sizeOf27<|Df C 11 hok U U U runUnderlying27 U sizeOf3 U<|D2 C 12 hok U U isAgg3 hrop hN<|Dm C 13 hok U U U<|Dx C 14 hok U U U runUnderlying41 sizeOf27<|Df C 15 hok U U U runUnderlying27 U sizeOf3 U<|D2 C 16 hok U U isAgg3 hrop hN ?_;refine Dp 17 hok (fun _ _ _ A h=>R.build C U (A.w U U) (A.p U U) zeroValue46 U runUnderlying46 Kr (Fills.part U U sizeOf3 U (.here .nil) (Fills.part U U sizeOf3 U (.skip (.here .nil)) .nil)) h)<|De 18 none [true,true,false,false] hok (fun _ _ A hk=>?_)
  refine R.store C U (A.w U U) (A.x U U) (A.x U U) sizeOf46 U U U V Ph2 (hk undef _ ⟨(QFs.cons (QF.of U (fun _ _ A h=>R.loadOneRo C U (A.w U U) (A.x U U) isAgg3 hrop hN h)) (QFs.cons (QF.of U (fun _ _ A h=>R.loadOneRo C U (A.w U U) (A.x U U) isAgg3 hrop hN h)) QFs.nil)), ?_⟩)
  refine De 19 none [false,false] hok (fun _ _ A hk=>?_)
  refine R.store C U (A.w U U) (A.x U U) (A.x U U) sizeOf46 U U U V Ph2 (hk undef _ ⟨QFs.nil, ?_⟩)
  refine D.done C hok Kr<|Xs C<|Xr C U U<|Rm C U U<|Rn C U U runUnderlying41<|Rm C U U<|R.done C<|X.block C.1<|X.drop C.1 (own':=_::_::tail) (.cons_cons _ (.cons_cons _ (List.sublist_cons_self _ _)))<|X.loopI (ι:=Nat) C.1 (fun i=>i≤(wheres b).length) (fun i=> [(4, .int .i64 0),(36, .slice (some ⟨pp,off,none⟩) (wheres b).length cap),(37, .int .i64 ((wheres b).length:Int)),(38, .int .i64 (i:Int)),(2, .pointer (some ⟨p2,0,none⟩)),(3, .pointer (some ⟨p3,0,none⟩))])
   (fun i=>⟨ro2,(p3, .cells (boxFrom s0 ((wheres b).take i)).2.cells.toArray 46 (0,0))::(p2, .cells (boxFrom s0 ((wheres b).take i)).1.cells.toArray 46 (0,0))::tail⟩) (fun i=>(wheres b).length-i) 0 (Nat.zero_le _) rfl ⟨congrArg (fun z=>some (Value.int .i64 z)) hq,rfl,rfl,rfl,rfl,rfl,trivial⟩ fun i hi hnext=>?_
  refine Xr C U U<|R.int C U U U U b_lss<|R.done C<|Xs C<|Xk C U (fun hlt=>?_) (fun hlt=>?_)
  ·have hi':i<(wheres b).length:=O
   have hbt:=boxFrom_take (s:=s0) hi'
   generalize boxFrom s0 ((wheres b).take i)=r at hbt
   refine X.skip C.1<|Xs C<|X.block C.1<|Xr C U U<|Rx C U U U runUnderlying41 sizeOf27<|R.loadAggRo C U U U isAgg27 sizeOf27 hrop (hsub i hi')<|R.alloc C U U zeroValue27 U fun p7=>R.store C U U U U sizeOf27 U U U V Ph2<|R.done C<|Xr C U U<|Rf C 0 U U runUnderlying46 U sizeOf3<|Rl C U U isAgg3 V U<|Rf C 0 U U runUnderlying27 U sizeOf3<|Rl C U U isAgg3 V U<|R.min2 C U U U U<|Rf C 1 U U runUnderlying46 U sizeOf3<|Rl C U U isAgg3 V U<|Rf C 0 U U runUnderlying27 U sizeOf3<|Rl C U U isAgg3 V U<|R.max2 C U U U U ?_;refine R.build C U U U zeroValue46 U runUnderlying46 Kr (Fills.part U U sizeOf3 U (.here .nil) (Fills.part U U sizeOf3 U (.skip (.here .nil)) .nil))<|R.store C U U U U sizeOf46 U U U V Ph2<|R.done C<|X.region C U U<|Rf C 0 U U runUnderlying46 U sizeOf3<|Rl C U U isAgg3 V U<|Rf C 1 U U runUnderlying27 U sizeOf3<|Rl C U U isAgg3 V U<|R.min2 C U U U U<|Rf C 1 U U runUnderlying46 U sizeOf3<|Rl C U U isAgg3 V U<|Rf C 1 U U runUnderlying27 U sizeOf3<|Rl C U U isAgg3 V U<|R.max2 C U U U U ?_;refine R.build C U U U zeroValue46 U runUnderlying46 Kr (Fills.part U U sizeOf3 U (.here .nil) (Fills.part U U sizeOf3 U (.skip (.here .nil)) .nil))<|R.store C U U U U sizeOf46 U U U V Ph2<|R.done C<|X.inBlock C.1<|X.region C U U<|Ra C U U U<|Rm C U U<|R.done C<|X.drop C.1 (own':=_::_::tail) (List.sublist_cons_self _ _) ?_
   have hgo:=hnext (i+1) hi' O
   simp only [hbt] at hgo
   refine X.weaken ?_ hgo
   exact⟨rfl,rfl,rfl,by simp [look],rfl,rfl,trivial⟩
  ·obtain rfl:i=(wheres b).length:=by omega
   rw [List.take_length]
   refine X.exit C.1 U<|Xs C<|Xd C fun hok=>D5 C 0 hok U U isAgg46 sizeOf46 V Tk2<|D5 C 1 hok U U isAgg46 sizeOf46 V Tk2<|De 2 none [true,false] hok (fun _ _ A hk=>?_)
   refine R.store C U (A.w U U) (A.x U U) (A.x U U) sizeOf46 U U U V Ph2 (hk undef _ ⟨(QFs.cons (QF.of U (fun _ _ A h=>R.loadAgg C U (A.w U U) (A.x U U) isAgg46 sizeOf46 V Tk2 h)) QFs.nil), ?_⟩)
   refine De 3 none [false] hok (fun _ _ A hk=>?_)
   refine R.store C U (A.w U U) (A.x U U) (A.x U U) sizeOf46 U U U V Ph2 (hk undef _ ⟨QFs.nil, ?_⟩)
   refine Da C 4 hok U U<|D.done C hok Kr<|X.ret C U U func31 U (by exact(.agg U isAgg46 sizeOf46 V Tk2 (.agg U isAgg46 sizeOf46 V Tk2 (.tmp U .nil))))<|Hr hret hl2 ?_
   have e:(wheres b).headD default=s0:=by rw [hs0];exact headD_get hpos
   rw [box,if_neg (by simp [hq]),e,hq];rfl
end Go.Lg.B
namespace Go.Lg.B
open Go Go.Conc Go.Lg Go.Proofs Go.Proofs.Tryz
structure Cs where
 s:Sq
 o:List Int
 f:List Int
 deriving DecidableEq
variable {ro:RO}{fv v vk:Value}{p:Int→Bool}{l:List Int}{b:Bk}{c0:Cs}
def CsV(ro:RO)(v:Value)(c:Cs):Prop:= ∃vo vf,v= .agg [.int .i64 c.s.e, .int .i64 c.s.n,vo,vf].toArray∧LsI ro vo c.o∧LsI ro vf c.f
theorem CsV.mono{ro':RO}{c:Cs}(h:CsV ro v c)(hl:ro.le ro'):CsV ro' v c:=let⟨vo,vf,e,h1,h2⟩:=h;⟨vo,vf,e,h1.mono hl,h2.mono hl⟩
def Cs.short(c:Cs):Prop:=c.o.length≤1000∧c.f.length≤1000
def findI(p:Int→Bool)(l:List Int):Int:=if l.any p then(l.findIdx p:Int) else -1
theorem findI_hit{i:Nat}(h:i<l.length)(hp:p l[i]=true)(hb:∀j (hj:j<i),p l[j]=false):findI p l=i:=by
 have e:l.findIdx p=i:=(List.findIdx_eq h).2 ⟨hp,fun j hj=>by simp [hb j hj]⟩
 rw [findI,if_pos (by rw [List.any_eq_true];exact⟨_,List.getElem_mem h,hp⟩),e]
theorem findI_miss(hb:∀j (hj:j<l.length),p l[j]=false):findI p l= -1:=by
 rw [findI,if_neg]
 rw [List.any_eq_true]
 rintro⟨x,hx,hp⟩
 obtain⟨j,hj,rfl⟩:=List.mem_iff_getElem.1 hx
 rw [hb j hj] at hp;cases hp
theorem findI_any:decide (0≤findI p l)=l.any p:=by
 unfold findI
 split
 ·rename_i h;simp [h]
 ·rename_i h;simp only [Bool.not_eq_true] at h;simp [h]
def falls(b:Bk):Option Int→Nat→List Int→Nat×Int
 |_,m, []=>(m,0)
 |q,m,k::l=>if b.witness k≠0 then(0,b.witness k) else if q.any (fun x=>decide (k≤x)) then(0,7) else falls b (some k) (m|||2^k.toNat) l
def Cs.aim(c:Cs):Aim:=⟨c.s,c.o.getD 0 0,c.o.getD 1 0,c.o.getD 2 0⟩
def noLot:Lot:=⟨⟨⟨0,0⟩,0,0,0⟩,0⟩
def handed(b:Bk)(c:Cs):Lot×Int:=
 if b.square c.s≠0 then(noLot,b.square c.s) else if c.o.length≠b.cs.length then(noLot,2) else if c.o.any (fun n=> !between n (-3) 3) then(noLot,1) else
  if(falls b none 0 c.f).2≠0 then(noLot,(falls b none 0 c.f).2) else(⟨c.aim,(falls b none 0 c.f).1⟩,0)
def isCase(b:Bk)(c:Cs):Bool×Int:=if checkChart b≠0 then(false,checkChart b) else if(handed b c).2≠0 then(false,(handed b c).2) else(decide ((handed b c).1∈cases b),0)
theorem put_offs(c:Cs)(h:c.o.length≤3):Put 2 (c.o.flatMap ic) (Lot.cells ⟨⟨c.s,0,0,0⟩,0⟩) (Lot.cells ⟨c.aim,0⟩):=by
 obtain⟨s,o,f⟩:=c
 match o,h with
 | [],_=>exact Put.mid [_,_] [] [_,_,_,_] Zi
 | [x],_=>exact Put.mid [_,_] [_] [_,_,_,_] Zi
 | [x,y],_=>exact Put.mid [_,_] [_,_] [_,_,_,_] Zi
 | [x,y,z],_=>exact Put.mid [_,_] [_,_,_] [_,_,_,_] Zi
theorem ones_ic(l:List Int):ones (l.flatMap ic)=true:=by
 induction l with
 |nil=>rfl
 |cons x l ih=>simpa [ones,ic,oneCell] using ih
variable {main:Bool}{J:Goroutine→Mem→Prop}(hJ:Closed prog main J)
include hJ
theorem indexFunc_c(hl:LsI ro v l)(hn:l.length≤1000000)(hf:∀x∈l,CallP prog J fv [.int .i64 x] ro (.bool (p x))):CallP prog J (fnv 180) [v,fv] ro (.int .i64 (findI p l)):=by
 obtain⟨lb,lc,rfl⟩:=hl.form
 refine CallP.intro hJ Kr fun c cs tail hret=>enter_X (n:=19) func180 U U (Nl U) ?_
 have C:Ctx prog main J (bf 180 .normal):=⟨hJ,by decide⟩
 refine Xr C U U<|Ad C U U<|Xs C<|Xr C U U<|Rm C U U<|Rn C U U runUnderlying28<|Rm C U U<|R.done C<|X.block C.1<|X.loopI (ι:=Nat) C.1 (fun i=>i≤l.length∧∀j (h:j<l.length),j<i→p l[j]=false) (fun i=> [(0, .slice lb l.length lc),(1,fv),(7, .int .i64 (l.length:Int)),(8, .int .i64 (i:Int))])
  (fun _=>⟨ro,tail⟩) (fun i=>l.length-i) 0 ⟨Nat.zero_le _,fun _ _ h=>absurd h (Nat.not_lt_zero _)⟩ rfl ⟨U,U,U,U,trivial⟩ fun i hi hnext=>?_
 obtain⟨hi,hb⟩:=hi
 refine Xr C U U<|R.int C U U U U b_lss<|R.done C<|Xs C<|Xk C U (fun hlt=>?_) (fun hlt=>?_)
 ·have hi':i<l.length:=O
  obtain⟨pp,off,cap,ll,t,fq,hsl,hrop,hsub⟩:=hl.at ic_len O
  cases hsl
  have hx:ll[off+i*1]? =some (.int .i64 l[i]):=by have:=(hsub i hi').get 0 Dd;simpa [ic] using this
  refine X.skip C.1<|Xs C<|X.block C.1<|Xr C U U<|Rm C U U<|Ad C U U<|Xr C U U<|Rm C U U<|Rm C U U<|Rm C U U<|Rx C U U U runUnderlying28 sizeOf3<|R.loadOneRo C U U U isAgg3 hrop hx<|R.callP C U U U U (hf _ (List.getElem_mem hi'))<|R.done C<|X.cond C.1 U (fun hr=>?_) (fun hr=>?_)
  ·refine Xr C U U<|Rm C U U<|Ad C U U<|Xt C func180<|Hp hret ?_
   rw [findI_hit hi' hr (fun j hj=>hb j O hj)];rfl
  ·refine X.skip C.1<|X.inBlock C.1<|X.region C U U<|Ra C U U U<|Rm C U U<|R.done C<|X.weaken ?_ (hnext (i+1) ⟨hi',fun j hj hji=>?_⟩ O)
   ·exact⟨rfl,rfl,rfl,by simp [look],trivial⟩
   ·by_cases e:j=i
    ·subst e;exact hr
    ·exact hb j hj O
 ·obtain rfl:i=l.length:=by omega
  refine X.exit C.1 U<|Xr C U U<|Ad C U U<|Xt C func180<|Hp hret ?_
  rw [findI_miss (fun j hj=>hb j hj hj)];rfl
theorem containsFunc_c(hl:LsI ro v l)(hn:l.length≤1000000)(hf:∀x∈l,CallP prog J fv [.int .i64 x] ro (.bool (p x))):CallP prog J (fnv 149) [v,fv] ro (.bool (l.any p)):=by
 refine CallP.intro hJ Kr fun c cs tail hret=>enter_X (n:=9) func149 U U (Nl U) ?_
 have C:Ctx prog main J (bf 149 .normal):=⟨hJ,by decide⟩
 refine Xr C U U<|Ad C U U<|Xr C U U<|Rm C U U<|Rm C U U<|R.callP C U U U U (indexFunc_c hJ (by assumption) (by assumption) (by assumption))<|R.int C U U U U b_geq<|Ad C U U<|Xt C func149<|Hp hret ?_
 (simp only [retVal, ←findI_any])
theorem within_c(n:Int)(ro:RO):CallP prog J (fnv 150) [.int .i64 n] ro (.bool (!between n (-3) 3)):=by
 refine CallP.intro hJ Kr fun c cs tail hret=>enter_X (n:=6) func150 U U (Nl U) ?_
 have C:Ctx prog main J (bf 150 .normal):=⟨hJ,by decide⟩
 refine Xr C U U<|Ad C U U<|Xr C U U<|Rm C U U<|R.callP C U U U U (between_c hJ _ _ _ _)<|R.not C U U U<|Ad C U U<|Xt C func150<|Hp hret ?_
 rfl
theorem handed_c(hv:BkV ro v b)(hb:b.good)(hk:CsV ro vk c0)(hk2:c0.short):CallP prog J (fnv 85) [v,vk] ro (.tuple [(handed b c0).1.val, .int .i64 (handed b c0).2].toArray):=by
 have hvv:=hv
 have hsm:=hb.small
 obtain⟨vc,vw,rfl,hc,hw⟩:=hv
 obtain⟨cb,cc,rfl⟩:=hc.form
 obtain⟨wb,wc,rfl⟩:=hw.form
 obtain⟨vo,vf,rfl,ho,hf⟩:=hk
 obtain⟨ob,oc,rfl⟩:=ho.form
 obtain⟨fb,fc,rfl⟩:=hf.form
 obtain⟨hk1,hk2⟩:=hk2
 have hnc:=hb.nc
 have hnw:=hb.nw
 refine CallP.intro hJ Kr fun c cs tail hret=>enter_X (n:=80) func85 U U (Nl U) ?_
 have C:Ctx prog main J (bf 85 .normal):=⟨hJ,by decide⟩
 refine Xr C U U<|R.box C U U U U fun p2=>R.box C U U U U fun p3=>R.alloc C U U zeroValue111 U fun p4=>Ad C U U<|Xs C<|Xr C U U<|R5 C U U isAgg105 sizeOf105 V Tk5<|Rf C 0 U U runUnderlying30 U sizeOf27<|R5 C U U isAgg27 sizeOf27 V Tk2<|R.callP C U U U U (square_c hJ (by assumption) (by assumption) _)<|Ad C U U<|Xr C U U<|Rm C U U<|R.int C U U U U b_neq<|R.done C<|X.cond C.1 U (fun hq=>?_) (fun hq=>?_)
 ·simp at hq
  refine Xr C U U ?_;refine R.build C U U U zeroValue111 U runUnderlying111 Kr .nil<|Rm C U U<|R.store C U U U U sizeOf111 U U U V Ph6<|Ad C U U<|X.ret C U U func85 U (by exact(.agg U isAgg111 sizeOf111 V Tk6 (.tmp U .nil)))<|Hp hret ?_
  simp [handed,hq,retVal,noLot,Lot.cells]
 ·simp at hq
  refine X.skip C.1<|Xs C<|X.block C.1<|Xr C U U<|Rf C 2 U U runUnderlying30 U sizeOf28<|Rl C U U isAgg28 V U<|Rn C U U runUnderlying28<|Rf C 0 U U runUnderlying105 U sizeOf25<|Rf C 3 U U runUnderlying25 U sizeOf22<|Rl C U U isAgg22 V U<|Rn C U U runUnderlying22<|R.int C U U U U b_neq<|Ad C U U<|X.cond C.1 U (fun hn=>?_) (fun hn=>?_)
  ·simp at hn
   refine Xr C U U ?_;refine R.build C U U U zeroValue111 U runUnderlying111 Kr .nil<|R.store C U U U U sizeOf111 U U U V Ph6<|Ad C U U<|X.ret C U U func85 U (by exact(.agg U isAgg111 sizeOf111 V Tk6 (.tmp U .nil)))<|Hp hret ?_
   rw [handed,if_neg (by simp [hq]),if_pos O];rfl
  ·simp at hn
   have hlen:c0.o.length=b.cs.length:=O
   refine Xr C U U<|Rf C 2 U U runUnderlying30 U sizeOf28<|Rl C U U isAgg28 V U<|R.callP C U U U U (containsFunc_c hJ ho O (fun x _=>within_c hJ x ro))<|Ad C U U<|X.cond C.1 U (fun ha=>?_) (fun ha=>?_)
   ·refine Xr C U U ?_;refine R.build C U U U zeroValue111 U runUnderlying111 Kr .nil<|R.store C U U U U sizeOf111 U U U V Ph6<|Ad C U U<|X.ret C U U func85 U (by exact(.agg U isAgg111 sizeOf111 V Tk6 (.tmp U .nil)))<|Hp hret ?_
    rw [handed,if_neg (by simp [hq]),if_neg O,if_pos ha];rfl
   ·refine X.skip C.1<|X.inBlock C.1<|Xr C U U<|Rf C 0 U U runUnderlying30 U sizeOf27<|R5 C U U isAgg27 sizeOf27 V Tk2 ?_;refine R.build C U U U zeroValue109 U runUnderlying109 Kr (Fills.part U U sizeOf27 U Ph2 .nil) ?_;refine R.build C U U U zeroValue111 U runUnderlying111 Kr (Fills.part U U sizeOf109 U Ph5 .nil)<|R.alloc C U U zeroValue111 U fun p7=>R.store C U U U U sizeOf111 U U U V Ph6<|R.done C<|Xs C<|Xd C fun hok=>Df (off':=0) C 0 hok U U U runUnderlying111 U sizeOf109 U<|Df (off':=2) C 1 hok U U U runUnderlying109 U sizeOf107 U<|Dp 2 hok (fun _ _ _ A h=>R.sliceArr C U (A.w U U) (A.x U U) runUnderlying107 sizeOf3 h)<|Df (off':=2) C 3 hok U U U runUnderlying30 U sizeOf28 U<|D1 C 4 hok U U isAgg28 V U<|De 5 (some 43) [false] hok (fun _ _ A hk=>?_)
    refine R.copy C U (A.w U U) (A.x U U) (A.x U U) runUnderlying28 sizeOf3 (ho.rd ic_len) O (ones_ic _) V (put_offs c0 O) (hk _ _ ⟨QFs.nil, ?_⟩)
    refine D.done C hok Kr<|Xs C<|Xr C U U<|Rf C 3 U U runUnderlying30 U sizeOf28<|Rl C U U isAgg28 V U<|Rn C U U runUnderlying28<|Rm C U U<|R.done C<|X.block C.1 ?_
    have hbase:handed b c0=if(falls b none 0 c0.f).2≠0 then(noLot,(falls b none 0 c0.f).2) else(⟨c0.aim,(falls b none 0 c0.f).1⟩,0):=by
     rw [handed,if_neg (by simp [hq]),if_neg O,if_neg (by simp [ha])]
    rw [hbase] at hret
    refine X.loopI (ι:=Nat×Nat) C.1 (fun s=>s.1≤c0.f.length∧s.2<32∧falls b none 0 c0.f=falls b (if s.1=0 then none else c0.f[s.1-1]?) s.2 (c0.f.drop s.1)) (fun s=> [(5, .int .i64 0),(45, .slice fb c0.f.length fc),(46, .int .i64 (c0.f.length:Int)),(47, .int .i64 (s.1:Int)),(2, .pointer (some ⟨p2,0,none⟩)),(3, .pointer (some ⟨p3,0,none⟩)),(4, .pointer (some ⟨p4,0,none⟩)),(7, .pointer (some ⟨p7,0,none⟩))])
     (fun s=>⟨ro,(p7, .cells (Lot.cells ⟨c0.aim,s.2⟩).toArray 111 (0,0))::(p4, .cells (Lot.cells noLot).toArray 111 (0,0))::(p3, .cells [.int .i64 c0.s.e, .int .i64 c0.s.n, .slice ob c0.o.length oc, .slice fb c0.f.length fc].toArray 30 (0,0))::(p2, .cells [.int .i64 b.w, .int .i64 b.h, .int .i64 b.f, .slice cb b.cs.length cc, .slice wb b.ws.length wc].toArray 105 (0,0))::tail⟩) (fun s=>c0.f.length-s.1) (0,0) ⟨Nat.zero_le _,by decide,rfl⟩ rfl ⟨U,U,U,U,U,U,U,U,trivial⟩ fun s hs hnext=>?_
    obtain⟨i,m⟩:=s
    obtain⟨hi,hm,hfa⟩:=hs
    simp only at hi hm hfa hnext⊢
    refine Xr C U U<|R.int C U U U U b_lss<|R.done C<|Xs C<|Xk C U (fun hlt=>?_) (fun hlt=>?_)
    ·have hi':i<c0.f.length:=O
     rw [List.drop_eq_getElem_cons hi'] at hfa
     obtain⟨pp,off,cap,ll,t,fq,hsl,hrop,hsub⟩:=hf.at ic_len O
     cases hsl
     have hx:∀j (hj:j<c0.f.length),ll[off+j*1]? =some (.int .i64 c0.f[j]):=fun j hj=>by have:=(hsub j hj).get 0 Dd;simpa [ic] using this
     refine X.skip C.1<|Xs C<|X.block C.1<|Xr C U U<|Rm C U U<|Rx C U U U runUnderlying28 sizeOf3<|R.loadOneRo C U U U isAgg3 hrop (hx i hi')<|R.asg C U U U<|Ad C U U<|Xs C<|Xr C U U<|R5 C U U isAgg105 sizeOf105 V Tk5<|Rm C U U<|R.callP C U U U U (witness_c hJ hvv hsm _)<|Ad C U U<|Xr C U U<|Rm C U U<|R.int C U U U U b_neq<|R.done C<|X.cond C.1 U (fun hw1=>?_) (fun hw1=>?_)
     ·simp at hw1
      simp only [falls] at hfa
      rw [if_pos hw1] at hfa
      refine Xr C U U ?_;refine R.build C U U U zeroValue111 U runUnderlying111 Kr .nil<|Rm C U U<|R.store C U U U U sizeOf111 U U U V Ph6<|Ad C U U<|X.ret C U U func85 U (by exact(.agg U isAgg111 sizeOf111 V Tk6 (.tmp U .nil)))<|Hp hret ?_
      rw [hfa,if_pos hw1];rfl
     ·simp at hw1
      have hkk:between c0.f[i] 0 (b.ws.length-1)=true:=there_zero.1 hw1
      simp only [between,Bool.and_eq_true,decide_eq_true_eq] at hkk
      simp only [falls] at hfa
      rw [if_neg (by simp [hw1])] at hfa
      have hm63:m<2^63:=Nat.lt_trans hm Dd
      have hm32:m|||2^ (c0.f[i]).toNat<32:=Nat.or_lt_two_pow (n:=5) hm (Nat.pow_lt_pow_right O O)
      refine X.skip C.1<|Xs C<|Xr C U U<|Rm C U U<|R.int C U U U U b_gtr<|Rm C U U<|R.fix (t:=61) U (fun hg=>?_) (fun hg=>?_)
      ·have hi0:i≠0:=by simp at hg;omega
       rw [if_neg hi0,List.getElem?_eq_getElem O] at hfa
       refine Rm C U U<|Rf C 3 U U runUnderlying30 U sizeOf28<|Rl C U U isAgg28 V U<|Rm C U U<|R.int C U U U U (b_sub O O)<|Rx C U U U runUnderlying28 sizeOf3<|R.loadOneRo C U U U isAgg3 hrop (by rw [show((i:Int) -1).toNat=i-1 by omega];exact hx (i-1) O)<|R.int C U U U U b_leq<|R.pickT C U U U U<|R.done C<|Xk C U (fun hle=>?_) (fun hle=>?_)
       ·refine Xr C U U ?_;refine R.build C U U U zeroValue111 U runUnderlying111 Kr .nil<|R.store C U U U U sizeOf111 U U U V Ph6<|Ad C U U<|X.ret C U U func85 U (by exact(.agg U isAgg111 sizeOf111 V Tk6 (.tmp U .nil)))<|Hp hret ?_
        rw [if_pos (by simpa using hle)] at hfa
        rw [hfa];rfl
       ·refine X.skip C.1<|Xd C fun hok=>Df (off':=5) C 0 hok U U U runUnderlying111 U sizeOf3 U<|D1 C 1 hok U U isAgg3 V U<|Dm C 2 hok U U U<|Dp 3 hok (fun _ _ _ A h=>R.shift C U (A.w U U) (A.x U U) (A.x U U) (b_shlN O O) h)<|Di C 4 hok U U U U U (b_or hm63 (pow62 O))<|Df (off':=5) C 5 hok U U U runUnderlying111 U sizeOf3 U<|De 6 none [false] hok (fun _ _ A hk=>?_)
        refine R.store C U (A.w U U) (A.x U U) (A.x U U) sizeOf3 U U U V (.skip (.skip (.skip (.skip (.skip (.here .nil)))))) (hk undef _ ⟨QFs.nil, ?_⟩)
        refine D.done C hok Kr<|X.inBlock C.1<|X.region C U U<|Ra C U U U<|Rm C U U<|R.done C ?_
        rw [if_neg (by simpa using hle)] at hfa
        refine X.weaken ?_ (hnext (i+1,m|||2^ (c0.f[i]).toNat) ⟨hi',hm32, ?_⟩ Zo)
        ·exact⟨rfl,rfl,rfl,by simp [look],rfl,rfl,rfl,rfl,trivial⟩
        ·rw [hfa];simp [hi']
      ·have hi0:i=0:=by simp at hg;omega
       subst hi0
       refine R.pass C U U<|R.pass C U U<|R.pass C U U<|R.pass C U U<|R.pass C U U<|R.pass C U U<|R.pass C U U<|R.pass C U U<|R.pickF C U U U U<|R.done C<|X.cond C.1 U (fun h=>nomatch h) (fun _=>?_)
       refine X.skip C.1<|Xd C fun hok=>Df (off':=5) C 0 hok U U U runUnderlying111 U sizeOf3 U<|D1 C 1 hok U U isAgg3 V U<|Dm C 2 hok U U U<|Dp 3 hok (fun _ _ _ A h=>R.shift C U (A.w U U) (A.x U U) (A.x U U) (b_shlN O O) h)<|Di C 4 hok U U U U U (b_or hm63 (pow62 O))<|Df (off':=5) C 5 hok U U U runUnderlying111 U sizeOf3 U<|De 6 none [false] hok (fun _ _ A hk=>?_)
       refine R.store C U (A.w U U) (A.x U U) (A.x U U) sizeOf3 U U U V (.skip (.skip (.skip (.skip (.skip (.here .nil)))))) (hk undef _ ⟨QFs.nil, ?_⟩)
       refine D.done C hok Kr<|X.inBlock C.1<|X.region C U U<|Ra C U U U<|Rm C U U<|R.done C ?_
       rw [if_pos rfl,if_neg Zi] at hfa
       refine X.weaken ?_ (hnext (1,m|||2^ (c0.f[0]).toNat) ⟨hi',hm32, ?_⟩ Zo)
       ·exact⟨rfl,rfl,rfl,by simp [look],rfl,rfl,rfl,rfl,trivial⟩
       ·rw [hfa];simp [hi']
    ·obtain rfl:i=c0.f.length:=by omega
     rw [List.drop_length,falls] at hfa
     refine X.exit C.1 U<|Xr C U U<|R5 C U U isAgg111 sizeOf111 V Tk6<|R.store C U U U U sizeOf111 U U U V Ph6<|Ad C U U<|X.ret C U U func85 U (by exact(.agg U isAgg111 sizeOf111 V Tk6 (.tmp U .nil)))<|Hp hret ?_
     rw [hfa];rfl
theorem isCase_c(he:Env ro)(hv:BkV ro v b)(hs:b.short)(hk:CsV ro vk c0)(hk2:c0.short):CallR prog J (fnv 22) [v,vk] ro (fun w _=>w= .tuple [.bool (isCase b c0).1, .int .i64 (isCase b c0).2].toArray):=by
 have hvv:=hv
 have hkk:=hk
 obtain⟨vc,vw,rfl,hc,hw⟩:=hv
 obtain⟨cb,cc,rfl⟩:=hc.form
 obtain⟨wb,wc,rfl⟩:=hw.form
 obtain⟨vo,vf,rfl,ho,hf⟩:=hk
 refine CallR.intro hJ Kr fun c cs tail hret=>enter_X (n:=42) func22 U U (Nl U) ?_
 have C:Ctx prog main J (bf 22 .normal):=⟨hJ,by decide⟩
 refine Xr C U U<|R.box C U U U U fun p2=>R.box C U U U U fun p3=>R.alloc C U U zeroValue4 U fun p4=>R.alloc C U U zeroValue33 U fun p5=>R.done C<|Xs C<|Xr C U U<|R5 C U U isAgg25 sizeOf25 V Tk5<|R.callP C U U U U (checkChart_c hJ (by assumption) (by assumption) (by assumption))<|Ad C U U<|Xr C U U<|Rm C U U<|R.int C U U U U b_neq<|R.done C<|X.cond C.1 U (fun hh=>?_) (fun hh=>?_)
 ·refine Xr C U U<|Rm C U U<|R.store C U U U U sizeOf4 U U U V (.here .nil)<|R.store C U U U U sizeOf33 U U U V (.here .nil)<|R.done C<|X.ret C U U func22 U (by exact(.one U isAgg4 V U (.one U isAgg33 V U .nil)))<|Hr hret (RO.le_refl _) ?_
  simp at hh;simp [isCase,hh,retVal]
 ·simp at hh
  have hb:=good_iff.1 hh
  refine X.skip C.1<|Xr C U U<|R5 C U U isAgg25 sizeOf25 V Tk5 ?_;refine R.build C U U U zeroValue105 U runUnderlying105 Kr (Fills.part U U sizeOf25 U Ph5 .nil)<|R.alloc C U U zeroValue105 U fun p7=>R.store C U U U U sizeOf105 U U U V Ph5<|R.done C<|Xr C U U<|R5 C U U isAgg105 sizeOf105 V Tk5<|R5 C U U isAgg30 sizeOf30 V Tk4<|R.callP C U U U U (handed_c hJ (by assumption) (by assumption) (by assumption) (by assumption))<|Rm C U U<|R.ext C U U U U<|R.ext C U U U U<|R.alloc C U U zeroValue111 U fun p8=>R.store C U U U U sizeOf111 U U U V Ph6<|Ad C U U<|Xs C<|Xr C U U<|Rm C U U<|R.int C U U U U b_neq<|R.done C<|X.cond C.1 U (fun hq=>?_) (fun hq=>?_)
  ·simp at hq
   refine Xr C U U<|Rm C U U<|R.store C U U U U sizeOf4 U U U V (.here .nil)<|R.store C U U U U sizeOf33 U U U V (.here .nil)<|R.done C<|X.ret C U U func22 U (by exact(.one U isAgg4 V U (.one U isAgg33 V U .nil)))<|Hr hret (RO.le_refl _) ?_
   simp [isCase,hh,hq,retVal]
  ·simp at hq
   refine X.skip C.1<|Xs C<|Xr C U U<|R5 C U U isAgg105 sizeOf105 V Tk5<|R.makeFunc C U U U U<|R.done C<|X.block C.1 ?_
   generalize hL:(handed b c0).1=L
   refine X.drop C.1 (own':=_::_::_::tail) (.cons_cons _ (.cons _ (.cons_cons _ (.cons_cons _ (.cons _ (List.sublist_cons_self _ _))))))<|X.rangeFunc C (items:=(cases b).map fun c=> [c.val]) (ro0:=ro)
    (fun k ro' q=>q=(p8, .cells L.cells.toArray 111 (0,0))::(p5, .cells [.int .i64 0].toArray 33 (0,0))::(p4, .cells [.bool false].toArray 4 (0,0))::tail∧∀j (h:j<(cases b).length),j<k→(cases b)[j]≠L)
    (fun x ro' q=>x= .ret∧q=(p8, .cells L.cells.toArray 111 (0,0))::(p5, .cells [.int .i64 0].toArray 33 (0,0))::(p4, .cells [.bool true].toArray 4 (0,0))::tail∧L∈cases b)
    rfl rfl (cases_it hJ hvv hb) (RO.le_refl _) rfl (fun x hx=>by obtain⟨a,_,rfl⟩:=List.mem_map.1 hx;rfl) ⟨rfl,fun j _ h=>absurd h (Nat.not_lt_zero _)⟩ (fun _ _ _ _ _ h=>h) ?_ ?_ ?_
   ·intro kk hk l cs H H1 ro1 q hle1 hI C hbegin hdone hjump
    obtain⟨rfl,hne⟩:=hI
    have hk':kk<(cases b).length:=by simpa using hk
    rw [List.getElem_map]
    simp only [roundSlots]
    have hnext:(cases b)[kk]≠L→∀j (h:j<(cases b).length),j<kk+1→(cases b)[j]≠L:=fun hx j h hj=>by
     by_cases e:j=kk
     ·subst e;exact hx
     ·exact hne j h O
    have hmem:=List.getElem_mem hk'
    generalize(cases b)[kk]=co at hnext hmem
    refine X.region C U U<|R.alloc C U U zeroValue111 U fun p10=>R.store C U U U U sizeOf111 U U U V Ph6<|R.done C<|hbegin _ _ (_::_::_::_::tail)<|X.block C.1<|Xr C U U<|Rf C 0 U U runUnderlying111 U sizeOf109<|Rf C 2 U U runUnderlying109 U sizeOf107<|R5 C U U isAgg107 sizeOf107 V (.skip (.skip Tk3))<|Rf C 0 U U runUnderlying111 U sizeOf109<|Rf C 2 U U runUnderlying109 U sizeOf107<|R5 C U U isAgg107 sizeOf107 V (.skip (.skip Tk3))<|R.eqAgg (p:= [co.a.x,co.a.y,co.a.z]) (q:= [L.a.x,L.a.y,L.a.z]) C U U U U eqT107 U U Kr<|Rm C U U<|R.fix (t:=37) U (fun hz=>?_) (fun hz=>?_)
    ·refine R5 C U U isAgg111 sizeOf111 V Tk6<|R5 C U U isAgg111 sizeOf111 V Tk6<|R.eqAgg (p:= [co.a.s.e,co.a.s.n,co.a.x,co.a.y,co.a.z,co.m]) (q:= [L.a.s.e,L.a.s.n,L.a.x,L.a.y,L.a.z,L.m]) C U U U U eqT111 U U Kr<|R.pickT C U U U U<|R.done C<|X.cond C.1 U (fun hz2=>?_) (fun hz2=>?_)
     ·refine Xr C U U<|R.store C U U U U sizeOf4 U U U V (.here .nil)<|R.store C U U U U sizeOf33 U U U V (.here .nil)<|R.done C<|X.drop C.1 (own':=_::_::_::(tail++H1)) (List.sublist_cons_self _ _)<|hjump _ _ _ _ (_::_::_::tail) (RO.le_refl _) trivial ⟨rfl,rfl, ?_⟩
      have:co=L:=by obtain⟨⟨⟨_,_⟩,_,_,_⟩,_⟩:=co;obtain⟨⟨⟨_,_⟩,_,_,_⟩,_⟩:=L;simp at hz2⊢;omega
      rw [←this];exact hmem
     ·refine X.skip C.1<|X.inBlock C.1<|X.drop C.1 (own':=_::_::_::(tail++H1)) (List.sublist_cons_self _ _)<|hdone _ _ (_::_::_::tail) (RO.le_refl _) ⟨rfl,hnext ?_⟩
      rintro rfl;simp at hz2
    ·refine R.pass C U U<|R.pass C U U<|R.pass C U U<|R.pickF C U U U U<|R.done C<|X.cond C.1 U (fun h=>nomatch h) (fun _=>?_)
     refine X.skip C.1<|X.inBlock C.1<|X.drop C.1 (own':=_::_::_::(tail++H1)) (List.sublist_cons_self _ _)<|hdone _ _ (_::_::_::tail) (RO.le_refl _) ⟨rfl,hnext ?_⟩
     rintro rfl;simp at hz
   ·rintro r ro' q' hl ⟨rfl,hne⟩
    refine X.inBlock C.1<|Xr C U U<|R.store C U U U U sizeOf4 U U U V (.here .nil)<|R.store C U U U U sizeOf33 U U U V (.here .nil)<|R.done C<|X.retM C U U func22 U (.cons V (.nil)) (by exact(.one U isAgg4 V U (.one U isAgg33 V U .nil)))<|Hr hret hl ?_
    have:(handed b c0).1∉cases b:=by
     rw [hL]
     intro hm
     obtain⟨j,hj,e⟩:=List.mem_iff_getElem.1 hm
     exact hne j hj (by simpa using hj) e
    simp [isCase,hh,hq,this,retVal]
   ·rintro r x ro' q' hl ⟨rfl,rfl,ht⟩
    refine X.retM C U U func22 U (.cons V (.nil)) (by exact(.one U isAgg4 V U (.one U isAgg33 V U .nil)))<|Hr hret hl ?_
    rw [←hL] at ht
    simp [isCase,hh,hq,ht,retVal]
end Go.Lg.B
namespace Go.Lg.B
open Go Go.Conc Go.Lg Go.Proofs Go.Proofs.Tryz
variable {va vb:Value}{ro:RO}{a d:List Int}
def cmpI(x y:Int):Int:=if x<y then -1 else if y<x then 1 else 0
def cmpL:List Int→List Int→Int
 | [], []=>0
 | [],_::_=> -1
 |_::_, []=>1
 |x::xs,y::ys=>if cmpI x y≠0 then cmpI x y else cmpL xs ys
def smaller(a c:List Int):Bool:=decide (a.length<c.length)||(a.length==c.length && decide (cmpL a c<0))
def pick(o y:List Int):List Int:=if smaller y o then y else o
def bestFrom(o:List Int)(l:List (List Int)):List Int:=l.foldl pick o
def bestOf(l:List (List Int)):List Int:=bestFrom (l.headD []) l.tail
variable {main:Bool}{J:Goroutine→Mem→Prop}(hJ:Closed prog main J)
include hJ
theorem isNaN_c(x:Int)(ro:RO):CallP prog J (fnv 236) [.int .i64 x] ro (.bool false):=by
 refine CallP.intro hJ Kr fun c cs tail hret=>enter_X (n:=6) func236 U U (Nl U) ?_
 have C:Ctx prog main J (bf 236 .normal):=⟨hJ,by decide⟩
 refine Xr C U U<|Ad C U U<|Xr C U U<|Rm C U U<|Rm C U U<|R.int C U U U U b_neq<|Ad C U U<|Xt C func236<|Hp hret ?_
 simp [retVal]
theorem cmpI_c(x y:Int)(ro:RO):CallP prog J (fnv 195) [.int .i64 x, .int .i64 y] ro (.int .i64 (cmpI x y)):=by
 refine CallP.intro hJ Kr fun c cs tail hret=>enter_X (n:=20) func195 U U (Nl U) ?_
 have C:Ctx prog main J (bf 195 .normal):=⟨hJ,by decide⟩
 refine Xr C U U<|Ad C U U<|Xr C U U<|Rm C U U<|R.callP C U U U U (isNaN_c hJ _ _)<|R.fixv (t:=8) (v':= .bool false) U (by rfl)<|Ad C U U<|Xr C U U<|Rm C U U<|R.callP C U U U U (isNaN_c hJ _ _)<|R.fixv (t:=10) (v':= .bool false) U (by rfl)<|Ad C U U<|Xs C<|Xr C U U<|Rm C U U<|R.done C<|X.cond C.1 U (fun h=>nomatch h) (fun _=>?_)
 refine X.skip C.1<|Xs C<|Xr C U U<|Rm C U U<|R.done C<|X.cond C.1 U (fun h=>nomatch h) (fun _=>?_)
 refine X.skip C.1<|Xs C<|Xr C U U<|Rm C U U<|Rm C U U<|R.int C U U U U b_lss<|R.done C<|X.cond C.1 U (fun q1=>?_) (fun q1=>?_)
 ·refine Xr C U U<|Ad C U U<|Xt C func195<|Hp hret ?_
  first|(simp_all [cmpI,retVal];done)|(simp_all [cmpI,retVal];omega)
 ·refine X.skip C.1<|Xs C<|Xr C U U<|Rm C U U<|Rm C U U<|R.int C U U U U b_gtr<|R.done C<|X.cond C.1 U (fun q2=>?_) (fun q2=>?_)
  ·refine Xr C U U<|Ad C U U<|Xt C func195<|Hp hret ?_
   first|(simp_all [cmpI,retVal];done)|(simp_all [cmpI,retVal];omega)
  ·refine X.skip C.1<|Xr C U U<|Ad C U U<|Xt C func195<|Hp hret ?_
   first|(simp_all [cmpI,retVal];done)|(simp_all [cmpI,retVal];omega)
theorem cmpL_c(ha:LsI ro va a)(hc:LsI ro vb d)(h1:a.length≤1000000)(h2:d.length≤1000000):CallP prog J (fnv 160) [va,vb] ro (.int .i64 (cmpL a d)):=by
 obtain⟨ab,ac,rfl⟩:=ha.form
 obtain⟨bb,bc,rfl⟩:=hc.form
 refine CallP.intro hJ Kr fun c cs tail hret=>enter_X (n:=36) func160 U U (Nl U) ?_
 have C:Ctx prog main J (bf 160 .normal):=⟨hJ,by decide⟩
 refine Xr C U U<|Ad C U U<|Xs C<|Xr C U U<|Rm C U U<|Rn C U U runUnderlying28<|Rm C U U<|R.done C<|X.block C.1<|X.loopI (ι:=Nat) C.1 (fun i=>i≤a.length∧i≤d.length∧cmpL a d=cmpL (a.drop i) (d.drop i)) (fun i=> [(4, .int .i64 0),(0, .slice ab a.length ac),(1, .slice bb d.length bc),(9, .slice ab a.length ac),(10, .int .i64 (a.length:Int)),(11, .int .i64 (i:Int))])
  (fun _=>⟨ro,tail⟩) (fun i=>a.length-i) 0 ⟨Nat.zero_le _,Nat.zero_le _,rfl⟩ rfl ⟨U,U,U,U,U,U,trivial⟩ fun i hi hnext=>?_
 obtain⟨hi,hi2,hcm⟩:=hi
 refine Xr C U U<|R.int C U U U U b_lss<|R.done C<|Xs C<|Xk C U (fun hlt=>?_) (fun hlt=>?_)
 ·have hi':i<a.length:=O
  rw [List.drop_eq_getElem_cons hi'] at hcm
  obtain⟨pp,off,cap,ll,t,fq,hsl,hrop,hsub⟩:=ha.at ic_len O
  cases hsl
  have hx:ll[off+i*1]? =some (.int .i64 a[i]):=by have:=(hsub i hi').get 0 Dd;simpa [ic] using this
  refine X.skip C.1<|Xs C<|X.block C.1<|Xr C U U<|Rm C U U<|Rx C U U U runUnderlying28 sizeOf3<|R.loadOneRo C U U U isAgg3 hrop hx<|R.asg C U U U<|Ad C U U<|Xs C<|Xr C U U<|Rm C U U<|Rm C U U<|Rn C U U runUnderlying28<|R.int C U U U U b_geq<|R.done C<|Xk C U (fun hge=>?_) (fun hge=>?_)
  ·obtain rfl:i=d.length:=by omega
   refine Xr C U U<|Ad C U U<|Xt C func160<|Hp hret ?_
   rw [hcm,List.drop_length];rfl
  ·have hj':i<d.length:=O
   rw [List.drop_eq_getElem_cons hj',cmpL] at hcm
   obtain⟨pp2,off2,cap2,ll2,t2,fq2,hsl2,hrop2,hsub2⟩:=hc.at ic_len O
   cases hsl2
   have hx2:ll2[off2+i*1]? =some (.int .i64 d[i]):=by have:=(hsub2 i hj').get 0 Dd;simpa [ic] using this
   refine X.skip C.1<|Xr C U U<|Rm C U U<|Rm C U U<|Rx C U U U runUnderlying28 sizeOf3<|R.loadOneRo C U U U isAgg3 hrop2 hx2<|Ad C U U<|Xr C U U<|Rm C U U<|Rm C U U<|R.callP C U U U U (cmpI_c hJ _ _ _)<|Ad C U U<|Xr C U U<|Rm C U U<|R.int C U U U U b_neq<|R.done C<|X.cond C.1 U (fun hne=>?_) (fun hne=>?_)
   ·refine Xr C U U<|Rm C U U<|Ad C U U<|Xt C func160<|Hp hret ?_
    rw [hcm,if_pos (by simpa using hne)];rfl
   ·refine X.skip C.1<|X.inBlock C.1<|X.region C U U<|Ra C U U U<|Rm C U U<|R.done C ?_
    rw [if_neg (by simpa using hne)] at hcm
    refine X.weaken ?_ (hnext (i+1) ⟨hi',hj',hcm⟩ O)
    exact⟨rfl,rfl,rfl,rfl,rfl,by simp [look],trivial⟩
 ·obtain rfl:i=a.length:=by omega
  rw [List.drop_length] at hcm
  refine X.exit C.1 U<|Xs C<|Xr C U U<|Rm C U U<|Rn C U U runUnderlying28<|Rm C U U<|Rn C U U runUnderlying28<|R.int C U U U U b_lss<|R.done C<|Xk C U (fun hz=>?_) (fun hz=>?_)
  ·refine Xr C U U<|Ad C U U<|Xt C func160<|Hp hret ?_
   rw [hcm,List.drop_eq_getElem_cons O];rfl
  ·refine X.skip C.1<|Xr C U U<|Ad C U U<|Xt C func160<|Hp hret ?_
   have:d.drop a.length= []:=List.drop_eq_nil_of_le O
   rw [hcm,this];rfl
theorem smaller_c(ha:LsI ro va a)(hc:LsI ro vb d)(h1:a.length≤1000000)(h2:d.length≤1000000):CallP prog J (fnv 123) [va,vb] ro (.bool (smaller a d)):=by
 have ha0:=ha
 have hc0:=hc
 obtain⟨ab,ac,rfl⟩:=ha.form
 obtain⟨bb,bc,rfl⟩:=hc.form
 refine CallP.intro hJ Kr fun c cs tail hret=>enter_X (n:=23) func123 U U (Nl U) ?_
 have C:Ctx prog main J (bf 123 .normal):=⟨hJ,by decide⟩
 refine Xr C U U<|Ad C U U<|Xr C U U<|Rm C U U<|Rn C U U runUnderlying28<|Rm C U U<|Rn C U U runUnderlying28<|R.int C U U U U b_lss<|Rm C U U<|R.fix (t:=10) U (fun q1=>?_) (fun q1=>?_)
 ·refine R.pass C U U<|R.pass C U U<|R.pass C U U<|R.pass C U U<|R.pass C U U<|R.pass C U U<|R.pass C U U<|R.pass C U U<|R.pass C U U<|R.pass C U U<|R.pass C U U<|R.pickT C U U U U<|Ad C U U<|Xt C func123<|Hp hret ?_
  (simp only [retVal,smaller];congr 1;simp only [decide_eq_true_eq,decide_eq_false_iff_not,beq_iff_eq,beq_eq_false_iff_ne,ne_eq,Int.ofNat_lt,Int.natCast_inj] at*;simp [*])
 ·refine Rm C U U<|Rn C U U runUnderlying28<|Rm C U U<|Rn C U U runUnderlying28<|R.int C U U U U b_eql<|Rm C U U<|R.fix (t:=16) U (fun q2=>?_) (fun q2=>?_)
  ·refine Rm C U U<|Rm C U U<|R.callP C U U U U (cmpL_c hJ ha0 hc0 h1 h2)<|R.int C U U U U b_lss<|R.pickT C U U U U<|R.pickF C U U U U<|Ad C U U<|Xt C func123<|Hp hret ?_
   (simp only [retVal,smaller];congr 1;simp only [decide_eq_true_eq,decide_eq_false_iff_not,beq_iff_eq,beq_eq_false_iff_ne,ne_eq,Int.ofNat_lt,Int.natCast_inj] at*;simp [*])
  ·refine R.pass C U U<|R.pass C U U<|R.pass C U U<|R.pass C U U<|R.pickF C U U U U<|R.pickF C U U U U<|Ad C U U<|Xt C func123<|Hp hret ?_
   (simp only [retVal,smaller];congr 1;simp only [decide_eq_true_eq,decide_eq_false_iff_not,beq_iff_eq,beq_eq_false_iff_ne,ne_eq,Int.ofNat_lt,Int.natCast_inj] at*;simp [*])
end Go.Lg.B
namespace Go.Lg.B
open Go Go.Conc Go.Lg Go.Proofs Go.Proofs.Tryz
variable {x y:Int}{a c:List Int}{l:List (List Int)}
theorem cmpI_flip(x y:Int):cmpI y x= -cmpI x y:=by unfold cmpI;split<;>split<;>(try split)<;>omega
theorem cmpI_zero:cmpI x y=0↔x=y:=by unfold cmpI;split<;>(try split)<;>omega
theorem cmpI_neg:cmpI x y<0↔x<y:=by unfold cmpI;split<;>(try split)<;>omega
theorem cmpL_flip:∀a c:List Int,cmpL c a= -cmpL a c
 | [], []=>rfl
 | [],_::_=>rfl
 |_::_, []=>rfl
 |x::xs,y::ys=>by
  have h:=cmpI_flip x y
  have ih:=cmpL_flip xs ys
  simp only [cmpL]
  split<;>split<;>omega
theorem cmpL_zero:∀ {a c:List Int},cmpL a c=0→a=c
 | [], [],_=>rfl
 | [],_::_,h=>by simp [cmpL] at h
 |_::_, [],h=>by simp [cmpL] at h
 |x::xs,y::ys,h=>by
  simp only [cmpL] at h
  split at h
  ·contradiction
  ·rename_i hx
   simp only [ne_eq,Decidable.not_not] at hx
   rw [cmpI_zero.1 hx,cmpL_zero h]
theorem cmpL_refl:∀a:List Int,cmpL a a=0
 | []=>rfl
 |x::xs=>by
  have:cmpI x x=0:=cmpI_zero.2 rfl
  simp [cmpL,this,cmpL_refl xs]
theorem cmpL_trans:∀ {a c e:List Int},cmpL a c<0→cmpL c e<0→cmpL a e<0
 | [], [],_,h,_=>by simp [cmpL] at h
 | [],_::_, [],_,h=>by simp [cmpL] at h
 | [],_::_,_::_,_,_=>by simp [cmpL]
 |_::_, [],_,h,_=>by simp [cmpL] at h
 |_::_,_::_, [],_,h=>by simp [cmpL] at h
 |x::xs,y::ys,z::zs,h1,h2=>by
  simp only [cmpL] at h1 h2⊢
  by_cases e1:cmpI x y=0
  ·rw [if_neg (by simp [e1])] at h1
   have:=cmpI_zero.1 e1
   subst this
   by_cases e2:cmpI x z=0
   ·rw [if_neg (by simp [e2])] at h2⊢
    exact cmpL_trans h1 h2
   ·rw [if_pos e2] at h2⊢;exact h2
  ·rw [if_pos e1] at h1
   have h3:=cmpI_neg.1 h1
   by_cases e2:cmpI y z=0
   ·have:=cmpI_zero.1 e2
    subst this
    rw [if_pos e1];exact h1
   ·rw [if_pos e2] at h2
    have h4:=cmpI_neg.1 h2
    have h5:cmpI x z<0:=cmpI_neg.2 O
    rw [if_pos O];exact h5
theorem smaller_iff:smaller a c=true↔a.length<c.length∨a.length=c.length∧cmpL a c<0:=by simp [smaller]
theorem smaller_trans{e:List Int}(h1:smaller a c=true)(h2:smaller c e=true):smaller a e=true:=by
 rw [smaller_iff] at*
 rcases h1 with h1|⟨h1,h1'⟩
 ·rcases h2 with h2|⟨h2,_⟩<;>exact .inl O
 ·rcases h2 with h2|⟨h2,h2'⟩
  ·exact .inl O
  ·exact .inr ⟨O,cmpL_trans h1' h2'⟩
theorem smaller_total(h1:¬smaller a c=true)(h2:¬smaller c a=true):a=c:=by
 rw [smaller_iff] at*
 have h3:=cmpL_flip a c
 refine cmpL_zero ?_
 have e1:a.length=c.length:=O
 have e2:¬cmpL a c<0:=fun h=>h1 (.inr ⟨e1,h⟩)
 have e3:¬cmpL c a<0:=fun h=>h2 (.inr ⟨e1.symm,h⟩)
 omega
theorem bestFrom_least:∀ (l:List (List Int)) (o:List Int),bestFrom o l∈o::l∧∀x∈o::l,¬smaller x (bestFrom o l)=true
 | [],o=>⟨by simp [bestFrom],fun x hx=>by
  simp only [List.mem_singleton] at hx
  subst hx
  simp [bestFrom,smaller,cmpL_refl]⟩
 |y::l,o=>by
  have⟨h1,h2⟩:=bestFrom_least l (pick o y)
  have e:bestFrom o (y::l)=bestFrom (pick o y) l:=rfl
  rw [e]
  generalize bestFrom (pick o y) l=r at h1 h2
  unfold pick at h1 h2
  by_cases hs:smaller y o=true
  ·rw [if_pos hs] at h1 h2
   refine⟨?_,fun x hx=>?_⟩
   ·rcases List.mem_cons.1 h1 with h|h
    ·subst h;simp
    ·simp [h]
   ·rcases List.mem_cons.1 hx with rfl|hx
    ·exact fun h=>h2 y List.mem_cons_self (smaller_trans hs h)
    ·exact h2 x hx
  ·rw [if_neg hs] at h1 h2
   refine⟨?_,fun x hx=>?_⟩
   ·rcases List.mem_cons.1 h1 with h|h
    ·subst h;simp
    ·simp [h]
   ·rcases List.mem_cons.1 hx with rfl|hx
    ·exact h2 x List.mem_cons_self
    ·rcases List.mem_cons.1 hx with rfl|hx
     ·intro h
      by_cases ho:smaller o x=true
      ·exact h2 o List.mem_cons_self (smaller_trans ho h)
      ·have:=smaller_total hs ho
       subst this
       exact h2 x List.mem_cons_self h
     ·exact h2 x (List.mem_cons_of_mem _ hx)
theorem bestOf_least(h:l≠ []):bestOf l∈l∧∀x∈l,¬smaller x (bestOf l)=true:=by
 cases l with
 |nil=>exact absurd rfl h
 |cons o l=>exact bestFrom_least l o
theorem bestOf_unique{r:List Int}(h1:r∈l)(h2:∀x∈l,¬smaller x r=true):bestOf l=r:=by
 have⟨h3,h4⟩:=bestOf_least (l:=l) (fun e=>by rw [e] at h1;cases h1)
 exact smaller_total (h2 _ h3) (h4 _ h1)
theorem bestOf_perm{l':List (List Int)}(h:l.Perm l'):bestOf l=bestOf l':=by
 cases l' with
 |nil=>rw [h.eq_nil]
 |cons o l'=>
  have⟨h3,h4⟩:=bestOf_least (l:=o::l') Zi
  exact bestOf_unique (h.mem_iff.2 h3) fun x hx=>h4 x (h.mem_iff.1 hx)
theorem bestFrom_take{o:List Int}{i:Nat}(h:i<l.length):bestFrom o (l.take (i+1))=pick (bestFrom o (l.take i)) l[i]:=by
 unfold bestFrom
 rw [List.take_succ_eq_append_getElem h,List.foldl_append];rfl
variable {main:Bool}{J:Goroutine→Mem→Prop}(hJ:Closed prog main J)
include hJ
theorem best_c{v:Value}{ro:RO}{L:List (List Int)}(h:LsLs ro v L)(hne:L≠ [])(hn:L.length≤1000000)(hs:∀x∈L,x.length≤1000000):CallR prog J (fnv 122) [fnv 123,v] ro (fun w ro'=>LsI ro' w (bestOf L)):=by
 obtain⟨zs,hls,rfl,hz,hcap⟩:=h
 have hzp:0<zs.length:=by cases zs with
  |nil=>exact absurd rfl hne
  |cons=>simp
 have hzl:zs.length≤1000000:=by simpa using hn
 obtain⟨pp,off,cap,ll,t,fq,rfl,hrop,hsub⟩:=hls.at (fun _=>rfl) hzp
 have hcap:=hcap _ _ _ rfl
 have hx:∀j (hj:j<zs.length),ll[off+j*1]? =some zs[j].1:=fun j hj=>by have:=(hsub j hj).get 0 Dd;simpa using this
 refine CallR.intro hJ Kr fun c cs tail hret=>enter_X (n:=25) func122 U U (Nl U) ?_
 have C:Ctx prog main J (bf 122 .normal):=⟨hJ,by decide⟩
 refine Xr C U U<|Ad C U U<|Xr C U U<|Rm C U U<|Rx C U U U runUnderlying149 sizeOf28<|R.loadOneRo C U U U isAgg28 hrop (hx 0 hzp)<|Ad C U U<|Xs C<|Xr C U U<|Rm C U U<|R.sliceFrom C U U U U runUnderlying149 sizeOf28 O O<|Rn C U U runUnderlying149<|Rm C U U<|R.done C<|X.block C.1 ?_
 obtain⟨bs,hbs,hbs2⟩:∃bs,bs=(if cap=Int.toNat 1 then some (⟨pp,off,none⟩:Addr) else(some (⟨pp,off,none⟩:Addr)).map (·.add (Int.toNat 1*1)))∧(1<zs.length→bs=some ⟨pp,off+1,none⟩):=⟨_,rfl,fun h=>by rw [if_neg Zo];rfl⟩
 have hz0:=hz _ (List.getElem_mem hzp)
 have htl:((zs.map (·.2)).tail).length=zs.length-1:=by simp
 have hbo:bestOf (zs.map (·.2))=bestFrom zs[0].2 ((zs.map (·.2)).tail):=by
  cases zs with
  |nil=>simp at hzp
  |cons z zs=>rfl
 rw [hbo] at hret
 have hmem:∀i,(bestFrom zs[0].2 (((zs.map (·.2)).tail).take i)).length≤1000000:=fun i=>by
  have:=(bestFrom_least (((zs.map (·.2)).tail).take i) zs[0].2).1
  rcases List.mem_cons.1 this with h|h
  ·rw [h];exact hs _ (List.mem_map.2 ⟨_,List.getElem_mem hzp,rfl⟩)
  ·exact hs _ (List.mem_of_mem_tail (List.mem_of_mem_take h))
 refine X.loopI (ι:=Nat×Value) C.1 (fun s=>s.1≤zs.length-1∧LsI ro s.2 (bestFrom zs[0].2 (((zs.map (·.2)).tail).take s.1))) (fun s=> [(0,fnv 123),(5,s.2),(12, .slice bs (zs.length-1) (cap-1)),(13, .int .i64 ((zs.length-1:Nat):Int)),(14, .int .i64 (s.1:Int))])
  (fun _=>⟨ro,tail⟩) (fun s=>zs.length-1-s.1) (0,zs[0].1) ⟨Nat.zero_le _,by simpa [bestFrom] using hz0⟩ rfl ⟨rfl,rfl,by rw [hbs];rfl,rfl,rfl,trivial⟩ fun s hs' hnext=>?_
 obtain⟨i,w⟩:=s
 obtain⟨hi,hw⟩:=hs'
 simp only at hi hw hnext⊢
 refine Xr C U U<|R.int C U U U U b_lss<|R.done C<|Xs C<|Xk C U (fun hlt=>?_) (fun hlt=>?_)
 ·have hi':i+1<zs.length:=O
  have hbs3:=hbs2 O
  clear hbs
  subst hbs3
  have hbt:=bestFrom_take (o:=zs[0].2) (l:=(zs.map (·.2)).tail) (i:=i) O
  have hget:((zs.map (·.2)).tail)[i]=zs[i+1].2:=by simp
  rw [hget] at hbt
  have hy:=hz _ (List.getElem_mem hi')
  refine X.skip C.1<|Xs C<|X.block C.1<|Xr C U U<|Rx C U U U runUnderlying149 sizeOf28<|R.loadOneRo C U U U isAgg28 hrop (by have:=hx (i+1) hi';rw [show off+1+((i:Int)).toNat*1=off+(i+1)*1 by omega];exact this)<|Ad C U U<|Xr C U U<|Rm C U U<|Rm C U U<|Rm C U U<|R.callP C U U U U (smaller_c hJ hy hw (hs _ (List.mem_map.2 ⟨_,List.getElem_mem hi',rfl⟩)) (hmem i))<|R.done C<|X.cond C.1 U (fun hr=>?_) (fun hr=>?_)
  ·refine X.region C U U<|Rm C U U<|Ad C U U<|X.inBlock C.1<|X.region C U U<|Ra C U U U<|Rm C U U<|R.done C ?_
   rw [pick,if_pos hr] at hbt
   refine X.weaken ?_ (hnext (i+1,zs[i+1].1) ⟨by simp;omega,by simp only;rw [hbt];exact hy⟩ Zo)
   exact⟨rfl,rfl,rfl,rfl,by simp [look],trivial⟩
  ·refine X.skip C.1<|X.inBlock C.1<|X.region C U U<|Ra C U U U<|Rm C U U<|R.done C ?_
   rw [pick,if_neg (by simp [hr])] at hbt
   refine X.weaken ?_ (hnext (i+1,w) ⟨by simp;omega,by simp only;rw [hbt];exact hw⟩ Zo)
   exact⟨rfl,rfl,rfl,rfl,by simp [look],trivial⟩
 ·obtain rfl:i=zs.length-1:=by omega
  rw [List.take_of_length_le O] at hw
  refine X.exit C.1 U<|Xr C U U<|Rm C U U<|Ad C U U<|Xt C func122<|Hr hret (RO.le_refl _) ?_
  exact hw
end Go.Lg.B
namespace Go.Lg.B
open Go Go.Conc Go.Lg Go.Proofs Go.Proofs.Tryz
variable {b:Bk}{v vc vw:Value}{ro:RO}{m p:Nat}{t:TypeId}{fq:Nat×Nat}{Q:Machine→Outcome→World→Trace→Prop}
def fewP(b:Bk)(m:Nat):Bool:=together b (andNot (everybody b) m)
def clashP(b:Bk)(m:Nat):Bool:= !together b m
def listsOf(b:Bk)(p:Nat→Bool):List (List Int):=((List.range (2^b.ws.length)).filter p).map listOf
def fewest(b:Bk):List Int×Int:=if checkChart b≠0 then([],checkChart b) else(bestOf (listsOf b (fewP b)),0)
def clash(b:Bk):List Int×Int:=if checkChart b≠0 then([],checkChart b) else(bestOf (listsOf b (clashP b)),0)
theorem offs_ne:∀ (l:List Rc) (i:Nat) (a:Aim),(∀x∈l,x.fine=true)→offs l i a≠ []
 | [],_,_,_=>by simp [offs]
 |x::l,i,a,h=>by
  have hx:=h x List.mem_cons_self
  simp only [Rc.fine,isReach,Bool.and_eq_true,decide_eq_true_eq] at hx
  simp only [offs]
  intro e
  rw [List.flatMap_eq_nil_iff] at e
  obtain⟨m,hm⟩:∃m,(x.hi+1-x.lo).toNat=m+1:=⟨(x.hi-x.lo).toNat,O⟩
  rw [hm] at e
  exact offs_ne l (i+1) _ (fun y hy=>h y (List.mem_cons_of_mem _ hy)) (e x.lo (by simp [rz]))
theorem aims_ne(hb:b.good):aims b≠ []:=by
 have hw:=hb.w
 have hh:=hb.h
 intro e
 unfold aims at e
 rw [List.flatMap_eq_nil_iff] at e
 have hwh:0<b.w*b.h:=Int.mul_pos O O
 obtain⟨m,hm⟩:∃m,(b.w*b.h).toNat=m+1:=⟨(b.w*b.h).toNat-1,O⟩
 rw [hm] at e
 exact offs_ne _ _ _ hb.cs (e 0 (by simp [ups]))
theorem together_zero(hb:b.good):together b 0=true:=by
 unfold together
 rw [List.any_eq_true]
 cases h:aims b with
 |nil=>exact absurd h (aims_ne hb)
 |cons a l=>exact⟨a,List.mem_cons_self,by simp⟩
theorem everybody_lt(b:Bk):everybody b<2^b.ws.length:=by
 have:=Nat.two_pow_pos b.ws.length
 unfold everybody;omega
theorem fewP_all(hb:b.good):fewP b (everybody b)=true:=by
 unfold fewP andNot
 rw [Nat.and_self,Nat.xor_self]
 exact together_zero hb
theorem listsOf_few(hb:b.good):listsOf b (fewP b)≠ []:=by
 intro e
 have:listOf (everybody b)∈listsOf b (fewP b):=List.mem_map.2 ⟨_,List.mem_filter.2 ⟨List.mem_range.2 (everybody_lt b),fewP_all hb⟩,rfl⟩
 rw [e] at this;cases this
theorem listOf_len(m:Nat):(listOf m).length≤5:=bitsUpto_len m 5
theorem lists_facts(hb:b.good){p:Nat→Bool}{L:List (List Int)}{ms:List Nat}(h1:ms.Perm ((List.range (2^b.ws.length)).filter p))(h2:L=ms.map listOf):L.Perm (listsOf b p)∧L.length≤1000000∧∀x∈L,x.length≤1000000:=by
 subst h2
 have h5:2^b.ws.length≤2^5:=Nat.pow_le_pow_right O hb.nw
 refine⟨h1.map _, ?_,fun x hx=>?_⟩
 ·rw [List.length_map,h1.length_eq]
  have:=List.length_filter_le p (List.range (2^b.ws.length))
  rw [List.length_range] at this
  omega
 ·obtain⟨m,_,rfl⟩:=List.mem_map.1 hx
  have:=listOf_len m
  omega
section
variable {main:Bool}{J:Goroutine→Mem→Prop}(hJ:Closed prog main J)
include hJ
theorem few1_c(hc:Ls Rc.cells 2 ro vc b.cs)(hw:Ls Wt.cells 5 ro vw b.ws)(hb:b.good)(hp:ro p=some (.cells [.int .i64 b.w, .int .i64 b.h, .int .i64 b.f,vc,vw].toArray t fq))(hm:m<2^63):
  CallR prog J (.func (.func 125) #[] [.pointer (some ⟨p,0,none⟩)].toArray) [.int .i64 (m:Int)] ro (fun w _=>w= .bool (fewP b m)):=by
 have hv:BkV ro (.agg [.int .i64 b.w, .int .i64 b.h, .int .i64 b.f,vc,vw].toArray) b:=⟨vc,vw,rfl,hc,hw⟩
 have hnw:=hb.nw
 have hx63:andNot (everybody b) m<2^63:=by
  have h1:everybody b<2^63:=Nat.lt_of_lt_of_le (everybody_lt b) (Nat.pow_le_pow_right O O)
  exact Nat.xor_lt_two_pow h1 (Nat.and_lt_two_pow _ hm)
 refine CallR.introC hJ Kr fun c cs tail hret=>enter_X (n:=10) func125 U U (Nl U) ?_
 have C:Ctx prog main J (bf 125 .normal):=⟨hJ,by decide⟩
 refine Xr C U U<|Ad C U U<|Xs C<|Xd C fun hok=>Dl 0 hok (fun _ _ A h=>R.loadAggRo C U (A.w U U) (A.x U U) isAgg105 sizeOf105 hp Tk5 h)<|Dl 1 hok (fun _ _ A h=>R.loadAggRo C U (A.w U U) (A.x U U) isAgg105 sizeOf105 hp Tk5 h)<|Dm C 3 hok U U U<|De 2 (some 6) [false,true] hok (fun _ _ A hk=>?_)
 refine R.callP C U (A.w U U) (A.x U U) (A.s U U) (everybody_c hJ (by assumption) O) (hk _ _ ⟨(QFs.cons (QF.of U (fun _ _ A h=>R.loadAggRo C U (A.w U U) (A.x U U) isAgg105 sizeOf105 hp Tk5 h)) QFs.nil), ?_⟩)
 refine Di C 4 hok U U U U U (b_andNot (Nat.lt_of_lt_of_le (everybody_lt b) (Nat.pow_le_pow_right O O)) hm)<|De 5 (some 9) [false] hok (fun _ _ A hk=>?_)
 refine R.callR C U (A.w U U) (A.x U U) (A.s U U) ((together_c hJ hv hb hx63)) fun v' ro' hle' hp'=>hk _ _ ⟨QFs.nil, ?_⟩
 refine Da C 6 hok U U<|D.done C hok Kr<|Xt C func125<|Hr hret (by assumption) ?_
 subst hp';rfl
theorem clash1_c(hc:Ls Rc.cells 2 ro vc b.cs)(hw:Ls Wt.cells 5 ro vw b.ws)(hb:b.good)(hp:ro p=some (.cells [.int .i64 b.w, .int .i64 b.h, .int .i64 b.f,vc,vw].toArray t fq))(hm:m<2^63):
  CallR prog J (.func (.func 130) #[] [.pointer (some ⟨p,0,none⟩)].toArray) [.int .i64 (m:Int)] ro (fun w _=>w= .bool (clashP b m)):=by
 have hv:BkV ro (.agg [.int .i64 b.w, .int .i64 b.h, .int .i64 b.f,vc,vw].toArray) b:=⟨vc,vw,rfl,hc,hw⟩
 refine CallR.introC hJ Kr fun c cs tail hret=>enter_X (n:=8) func130 U U (Nl U) ?_
 have C:Ctx prog main J (bf 130 .normal):=⟨hJ,by decide⟩
 refine Xr C U U<|Ad C U U<|Xr C U U<|R.loadAggRo C U U U isAgg105 sizeOf105 hp Tk5<|Rm C U U<|R.callR C U U U U (together_c hJ hv hb hm) fun v' ro' hle' hp'=>?_
 subst hp'
 refine R.not C U U U<|Ad C U U<|Xt C func130<|Hr hret (by assumption) ?_
 rfl
end
theorem fewest_c(he:Env ro)(hv:BkV ro v b)(hs:b.short):CallR prog (JM prog Q) (fnv 51) [v] ro (fun w ro'=>∃vl,LsI ro' vl (fewest b).1∧w= .tuple [vl, .int .i64 (fewest b).2].toArray):=by
 have hJ:Closed prog true (JM prog Q):=JM.closed
 let main:=true
 let J:=JM prog Q
 have hvv:=hv
 obtain⟨vc,vw,rfl,hc,hw⟩:=hv
 obtain⟨cb,cc,rfl⟩:=hc.form
 obtain⟨wb,wc,rfl⟩:=hw.form
 refine CallR.intro hJ Kr fun c cs tail hret=>enter_X (n:=17) func51 U U (Nl U) ?_
 have C:Ctx prog main J (bf 51 .normal):=⟨hJ,by decide⟩
 refine Xr C U U<|R.box C U U U U fun p1=>R.asg C U U U<|Ad C U U<|Xs C<|Xr C U U<|R5 C U U isAgg25 sizeOf25 V Tk5<|R.callP C U U U U (checkChart_c hJ (by assumption) (by assumption) (by assumption))<|Ad C U U<|Xr C U U<|Rm C U U<|R.int C U U U U b_neq<|R.done C<|X.cond C.1 U (fun hh=>?_) (fun hh=>?_)
 ·simp at hh
  refine Xr C U U<|Rm C U U<|R.asg C U U U<|Ad C U U<|X.ret C U U func51 U (by exact(.tmp U (.tmp U .nil)))<|Hr hret (RO.le_refl _) ?_
  exact⟨_,by rw [fewest,if_pos hh];exact .nil,by rw [fewest,if_pos hh];rfl⟩
 ·simp at hh
  have hb:=good_iff.1 hh
  have hnw:=hb.nw
  refine X.skip C.1<|Xr C U U<|R5 C U U isAgg25 sizeOf25 V Tk5 ?_;refine R.build C U U U zeroValue105 U runUnderlying105 Kr (Fills.part U U sizeOf25 U Ph5 .nil)<|R.alloc C U U zeroValue105 U fun p5=>R.store C U U U U sizeOf105 U U U V Ph5<|R.done C<|Xr C U U<|R.persist C.1 fun ro1 hl1 h5=>?_
  have hc1:=hc.mono hl1
  have hw1:=hw.mono hl1
  refine R.loadAggRo C U U U isAgg105 sizeOf105 h5 Tk5<|R.makeFunc C U U U U<|R.callR C U U U U ((lists_c (p:=fewP b) ⟨_,_,rfl,hc1,hw1⟩ O (fun hJ ro' hl m hm=>few1_c hJ (hc1.mono hl) (hw1.mono hl) hb (hl _ _ h5) (Nat.lt_of_lt_of_le hm (Nat.pow_le_pow_right O O))) U)) fun v2 ro2 hl2 hL=>?_
  obtain⟨L,hL,ms,hms,hLe⟩:=hL
  obtain⟨hperm,hlen,hsz⟩:=lists_facts hb hms hLe
  have hne:L≠ []:=fun e=>by
   rw [e] at hperm
   exact listsOf_few hb hperm.symm.eq_nil
  refine R.callR C U U U U ((best_c hJ hL hne hlen hsz)) fun v3 ro3 hl3 hb3=>R.asg C U U U<|Ad C U U<|X.ret C U U func51 U (by exact(.tmp U (.tmp U .nil)))<|Hr hret (RO.le_trans hl1 (RO.le_trans hl2 hl3)) ?_
  rw [bestOf_perm hperm] at hb3
  exact⟨_,by rw [fewest,if_neg (by simp [hh])];exact hb3,by rw [fewest,if_neg (by simp [hh])];rfl⟩
theorem clash_c(he:Env ro)(hv:BkV ro v b)(hs:b.short):CallR prog (JM prog Q) (fnv 63) [v] ro (fun w ro'=>∃vl,LsI ro' vl (clash b).1∧w= .tuple [vl, .int .i64 (clash b).2].toArray):=by
 have hJ:Closed prog true (JM prog Q):=JM.closed
 let main:=true
 let J:=JM prog Q
 have hvv:=hv
 obtain⟨vc,vw,rfl,hc,hw⟩:=hv
 obtain⟨cb,cc,rfl⟩:=hc.form
 obtain⟨wb,wc,rfl⟩:=hw.form
 refine CallR.intro hJ Kr fun c cs tail hret=>enter_X (n:=22) func63 U U (Nl U) ?_
 have C:Ctx prog main J (bf 63 .normal):=⟨hJ,by decide⟩
 refine Xr C U U<|R.box C U U U U fun p1=>R.asg C U U U<|Ad C U U<|Xs C<|Xr C U U<|R5 C U U isAgg25 sizeOf25 V Tk5<|R.callP C U U U U (checkChart_c hJ (by assumption) (by assumption) (by assumption))<|Ad C U U<|Xr C U U<|Rm C U U<|R.int C U U U U b_neq<|R.done C<|X.cond C.1 U (fun hh=>?_) (fun hh=>?_)
 ·simp at hh
  refine Xr C U U<|Rm C U U<|R.asg C U U U<|Ad C U U<|X.ret C U U func63 U (by exact(.tmp U (.tmp U .nil)))<|Hr hret (RO.le_refl _) ?_
  exact⟨_,by rw [clash,if_pos hh];exact .nil,by rw [clash,if_pos hh];rfl⟩
 ·simp at hh
  have hb:=good_iff.1 hh
  have hnw:=hb.nw
  refine X.skip C.1<|Xr C U U<|R5 C U U isAgg25 sizeOf25 V Tk5 ?_;refine R.build C U U U zeroValue105 U runUnderlying105 Kr (Fills.part U U sizeOf25 U Ph5 .nil)<|R.alloc C U U zeroValue105 U fun p5=>R.store C U U U U sizeOf105 U U U V Ph5<|R.done C<|Xr C U U<|R.persist C.1 fun ro1 hl1 h5=>?_
  have hc1:=hc.mono hl1
  have hw1:=hw.mono hl1
  refine R.loadAggRo C U U U isAgg105 sizeOf105 h5 Tk5<|R.makeFunc C U U U U<|R.callR C U U U U ((lists_c (p:=clashP b) ⟨_,_,rfl,hc1,hw1⟩ O (fun hJ ro' hl m hm=>clash1_c hJ (hc1.mono hl) (hw1.mono hl) hb (hl _ _ h5) (Nat.lt_of_lt_of_le hm (Nat.pow_le_pow_right O O))) U)) fun v2 ro2 hl2 hL=>Ad C U U<|Xs C<|Xr C U U ?_
  obtain⟨L,hL,ms,hms,hLe⟩:=hL
  obtain⟨hperm,hlen,hsz⟩:=lists_facts hb hms hLe
  obtain⟨zs,hzs,hzL,hzr⟩:=hL
  have hlz:zs.length=L.length:=by rw [←hzL,List.length_map]
  obtain⟨lb,lc,hvf⟩:=hzs.form
  rw [hlz] at hvf
  subst hvf
  have hL:LsLs ro2 (.slice lb L.length lc) L:=⟨zs,hzs,hzL,hzr⟩
  refine Rm C U U<|Rn C U U runUnderlying149<|R.int C U U U U b_eql<|R.done C<|X.cond C.1 U (fun hz=>?_) (fun hz=>?_)
  ·simp at hz
   refine Xr C U U<|R.asg C U U U<|Ad C U U<|X.ret C U U func63 U (by exact(.tmp U (.tmp U .nil)))<|Hr hret (RO.le_trans hl1 hl2) ?_
   have e:bestOf (listsOf b (clashP b))= []:=by rw [←bestOf_perm hperm,hz];rfl
   exact⟨_,by rw [clash,if_neg (by simp [hh]),e];exact .nil,by rw [clash,if_neg (by simp [hh])];rfl⟩
  ·simp at hz
   refine X.skip C.1<|Xr C U U<|Rm C U U<|R.callR C U U U U ((best_c hJ hL hz hlen hsz)) fun v3 ro3 hl3 hb3=>R.asg C U U U<|Ad C U U<|X.ret C U U func63 U (by exact(.tmp U (.tmp U .nil)))<|Hr hret (RO.le_trans hl1 (RO.le_trans hl2 hl3)) ?_
   rw [bestOf_perm hperm] at hb3
   exact⟨_,by rw [clash,if_neg (by simp [hh])];exact hb3,by rw [clash,if_neg (by simp [hh])];rfl⟩
end Go.Lg.B
namespace Go.Lg.B
open Go Go.Conc Go.Lg Go.Proofs Go.Proofs.Tryz
open Go.Sort (ltInt swp insInner insOuter insertionSort)
variable {d:Array Int}{sp:List Value}{z:Int}{a b cap i j k p:Nat}{ro:RO}
def vals(d:Array Int):List Value:=d.toList.map (Value.int .i64)
theorem vals_at(hz:z=(k:Int))(hk:k<d.size):(vals d++sp)[0+z.toNat*1]? =some (.int .i64 d[k]!):=by
 subst hz
 rw [Int.toNat_natCast,Nat.mul_one,Nat.zero_add,List.getElem?_append_left (by simpa [vals] using hk)]
 simp [vals,hk]
theorem put_at:∀ (l:List Value) (k:Nat) (v:Value) (sp:List Value),k<l.length→Put k [v] (l++sp) (l.set k v++sp)
 |x::l,0,v,sp,_=> .here .nil
 |x::l,k+1,v,sp,h=> .skip (put_at l k v sp (by simpa using h))
theorem vals_put{x:Int}(hz:z=(k:Int))(hk:k<d.size):Put (0+z.toNat*1) [.int .i64 x] (vals d++sp) (vals (d.setIfInBounds k x)++sp):=by
 subst hz
 have:=put_at (vals d) k (.int .i64 x) sp (by simpa [vals] using hk)
 rw [Int.toNat_natCast,Nat.mul_one,Nat.zero_add]
 have e:vals (d.setIfInBounds k x)=(vals d).set k (.int .i64 x):=by simp [vals]
 rw [e];exact this
def CallS(J:Goroutine→Mem→Prop)(f:FuncId)(p:Nat)(sp:List Value)(d:Array Int)(cap:Nat)(args:List Value)(ro:RO)(v:Value)(d':Array Int):Prop:=
 CallV prog J (fnv f) (.slice (some ⟨p,0,none⟩) d.size cap::args) ro [(p, .cells (vals d++sp).toArray 3 (0,0))] fun v' ro' pre'=>v'=v∧ro'=ro∧pre'= [(p, .cells (vals d'++sp).toArray 3 (0,0))]
def BackS(J:Goroutine→Mem→Prop)(c:Frame)(cs:List Frame)(ro:RO)(tail:List (Nat×Obj))(p:Nat)(sp:List Value)(v:Value)(d':Array Int):Prop:=
 ∀v' d2,v'=v→d2=d'→J (G (c.finish v') cs) ⟨ro,(p, .cells (vals d2++sp).toArray 3 (0,0))::tail⟩
variable {main:Bool}{J:Goroutine→Mem→Prop}(hJ:Closed prog main J)
include hJ
theorem CallS.intro{f:FuncId}{d':Array Int}{args:List Value}{v:Value}(hc:callableB prog f=true)
  (h:∀c cs tail,BackS J c cs ro tail p sp v d'→J (G (Frame.enter prog f (.slice (some ⟨p,0,none⟩) d.size cap::args).toArray .normal) (c::cs)) ⟨ro,(p, .cells (vals d++sp).toArray 3 (0,0))::tail⟩):CallS J f p sp d cap args ro v d':=
 CallV.intro (first:= []) (cap:= []) hJ hc fun c cs tail hret=>by
  have:=h c cs tail fun v' d2 e1 e2=>hret v' ro [(p, .cells (vals d2++sp).toArray 3 (0,0))] _ (RO.le_refl _) ⟨e1,rfl,by rw [e2]⟩ (.refl _)
  simpa using this
theorem less_c(x y:Int)(ro:RO):CallP prog J (fnv 190) [.int .i64 x, .int .i64 y] ro (.bool (ltInt x y)):=by
 refine CallP.intro hJ Kr fun c cs tail hret=>enter_X (n:=17) func190 U U (Nl U) ?_
 have C:Ctx prog main J (bf 190 .normal):=⟨hJ,by decide⟩
 refine Xr C U U<|Ad C U U<|Xr C U U<|Rm C U U<|R.callP C U U U U (isNaN_c hJ _ _)<|R.fixv (t:=6) (v':= .bool false) U (by rfl)<|Rm C U U<|R.pass C U U<|R.pass C U U<|R.pass C U U<|R.pickF C U U U U<|Rm C U U<|Rm C U U<|Rm C U U<|R.int C U U U U b_lss<|R.pickF C U U U U<|Ad C U U<|Xt C func190<|Hp hret ?_
 first|rfl|(simp [retVal,ltInt];done)
omit hJ in
theorem insInner_stop(h:j≤a∨ltInt d[j]! d[j-1]! =false):insInner ltInt a j d=d:=by
 cases j with
 |zero=>rfl
 |succ j=>
  simp only [insInner]
  rw [if_neg]
  rcases h with h|h
  ·simp;omega
  ·simp at h;simp [h]
omit hJ in
theorem insInner_go(h1:a<j)(h2:ltInt d[j]! d[j-1]! =true):insInner ltInt a j d=insInner ltInt a (j-1) (swp d j (j-1)):=by
 cases j with
 |zero=>omega
 |succ j=>
  have h2:ltInt d[j+1]! d[j]! =true:=by simpa using h2
  simp only [insInner]
  rw [if_pos (by simp [h2];omega)]
  rfl
omit hJ in
theorem insOuter_go(h:i<b):insOuter ltInt a b i d=insOuter ltInt a b (i+1) (insInner ltInt a i d):=by rw [insOuter,if_pos h]
omit hJ in
theorem insOuter_stop(h:b≤i):insOuter ltInt a b i d=d:=by rw [insOuter,if_neg O]
theorem insertionSort_c(hn:d.size≤1000000000)(hab:a≤b)(hb:b≤d.size):CallS J 184 p sp d cap [.int .i64 (a:Int), .int .i64 (b:Int)] ro (.tuple #[]) (insertionSort ltInt d a b):=by
 refine CallS.intro hJ Kr fun c cs tail hret=>?_
 let J:=J
 refine enter_X (n:=49) func184 U U (Nl U) ?_
 have C:Ctx prog main J (bf 184 .normal):=⟨hJ,by decide⟩
 refine Xr C U U<|Rm C U U<|Ra C U U U<|Ad C U U<|X.block C.1<|X.loopI (ι:=Nat×Array Int) C.1 (fun s=>s.2.size=d.size∧a+1≤s.1∧insOuter ltInt a b s.1 s.2=insertionSort ltInt d a b) (fun s=> [(0, .slice (some ⟨p,0,none⟩) d.size cap),(1, .int .i64 (a:Int)),(2, .int .i64 (b:Int)),(6, .int .i64 (s.1:Int))])
  (fun s=>⟨ro,(p, .cells (vals s.2++sp).toArray 3 (0,0))::tail⟩) (fun s=>b-s.1) (a+1,d) ⟨rfl,Nat.le_refl _,rfl⟩ rfl ⟨rfl,rfl,rfl,by simp [look],trivial⟩ fun s hs hnext=>?_
 obtain⟨i,d1⟩:=s
 obtain⟨h1,h2,h3⟩:=hs
 simp only at h1 h2 h3 hnext⊢
 refine Xs C<|Xr C U U<|Rm C U U<|Rm C U U<|R.int C U U U U b_lss<|R.done C<|Xk C U (fun hlt=>?_) (fun hlt=>?_)
 ·have hi':i<b:=O
  rw [insOuter_go hi'] at h3
  refine X.skip C.1<|Xs C<|X.block C.1<|Xr C U U<|Rm C U U<|Ad C U U<|X.block C.1<|X.loopI (ι:=Nat×Array Int) C.1 (fun s=>s.2.size=d.size∧s.1≤i∧insInner ltInt a s.1 s.2=insInner ltInt a i d1) (fun s=> [(0, .slice (some ⟨p,0,none⟩) d.size cap),(1, .int .i64 (a:Int)),(2, .int .i64 (b:Int)),(6, .int .i64 (i:Int)),(7, .int .i64 (s.1:Int))])
   (fun s=>⟨ro,(p, .cells (vals s.2++sp).toArray 3 (0,0))::tail⟩) (fun s=>s.1) (i,d1) ⟨h1,Nat.le_refl _,rfl⟩ rfl ⟨U,U,U,U,U,trivial⟩ fun s hs hnext2=>?_
  obtain⟨j,d2⟩:=s
  obtain⟨k1,k2,k3⟩:=hs
  simp only at k1 k2 k3 hnext2⊢
  refine Xs C<|Xs C<|Xd C fun hok=>Dm C 0 hok U U U<|Dm C 1 hok U U U<|Di C 2 hok U U U U U b_gtr<|Dm C 3 hok U U U<|D.fix (t:=19) U (fun hg=>?_) (fun hg=>?_)
  ·simp only [dT] at hg
   refine Dm C 4 hok U U U<|Dm C 5 hok U U U<|Dx C 6 hok U U U runUnderlying28 sizeOf3<|D1 C 7 hok U U isAgg3 V (vals_at (k:=j) O O)<|Dm C 8 hok U U U<|Dm C 9 hok U U U<|Di C 10 hok U U U U U (b_sub O O)<|Dx C 11 hok U U U runUnderlying28 sizeOf3<|D1 C 12 hok U U isAgg3 V (vals_at (k:=j-1) O O)<|De 13 (some 29) [false,false] hok (fun _ _ A hk=>?_)
   refine R.callP C U (A.w U U) (A.x U U) (A.s U U) (less_c hJ _ _ _) (hk _ _ ⟨QFs.nil, ?_⟩)
   refine Dp 14 hok (fun _ _ _ A h=>R.pickT C U (A.w U U) (A.x U U) (A.x U U) h)<|D.done C hok Kr<|X.cond C.1 U (fun hl=>?_) (fun hl=>?_)
   ·rw [insInner_go O hl] at k3
    refine X.skip C.1<|Xs C<|X.block C.1<|Xd C fun hok=>Dm C 0 hok U U U<|Dm C 1 hok U U U<|Dm C 2 hok U U U<|Dm C 3 hok U U U<|Di C 4 hok U U U U U (b_sub O O)<|Dm C 5 hok U U U<|Dm C 6 hok U U U<|Di C 7 hok U U U U U (b_sub O O)<|Dx C 8 hok U U U runUnderlying28 sizeOf3<|D1 C 9 hok U U isAgg3 V (vals_at (k:=j-1) O O)<|Dm C 10 hok U U U<|Dm C 11 hok U U U<|Dx C 12 hok U U U runUnderlying28 sizeOf3<|D1 C 13 hok U U isAgg3 V (vals_at (k:=j) O O)<|Dx C 14 hok U U U runUnderlying28 sizeOf3<|De 15 none [false,false] hok (fun _ _ A hk=>?_)
    refine R.store C U (A.w U U) (A.x U U) (A.x U U) sizeOf3 U U U V (vals_put (k:=j) O O) (hk undef _ ⟨QFs.nil, ?_⟩)
    refine Dx C 16 hok U U U runUnderlying28 sizeOf3<|De 17 none [] hok (fun _ _ A hk=>?_)
    refine R.store C U (A.w U U) (A.x U U) (A.x U U) sizeOf3 U U U V (vals_put (k:=j-1) O Zo) (hk undef _ ⟨QFs.nil, ?_⟩)
    refine D.done C hok Kr<|X.inBlock C.1<|X.region C U U<|Rm C U U<|R.int C U U U U (b_sub O O)<|Ad C U U<|X.weaken ?_ (hnext2 (j-1,swp d2 j (j-1)) ⟨by simpa [swp] using k1,by simp;omega,k3⟩ Zo)
    exact⟨rfl,rfl,rfl,rfl,congrArg (fun z=>some (Value.int .i64 z)) O,trivial⟩
   ·rw [insInner_stop (.inr hl)] at k3
    refine X.exit C.1 U<|X.inBlock C.1<|X.region C U U<|Rm C U U<|Ra C U U U<|Ad C U U ?_
    rw [←k3] at h3
    refine X.weaken ?_ (hnext (i+1,d2) ⟨k1,by simp;omega,h3⟩ Zo)
    exact⟨rfl,rfl,rfl,by simp [look],trivial⟩
  ·simp only [dF] at hg
   rw [insInner_stop (.inl O)] at k3
   refine Du C 4 hok U<|Du C 5 hok U<|Du C 6 hok U<|Du C 7 hok U<|Du C 8 hok U<|Du C 9 hok U<|Du C 10 hok U<|Du C 11 hok U<|Du C 12 hok U<|Du C 13 hok U<|Dp 14 hok (fun _ _ _ A h=>R.pickF C U (A.w U U) (A.x U U) (A.x U U) h)<|D.done C hok Kr<|X.cond C.1 U (fun h=>nomatch h) (fun _=>?_)
   refine X.exit C.1 U<|X.inBlock C.1<|X.region C U U<|Rm C U U<|Ra C U U U<|Ad C U U ?_
   rw [←k3] at h3
   refine X.weaken ?_ (hnext (i+1,d2) ⟨k1,by simp;omega,h3⟩ Zo)
   exact⟨rfl,rfl,rfl,by simp [look],trivial⟩
 ·rw [insOuter_stop O] at h3
  refine X.exit C.1 U<|X.fall C U U func184 U (by exact .nil) ?_
  exact hret _ _ rfl h3
end Go.Lg.B
namespace Go.Lg.B
open Go Go.Conc Go.Lg Go.Proofs Go.Proofs.Tryz
open Go.Sort (ltInt swp siftDown heapBuild heapPop heapSort)
variable {F cap hi p root:Nat}{d:Array Int}{sp:List Value}{ro:RO}
theorem sift_end(h:hi≤2*root+1):siftDown ltInt hi F root d=d:=by rw [siftDown,dif_pos h]
theorem sift_two(h:2*root+2<hi)(hl:ltInt d[F+(2*root+1)]! d[F+(2*root+1)+1]! =true):
  siftDown ltInt hi F root d=if !ltInt d[F+root]! d[F+(2*root+2)]! then d else siftDown ltInt hi F (2*root+2) (swp d (F+root) (F+(2*root+2))):=by
 rw [siftDown,dif_neg O,if_pos (by simp [hl];omega)]
 split<;>rfl
theorem sift_one(h:2*root+1<hi)(hl:hi≤2*root+2∨ltInt d[F+(2*root+1)]! d[F+(2*root+1)+1]! =false):
  siftDown ltInt hi F root d=if !ltInt d[F+root]! d[F+(2*root+1)]! then d else siftDown ltInt hi F (2*root+1) (swp d (F+root) (F+(2*root+1))):=by
 rw [siftDown,dif_neg O,if_neg]
 rcases hl with hl|hl
 ·simp;omega
 ·simp [hl]
theorem siftDown_size(hi F:Nat):∀ (n root:Nat) (d:Array Int),hi-root≤n→(siftDown ltInt hi F root d).size=d.size
 |0,root,d,h=>by rw [sift_end O]
 |n+1,root,d,h=>by
  rw [siftDown]
  split
  ·rfl
  ·split
   ·split
    ·rfl
    ·split
     ·rw [siftDown_size hi F n _ _ O];simp [swp]
     ·rfl
   ·split
    ·rfl
    ·rw [siftDown_size hi F n _ _ O];simp [swp]
variable {main:Bool}{J:Goroutine→Mem→Prop}(hJ:Closed prog main J)
include hJ
theorem siftDown_c{lo:Nat}(hn:d.size≤1000000000)(hb:F+hi≤d.size)(hlo:lo≤d.size):CallS J 231 p sp d cap [.int .i64 (lo:Int), .int .i64 (hi:Int), .int .i64 (F:Int)] ro (.tuple #[]) (siftDown ltInt hi F lo d):=by
 refine CallS.intro hJ Kr fun c cs tail hret=>?_
 let J:=J
 refine enter_X (n:=76) func231 U U (Nl U) ?_
 have C:Ctx prog main J (bf 231 .normal):=⟨hJ,by decide⟩
 refine Xr C U U<|Rm C U U<|Ad C U U<|X.block C.1<|X.loopI (ι:=Nat×Array Int) C.1 (fun s=>s.2.size=d.size∧s.1≤d.size∧siftDown ltInt hi F s.1 s.2=siftDown ltInt hi F lo d) (fun s=> [(0, .slice (some ⟨p,0,none⟩) d.size cap),(2, .int .i64 (hi:Int)),(3, .int .i64 (F:Int)),(8, .int .i64 (s.1:Int))])
  (fun s=>⟨ro,(p, .cells (vals s.2++sp).toArray 3 (0,0))::tail⟩) (fun s=>hi-s.1) (lo,d) ⟨rfl,hlo,rfl⟩ rfl ⟨U,U,U,U,trivial⟩ fun s hs hnext=>?_
 obtain⟨root,d1⟩:=s
 obtain⟨h1,h2,hs⟩:=hs
 simp only at h1 h2 hs hnext⊢
 refine X.block C.1<|Xr C U U<|Rm C U U<|R.int C U U U U (b_mul O O)<|Ra C U U U<|Ad C U U<|Xs C<|Xr C U U<|Rm C U U<|Rm C U U<|R.int C U U U U b_geq<|R.done C<|X.cond C.1 U (fun hge=>?_) (fun hge=>?_)
 ·simp only [ge_iff_le,decide_eq_true_eq] at hge
  rw [sift_end O] at hs
  refine X.exit C.1 U<|X.fall C U U func231 U (by exact .nil) ?_
  exact hret _ _ rfl hs
 ·simp only [ge_iff_le,decide_eq_false_iff_not] at hge
  refine X.skip C.1<|Xs C<|Xs C<|Xd C fun hok=>Dm C 0 hok U U U<|Di C 1 hok U U U U U (b_add O O)<|Dm C 2 hok U U U<|Di C 3 hok U U U U U b_lss<|Dm C 4 hok U U U<|D.fix (t:=21) U (fun hg=>?_) (fun hg=>?_)
  ·simp only [dT] at hg
   refine Dm C 5 hok U U U<|Dm C 6 hok U U U<|Dm C 7 hok U U U<|Di C 8 hok U U U U U (b_add O O)<|Dx C 9 hok U U U runUnderlying28 sizeOf3<|D1 C 10 hok U U isAgg3 V (vals_at (k:=F+(2*root+1)) O O)<|Dm C 11 hok U U U<|Dm C 12 hok U U U<|Dm C 13 hok U U U<|Di C 14 hok U U U U U (b_add O O)<|Di C 15 hok U U U U U (b_add O O)<|Dx C 16 hok U U U runUnderlying28 sizeOf3<|D1 C 17 hok U U isAgg3 V (vals_at (k:=F+(2*root+1)+1) O O)<|De 18 (some 35) [false,false] hok (fun _ _ A hk=>?_)
   refine R.callP C U (A.w U U) (A.x U U) (A.s U U) (less_c hJ _ _ _) (hk _ _ ⟨QFs.nil, ?_⟩)
   refine Dp 19 hok (fun _ _ _ A h=>R.pickT C U (A.w U U) (A.x U U) (A.x U U) h)<|D.done C hok Kr<|X.cond C.1 U (fun hch=>?_) (fun hch=>?_)
   ·rw [sift_two O hch] at hs
    refine X.region C U U<|Rm C U U<|Ra C U U U<|Ad C U U<|Xs C<|Xs C<|Xd C fun hok=>Dm C 0 hok U U U<|Dm C 1 hok U U U<|Dm C 2 hok U U U<|Di C 3 hok U U U U U (b_add O O)<|Dx C 4 hok U U U runUnderlying28 sizeOf3<|D1 C 5 hok U U isAgg3 V (vals_at (k:=F+root) O O)<|Dm C 6 hok U U U<|Dm C 7 hok U U U<|Dm C 8 hok U U U<|Di C 9 hok U U U U U (b_add O O)<|Dx C 10 hok U U U runUnderlying28 sizeOf3<|D1 C 11 hok U U isAgg3 V (vals_at (k:=F+(2*root+2)) O O)<|De 12 (some 51) [false,false] hok (fun _ _ A hk=>?_)
    refine R.callP C U (A.w U U) (A.x U U) (A.s U U) (less_c hJ _ _ _) (hk _ _ ⟨QFs.nil, ?_⟩)
    refine Dp 13 hok (fun _ _ _ A h=>R.not C U (A.w U U) (A.x U U) h)<|D.done C hok Kr<|X.cond C.1 U (fun hl=>?_) (fun hl=>?_)
    ·simp only [Bool.not_eq_true'] at hl
     rw [if_pos (by simpa using hl)] at hs
     refine X.ret C U U func231 U (by exact .nil) ?_
     exact hret _ _ rfl hs
    ·simp only [Bool.not_eq_false'] at hl
     rw [if_neg (by simp [hl])] at hs
     refine X.skip C.1<|Xs C<|Xd C fun hok=>Dm C 0 hok U U U<|Dm C 1 hok U U U<|Dm C 2 hok U U U<|Di C 3 hok U U U U U (b_add O O)<|Dm C 4 hok U U U<|Dm C 5 hok U U U<|Dm C 6 hok U U U<|Di C 7 hok U U U U U (b_add O O)<|Dm C 8 hok U U U<|Dm C 9 hok U U U<|Dm C 10 hok U U U<|Di C 11 hok U U U U U (b_add O O)<|Dx C 12 hok U U U runUnderlying28 sizeOf3<|D1 C 13 hok U U isAgg3 V (vals_at (k:=F+(2*root+2)) O O)<|Dm C 14 hok U U U<|Dm C 15 hok U U U<|Dm C 16 hok U U U<|Di C 17 hok U U U U U (b_add O O)<|Dx C 18 hok U U U runUnderlying28 sizeOf3<|D1 C 19 hok U U isAgg3 V (vals_at (k:=F+root) O O)<|Dx C 20 hok U U U runUnderlying28 sizeOf3<|De 21 none [false,false] hok (fun _ _ A hk=>?_)
     refine R.store C U (A.w U U) (A.x U U) (A.x U U) sizeOf3 U U U V (vals_put (k:=F+root) O O) (hk undef _ ⟨QFs.nil, ?_⟩)
     refine Dx C 22 hok U U U runUnderlying28 sizeOf3<|De 23 none [] hok (fun _ _ A hk=>?_)
     refine R.store C U (A.w U U) (A.x U U) (A.x U U) sizeOf3 U U U V (vals_put (k:=F+(2*root+2)) O Zo) (hk undef _ ⟨QFs.nil, ?_⟩)
     refine D.done C hok Kr<|X.region C U U<|Rm C U U<|Ad C U U<|X.inBlock C.1<|X.weaken ?_ (hnext ((2*root+2),swp d1 (F+root) (F+(2*root+2))) ⟨by simpa [swp] using h1,by simp;omega,hs⟩ Zo)
     exact⟨rfl,rfl,rfl,congrArg (fun z=>some (Value.int .i64 z)) O,trivial⟩
   ·rw [sift_one O (.inr hch)] at hs
    refine X.skip C.1<|Xs C<|Xs C<|Xd C fun hok=>Dm C 0 hok U U U<|Dm C 1 hok U U U<|Dm C 2 hok U U U<|Di C 3 hok U U U U U (b_add O O)<|Dx C 4 hok U U U runUnderlying28 sizeOf3<|D1 C 5 hok U U isAgg3 V (vals_at (k:=F+root) O O)<|Dm C 6 hok U U U<|Dm C 7 hok U U U<|Dm C 8 hok U U U<|Di C 9 hok U U U U U (b_add O O)<|Dx C 10 hok U U U runUnderlying28 sizeOf3<|D1 C 11 hok U U isAgg3 V (vals_at (k:=F+(2*root+1)) O O)<|De 12 (some 51) [false,false] hok (fun _ _ A hk=>?_)
    refine R.callP C U (A.w U U) (A.x U U) (A.s U U) (less_c hJ _ _ _) (hk _ _ ⟨QFs.nil, ?_⟩)
    refine Dp 13 hok (fun _ _ _ A h=>R.not C U (A.w U U) (A.x U U) h)<|D.done C hok Kr<|X.cond C.1 U (fun hl=>?_) (fun hl=>?_)
    ·simp only [Bool.not_eq_true'] at hl
     rw [if_pos (by simpa using hl)] at hs
     refine X.ret C U U func231 U (by exact .nil) ?_
     exact hret _ _ rfl hs
    ·simp only [Bool.not_eq_false'] at hl
     rw [if_neg (by simp [hl])] at hs
     refine X.skip C.1<|Xs C<|Xd C fun hok=>Dm C 0 hok U U U<|Dm C 1 hok U U U<|Dm C 2 hok U U U<|Di C 3 hok U U U U U (b_add O O)<|Dm C 4 hok U U U<|Dm C 5 hok U U U<|Dm C 6 hok U U U<|Di C 7 hok U U U U U (b_add O O)<|Dm C 8 hok U U U<|Dm C 9 hok U U U<|Dm C 10 hok U U U<|Di C 11 hok U U U U U (b_add O O)<|Dx C 12 hok U U U runUnderlying28 sizeOf3<|D1 C 13 hok U U isAgg3 V (vals_at (k:=F+(2*root+1)) O O)<|Dm C 14 hok U U U<|Dm C 15 hok U U U<|Dm C 16 hok U U U<|Di C 17 hok U U U U U (b_add O O)<|Dx C 18 hok U U U runUnderlying28 sizeOf3<|D1 C 19 hok U U isAgg3 V (vals_at (k:=F+root) O O)<|Dx C 20 hok U U U runUnderlying28 sizeOf3<|De 21 none [false,false] hok (fun _ _ A hk=>?_)
     refine R.store C U (A.w U U) (A.x U U) (A.x U U) sizeOf3 U U U V (vals_put (k:=F+root) O O) (hk undef _ ⟨QFs.nil, ?_⟩)
     refine Dx C 22 hok U U U runUnderlying28 sizeOf3<|De 23 none [] hok (fun _ _ A hk=>?_)
     refine R.store C U (A.w U U) (A.x U U) (A.x U U) sizeOf3 U U U V (vals_put (k:=F+(2*root+1)) O Zo) (hk undef _ ⟨QFs.nil, ?_⟩)
     refine D.done C hok Kr<|X.region C U U<|Rm C U U<|Ad C U U<|X.inBlock C.1<|X.weaken ?_ (hnext ((2*root+1),swp d1 (F+root) (F+(2*root+1))) ⟨by simpa [swp] using h1,by simp;omega,hs⟩ Zo)
     exact⟨rfl,rfl,rfl,congrArg (fun z=>some (Value.int .i64 z)) O,trivial⟩
  ·simp only [dF] at hg
   refine Du C 5 hok U<|Du C 6 hok U<|Du C 7 hok U<|Du C 8 hok U<|Du C 9 hok U<|Du C 10 hok U<|Du C 11 hok U<|Du C 12 hok U<|Du C 13 hok U<|Du C 14 hok U<|Du C 15 hok U<|Du C 16 hok U<|Du C 17 hok U<|Du C 18 hok U<|Dp 19 hok (fun _ _ _ A h=>R.pickF C U (A.w U U) (A.x U U) (A.x U U) h)<|D.done C hok Kr<|X.cond C.1 U (fun h=>nomatch h) (fun _=>?_)
   refine X.skip C.1<|Xs C<|Xs C<|Xd C fun hok=>Dm C 0 hok U U U<|Dm C 1 hok U U U<|Dm C 2 hok U U U<|Di C 3 hok U U U U U (b_add O O)<|Dx C 4 hok U U U runUnderlying28 sizeOf3<|D1 C 5 hok U U isAgg3 V (vals_at (k:=F+root) O O)<|Dm C 6 hok U U U<|Dm C 7 hok U U U<|Dm C 8 hok U U U<|Di C 9 hok U U U U U (b_add O O)<|Dx C 10 hok U U U runUnderlying28 sizeOf3<|D1 C 11 hok U U isAgg3 V (vals_at (k:=F+(2*root+1)) O O)<|De 12 (some 51) [false,false] hok (fun _ _ A hk=>?_)
   refine R.callP C U (A.w U U) (A.x U U) (A.s U U) (less_c hJ _ _ _) (hk _ _ ⟨QFs.nil, ?_⟩)
   refine Dp 13 hok (fun _ _ _ A h=>R.not C U (A.w U U) (A.x U U) h)<|D.done C hok Kr ?_
   rw [sift_one O (.inl O)] at hs
   refine X.cond C.1 U (fun hl=>?_) (fun hl=>?_)
   ·simp only [Bool.not_eq_true'] at hl
    rw [if_pos (by simpa using hl)] at hs
    refine X.ret C U U func231 U (by exact .nil) ?_
    exact hret _ _ rfl hs
   ·simp only [Bool.not_eq_false'] at hl
    rw [if_neg (by simp [hl])] at hs
    refine X.skip C.1<|Xs C<|Xd C fun hok=>Dm C 0 hok U U U<|Dm C 1 hok U U U<|Dm C 2 hok U U U<|Di C 3 hok U U U U U (b_add O O)<|Dm C 4 hok U U U<|Dm C 5 hok U U U<|Dm C 6 hok U U U<|Di C 7 hok U U U U U (b_add O O)<|Dm C 8 hok U U U<|Dm C 9 hok U U U<|Dm C 10 hok U U U<|Di C 11 hok U U U U U (b_add O O)<|Dx C 12 hok U U U runUnderlying28 sizeOf3<|D1 C 13 hok U U isAgg3 V (vals_at (k:=F+(2*root+1)) O O)<|Dm C 14 hok U U U<|Dm C 15 hok U U U<|Dm C 16 hok U U U<|Di C 17 hok U U U U U (b_add O O)<|Dx C 18 hok U U U runUnderlying28 sizeOf3<|D1 C 19 hok U U isAgg3 V (vals_at (k:=F+root) O O)<|Dx C 20 hok U U U runUnderlying28 sizeOf3<|De 21 none [false,false] hok (fun _ _ A hk=>?_)
    refine R.store C U (A.w U U) (A.x U U) (A.x U U) sizeOf3 U U U V (vals_put (k:=F+root) O O) (hk undef _ ⟨QFs.nil, ?_⟩)
    refine Dx C 22 hok U U U runUnderlying28 sizeOf3<|De 23 none [] hok (fun _ _ A hk=>?_)
    refine R.store C U (A.w U U) (A.x U U) (A.x U U) sizeOf3 U U U V (vals_put (k:=F+(2*root+1)) O Zo) (hk undef _ ⟨QFs.nil, ?_⟩)
    refine D.done C hok Kr<|X.region C U U<|Rm C U U<|Ad C U U<|X.inBlock C.1<|X.weaken ?_ (hnext ((2*root+1),swp d1 (F+root) (F+(2*root+1))) ⟨by simpa [swp] using h1,by simp;omega,hs⟩ Zo)
    exact⟨rfl,rfl,rfl,congrArg (fun z=>some (Value.int .i64 z)) O,trivial⟩
theorem heapSort_c{a b:Nat}(hn:d.size≤1000000000)(hab:a≤b)(hb:b≤d.size):CallS J 185 p sp d cap [.int .i64 (a:Int), .int .i64 (b:Int)] ro (.tuple #[]) (heapSort ltInt d a b):=by
 refine CallS.intro hJ Kr fun c cs tail hret=>?_
 let J:=J
 have hq:((b:Int) -a-1).tdiv 2=(((b-a-1) /2:Nat):Int):=by
  rcases Nat.lt_or_eq_of_le hab with h|h
  ·rw [Int.tdiv_eq_ediv_of_nonneg O];omega
  ·subst h;rw [show(a:Int) -a-1= -1 by omega,show a-a-1=0 by omega];rfl
 refine enter_X (n:=56) func185 U U (Nl U) ?_
 have C:Ctx prog main J (bf 185 .normal):=⟨hJ,by decide⟩
 refine Xr C U U<|Rm C U U<|Ad C U U<|Xr C U U<|Ad C U U<|Xr C U U<|Rm C U U<|Rm C U U<|R.int C U U U U (b_sub O O)<|Ad C U U<|Xs C<|Xr C U U<|Rm C U U<|R.int C U U U U (b_sub O O)<|R.int C U U U U (b_quo Dd O O)<|R.fixv (t:=17) (v':= .int .i64 ((((b-a-1) /2:Nat):Nat):Int)) U (by exact congrArg (Value.int .i64) hq)<|Ad C U U<|X.block C.1<|X.loopI (ι:=Nat×Array Int) C.1 (fun s=>s.2.size=d.size∧s.1≤(b-a-1) /2+1∧heapBuild ltInt (b-a) a s.1 s.2=heapBuild ltInt (b-a) a ((b-a-1) /2+1) d) (fun s=> [(0, .slice (some ⟨p,0,none⟩) d.size cap),(6, .int .i64 (a:Int)),(7, .int .i64 0),(8, .int .i64 ((b-a:Nat):Int)),(9, .int .i64 ((s.1:Int) -1))])
  (fun s=>⟨ro,(p, .cells (vals s.2++sp).toArray 3 (0,0))::tail⟩) (fun s=>s.1) ((b-a-1) /2+1,d) ⟨rfl,Nat.le_refl _,rfl⟩ rfl ⟨rfl,rfl,rfl,congrArg (fun z=>some (Value.int .i64 z)) O,congrArg (fun z=>some (Value.int .i64 z)) O,trivial⟩ fun s hs hnext=>?_
 obtain⟨k,d1⟩:=s
 obtain⟨h1,h2,hs⟩:=hs
 simp only at h1 h2 hs hnext⊢
 refine Xs C<|Xr C U U<|Rm C U U<|R.int C U U U U b_geq<|R.done C<|Xk C U (fun hge=>?_) (fun hge=>?_)
 ·obtain⟨k,rfl⟩:∃k',k=k'+1:=⟨k-1,O⟩
  have hcall:=siftDown_c hJ (p:=p) (sp:=sp) (d:=d1) (cap:=cap) (lo:=k) (hi:=b-a) (F:=a) (ro:=ro) O O O
  unfold CallS at hcall
  rw [h1] at hcall
  refine X.skip C.1<|Xs C<|X.block C.1<|X.region C U U<|Rm C U U<|Rm C U U<|R.fixv (t:=23) (v':= .int .i64 (k:Int)) U (by(congr 1;omega))<|Rm C U U<|Rm C U U<|R.call C U U U U U hcall fun v' ro' pre' hle' hp'=>R.done C<|X.inBlock C.1<|X.region C U U ?_
  obtain⟨rfl,rfl,rfl⟩:=hp'
  refine Rm C U U<|R.int C U U U U (b_sub O O)<|Ad C U U<|X.weaken ?_ (hnext (k,siftDown ltInt (b-a) a k d1) ⟨by rw [siftDown_size _ _ _ _ _ (Nat.le_refl _)];exact h1,by simp;omega,hs⟩ Zi)
  exact⟨rfl,rfl,rfl,rfl,congrArg (fun z=>some (Value.int .i64 z)) O,trivial⟩
 ·obtain rfl:k=0:=by omega
  simp only [heapBuild] at hs
  refine X.exit C.1 U<|Xr C U U<|Rm C U U<|R.int C U U U U (b_sub O O)<|Ad C U U<|X.block C.1<|X.loopI (ι:=Nat×Array Int) C.1 (fun s=>s.2.size=d.size∧s.1≤b-a∧heapPop ltInt a s.1 s.2=heapSort ltInt d a b) (fun s=> [(0, .slice (some ⟨p,0,none⟩) d.size cap),(6, .int .i64 (a:Int)),(7, .int .i64 0),(10, .int .i64 ((s.1:Int) -1))])
   (fun s=>⟨ro,(p, .cells (vals s.2++sp).toArray 3 (0,0))::tail⟩) (fun s=>s.1) (b-a,d1) ⟨h1,Nat.le_refl _,by rw [hs];rfl⟩ rfl ⟨rfl,rfl,rfl,congrArg (fun z=>some (Value.int .i64 z)) O,trivial⟩ fun s hs2 hnext2=>?_
  obtain⟨k,d2⟩:=s
  obtain⟨k1,k2,k3⟩:=hs2
  simp only at k1 k2 k3 hnext2⊢
  refine Xs C<|Xr C U U<|Rm C U U<|R.int C U U U U b_geq<|R.done C<|Xk C U (fun hge2=>?_) (fun hge2=>?_)
  ·obtain⟨k,rfl⟩:∃k',k=k'+1:=⟨k-1,O⟩
   have hsz:(swp d2 a (a+k)).size=d.size:=by simpa [swp] using k1
   have hcall:=siftDown_c hJ (p:=p) (sp:=sp) (d:=swp d2 a (a+k)) (cap:=cap) (lo:=0) (hi:=k) (F:=a) (ro:=ro) O O O
   unfold CallS at hcall
   rw [hsz] at hcall
   refine X.skip C.1<|Xs C<|X.block C.1<|Xs C<|Xd C fun hok=>Dm C 0 hok U U U<|Dm C 1 hok U U U<|Dm C 2 hok U U U<|Dm C 3 hok U U U<|Dm C 4 hok U U U<|Di C 5 hok U U U U U (b_add O O)<|Dm C 6 hok U U U<|Dm C 7 hok U U U<|Dm C 8 hok U U U<|Di C 9 hok U U U U U (b_add O O)<|Dx C 10 hok U U U runUnderlying28 sizeOf3<|D1 C 11 hok U U isAgg3 V (vals_at (k:=a+k) O O)<|Dm C 12 hok U U U<|Dm C 13 hok U U U<|Dx C 14 hok U U U runUnderlying28 sizeOf3<|D1 C 15 hok U U isAgg3 V (vals_at (k:=a) O O)<|Dx C 16 hok U U U runUnderlying28 sizeOf3<|De 17 none [false,false] hok (fun _ _ A hk=>?_)
   refine R.store C U (A.w U U) (A.x U U) (A.x U U) sizeOf3 U U U V (vals_put (k:=a) O O) (hk undef _ ⟨QFs.nil, ?_⟩)
   refine Dx C 18 hok U U U runUnderlying28 sizeOf3<|De 19 none [] hok (fun _ _ A hk=>?_)
   refine R.store C U (A.w U U) (A.x U U) (A.x U U) sizeOf3 U U U V (vals_put (k:=a+k) O Zo) (hk undef _ ⟨QFs.nil, ?_⟩)
   refine D.done C hok Kr<|X.region C U U<|Rm C U U<|Rm C U U<|Rm C U U<|R.fixv (t:=53) (v':= .int .i64 (k:Int)) U (by(congr 1;omega))<|Rm C U U<|R.call C U U U U U hcall fun v' ro' pre' hle' hp'=>R.done C<|X.inBlock C.1<|X.region C U U ?_
   obtain⟨rfl,rfl,rfl⟩:=hp'
   refine Rm C U U<|R.int C U U U U (b_sub O O)<|Ad C U U<|X.weaken ?_ (hnext2 (k,siftDown ltInt k a 0 (swp d2 a (a+k))) ⟨by rw [siftDown_size _ _ _ _ _ (Nat.le_refl _)];exact hsz,by simp;omega,k3⟩ Zi)
   exact⟨rfl,rfl,rfl,congrArg (fun z=>some (Value.int .i64 z)) O,trivial⟩
  ·obtain rfl:k=0:=by omega
   simp only [heapPop] at k3
   refine X.exit C.1 U<|X.fall C U U func185 U (by exact .nil) ?_
   exact hret _ _ rfl k3
end Go.Lg.B
namespace Go.Lg.B
open Go Go.Conc Go.Lg Go.Proofs Go.Proofs.Tryz
open Go.Sort (ltInt swp order2 median medianAdjacent choosePivot reverseLoop reverseRange Hint)
variable {a b cap i j n p q s:Nat}{d:Array Int}{sp:List Value}{ro:RO}
theorem rev_go(h:i<j):reverseLoop i j d=reverseLoop (i+1) (j-1) (swp d i j):=by rw [reverseLoop,if_pos h]
theorem rev_stop(h:j≤i):reverseLoop i j d=d:=by rw [reverseLoop,if_neg O]
def CallQ(J:Goroutine→Mem→Prop)(f:FuncId)(p q:Nat)(sp:List Value)(d:Array Int)(s:Nat)(args:List Value)(ro:RO)(v:Value)(s':Nat):Prop:=
 CallV prog J (fnv f) args ro [(q, .cells [.int .i64 (s:Int)].toArray 3 (0,0)),(p, .cells (vals d++sp).toArray 3 (0,0))] fun v' ro' pre'=>v'=v∧ro'=ro∧pre'= [(q, .cells [.int .i64 (s':Int)].toArray 3 (0,0)),(p, .cells (vals d++sp).toArray 3 (0,0))]
def BackQ(J:Goroutine→Mem→Prop)(c:Frame)(cs:List Frame)(ro:RO)(tail:List (Nat×Obj))(p q:Nat)(sp:List Value)(d:Array Int)(v:Value)(s':Nat):Prop:=
 ∀v' s2,v'=v→s2=s'→J (G (c.finish v') cs) ⟨ro,(q, .cells [.int .i64 (s2:Int)].toArray 3 (0,0))::(p, .cells (vals d++sp).toArray 3 (0,0))::tail⟩
variable {main:Bool}{J:Goroutine→Mem→Prop}(hJ:Closed prog main J)
include hJ
theorem CallQ.intro{f:FuncId}{s':Nat}{args:List Value}{v:Value}(hc:callableB prog f=true)
  (h:∀c cs tail,BackQ J c cs ro tail p q sp d v s'→J (G (Frame.enter prog f args.toArray .normal) (c::cs)) ⟨ro,(q, .cells [.int .i64 (s:Int)].toArray 3 (0,0))::(p, .cells (vals d++sp).toArray 3 (0,0))::tail⟩):CallQ J f p q sp d s args ro v s':=
 CallV.intro (first:= []) (cap:= []) hJ hc fun c cs tail hret=>by
  have:=h c cs tail fun v' s2 e1 e2=>hret v' ro [(q, .cells [.int .i64 (s2:Int)].toArray 3 (0,0)),(p, .cells (vals d++sp).toArray 3 (0,0))] _ (RO.le_refl _) ⟨e1,rfl,by rw [e2]⟩ (.refl _)
  simpa using this
theorem reverseRange_c(hn:d.size≤1000000000)(hab:a<b)(hb:b≤d.size):CallS J 188 p sp d cap [.int .i64 (a:Int), .int .i64 (b:Int)] ro (.tuple #[]) (reverseRange d a b):=by
 refine CallS.intro hJ Kr fun c cs tail hret=>?_
 let J:=J
 refine enter_X (n:=32) func188 U U (Nl U) ?_
 have C:Ctx prog main J (bf 188 .normal):=⟨hJ,by decide⟩
 refine Xr C U U<|Rm C U U<|Ad C U U<|Xr C U U<|Rm C U U<|R.int C U U U U (b_sub O O)<|Ad C U U<|X.block C.1<|X.loopI (ι:=Nat×Nat×Array Int) C.1 (fun s=>s.2.2.size=d.size∧s.2.1<d.size∧s.1≤d.size∧reverseLoop s.1 s.2.1 s.2.2=reverseRange d a b) (fun s=> [(0, .slice (some ⟨p,0,none⟩) d.size cap),(6, .int .i64 (s.1:Int)),(7, .int .i64 (s.2.1:Int))])
  (fun s=>⟨ro,(p, .cells (vals s.2.2++sp).toArray 3 (0,0))::tail⟩) (fun s=>s.2.1-s.1) (a,b-1,d) ⟨rfl,by show b-1<d.size;omega,by show a≤d.size;omega,rfl⟩ rfl ⟨rfl,rfl,congrArg (fun z=>some (Value.int .i64 z)) (by show(b:Int) -1=((b-1:Nat):Int);omega),trivial⟩ fun s hs hnext=>?_
 obtain⟨i,j,d1⟩:=s
 obtain⟨h1,h2,h4,h3⟩:=hs
 simp only at h1 h2 h3 h4 hnext⊢
 refine Xs C<|Xr C U U<|Rm C U U<|Rm C U U<|R.int C U U U U b_lss<|R.done C<|Xk C U (fun hlt=>?_) (fun hlt=>?_)
 ·rw [rev_go O] at h3
  refine X.skip C.1<|X.block C.1<|Xs C<|Xd C fun hok=>Dm C 0 hok U U U<|Dm C 1 hok U U U<|Dm C 2 hok U U U<|Dm C 3 hok U U U<|Dm C 4 hok U U U<|Dm C 5 hok U U U<|Dx C 6 hok U U U runUnderlying28 sizeOf3<|D1 C 7 hok U U isAgg3 V (vals_at (k:=j) O O)<|Dm C 8 hok U U U<|Dm C 9 hok U U U<|Dx C 10 hok U U U runUnderlying28 sizeOf3<|D1 C 11 hok U U isAgg3 V (vals_at (k:=i) O O)<|Dx C 12 hok U U U runUnderlying28 sizeOf3<|De 13 none [false,false] hok (fun _ _ A hk=>?_)
  refine R.store C U (A.w U U) (A.x U U) (A.x U U) sizeOf3 U U U V (vals_put (k:=i) O O) (hk undef _ ⟨QFs.nil, ?_⟩)
  refine Dx C 14 hok U U U runUnderlying28 sizeOf3<|De 15 none [] hok (fun _ _ A hk=>?_)
  refine R.store C U (A.w U U) (A.x U U) (A.x U U) sizeOf3 U U U V (vals_put (k:=j) O Zo) (hk undef _ ⟨QFs.nil, ?_⟩)
  refine D.done C hok Kr<|Xr C U U<|Rm C U U<|Ra C U U U<|Ad C U U<|X.region C U U<|Rm C U U<|R.int C U U U U (b_sub O O)<|Ad C U U<|X.inBlock C.1<|X.weaken ?_ (hnext (i+1,j-1,swp d1 i j) ⟨by simpa [swp] using h1,by show j-1<d.size;omega,by show i+1≤d.size;omega,h3⟩ Zo)
  exact⟨rfl,by simp [look],congrArg (fun z=>some (Value.int .i64 z)) (by show(j:Int) -1=((j-1:Nat):Int);omega),trivial⟩
 ·rw [rev_stop O] at h3
  refine X.exit C.1 U<|X.fall C U U func188 U (by exact .nil) ?_
  exact hret _ _ rfl h3
theorem order2_c(hn:d.size=n)(hn2:n≤1000000000)(ha:a<n)(hb:b<n)(hs:s≤1000):
  CallQ J 256 p q sp d s [.slice (some ⟨p,0,none⟩) n cap, .int .i64 (a:Int), .int .i64 (b:Int), .pointer (some ⟨q,0,none⟩)] ro (.tuple [.int .i64 ((order2 ltInt d a b s).1:Int), .int .i64 ((order2 ltInt d a b s).2.1:Int)].toArray) (order2 ltInt d a b s).2.2:=by
 refine CallQ.intro hJ Kr fun c cs tail hret=>?_
 let J:=J
 refine enter_X (n:=28) func256 U U (Nl U) ?_
 have C:Ctx prog main J (bf 256 .normal):=⟨hJ,by decide⟩
 refine Xr C U U<|R.asg C U U U<|Ad C U U<|Xs C<|Xs C<|Xd C fun hok=>Dm C 0 hok U U U<|Dm C 1 hok U U U<|Dx C 2 hok U U U runUnderlying28 sizeOf3<|D1 C 3 hok U U isAgg3 V (vals_at (k:=b) O O)<|Dm C 4 hok U U U<|Dm C 5 hok U U U<|Dx C 6 hok U U U runUnderlying28 sizeOf3<|D1 C 7 hok U U isAgg3 V (vals_at (k:=a) O O)<|De 8 (some 18) [false,false] hok (fun _ _ A hk=>?_)
 refine R.callP C U (A.w U U) (A.x U U) (A.s U U) (less_c hJ _ _ _) (hk _ _ ⟨QFs.nil, ?_⟩)
 refine D.done C hok Kr<|X.cond C.1 U (fun hl=>?_) (fun hl=>?_)
 ·have e:order2 ltInt d a b s=(b,a,s+1):=by rw [order2,if_pos hl]
  rw [e] at hret
  refine Xr C U U<|Rm C U U<|R.nilCheck C U U U<|Rl C U U isAgg3 V U<|Ra C U U U<|R.nilCheck C U U U<|R.store C U U U U sizeOf3 U U U V (.here .nil)<|R.done C<|Xr C U U<|Rm C U U<|Rm C U U<|R.asg C U U U<|Ad C U U<|X.ret C U U func256 U (by exact .tmp U (.tmp U .nil)) ?_
  exact hret _ (s+1) rfl rfl
 ·have e:order2 ltInt d a b s=(a,b,s):=by rw [order2,if_neg (by simp [hl])]
  rw [e] at hret
  refine X.skip C.1<|Xr C U U<|Rm C U U<|Rm C U U<|R.asg C U U U<|Ad C U U<|X.ret C U U func256 U (by exact .tmp U (.tmp U .nil)) ?_
  exact hret _ s rfl rfl
omit hJ in
theorem order2_lt(ha:a<n)(hb:b<n):(order2 ltInt d a b s).1<n∧(order2 ltInt d a b s).2.1<n:=by
 rcases Go.Sort.order2_mem ltInt d a b s with⟨h1,h2⟩|⟨h1,h2⟩<;>rw [h1,h2]<;>exact⟨by assumption,by assumption⟩
theorem median_c{e:Nat}(hn:d.size=n)(hn2:n≤1000000000)(ha:a<n)(hb:b<n)(he:e<n)(hs:s≤900):
  CallQ J 235 p q sp d s [.slice (some ⟨p,0,none⟩) n cap, .int .i64 (a:Int), .int .i64 (b:Int), .int .i64 (e:Int), .pointer (some ⟨q,0,none⟩)] ro (.int .i64 ((median ltInt d a b e s).1:Int)) (median ltInt d a b e s).2:=by
 refine CallQ.intro hJ Kr fun c cs tail hret=>?_
 let J:=J
 have hm:median ltInt d a b e s=((order2 ltInt d (order2 ltInt d a b s).1 (order2 ltInt d (order2 ltInt d a b s).2.1 e (order2 ltInt d a b s).2.2).1 (order2 ltInt d (order2 ltInt d a b s).2.1 e (order2 ltInt d a b s).2.2).2.2).2.1,(order2 ltInt d (order2 ltInt d a b s).1 (order2 ltInt d (order2 ltInt d a b s).2.1 e (order2 ltInt d a b s).2.2).1 (order2 ltInt d (order2 ltInt d a b s).2.1 e (order2 ltInt d a b s).2.2).2.2).2.2):=rfl
 rw [hm] at hret
 have hr1:=order2_lt (d:=d) (s:=s) ha hb
 have hc1:=Go.Sort.order2_count (lt:=ltInt) d a b s
 have k1:=order2_c hJ (p:=p) (q:=q) (sp:=sp) (cap:=cap) (ro:=ro) hn hn2 ha hb (s:=s) O
 generalize order2 ltInt d a b s=r1 at hret hr1 hc1 k1
 have hr2:=order2_lt (d:=d) (s:=r1.2.2) hr1.2 he
 have hc2:=Go.Sort.order2_count (lt:=ltInt) d r1.2.1 e r1.2.2
 have k2:=order2_c hJ (p:=p) (q:=q) (sp:=sp) (cap:=cap) (ro:=ro) hn hn2 hr1.2 he (s:=r1.2.2) O
 generalize order2 ltInt d r1.2.1 e r1.2.2=r2 at hret hr2 hc2 k2
 have hr3:=order2_lt (d:=d) (s:=r2.2.2) hr1.1 hr2.1
 have k3:=order2_c hJ (p:=p) (q:=q) (sp:=sp) (cap:=cap) (ro:=ro) hn hn2 hr1.1 hr2.1 (s:=r2.2.2) O
 generalize order2 ltInt d r1.1 r2.1 r2.2.2=r3 at hret hr3 k3
 refine enter_X (n:=36) func235 U U (Nl U) ?_
 have C:Ctx prog main J (bf 235 .normal):=⟨hJ,by decide⟩
 refine Xr C U U<|Ad C U U<|Xr C U U<|Rm C U U<|Rm C U U<|Rm C U U<|Rm C U U<|R.call C U U U U U k1 fun v1 ro1 pre1 hle1 hp1=>?_
 obtain⟨rfl,rfl,rfl⟩:=hp1
 refine Rm C U U<|R.ext C U U U U<|R.ext C U U U U<|R.asg C U U U<|Ad C U U<|Xr C U U<|Rm C U U<|Rm C U U<|Rm C U U<|Rm C U U<|R.call C U U U U U k2 fun v1 ro1 pre1 hle1 hp1=>?_
 obtain⟨rfl,rfl,rfl⟩:=hp1
 refine Rm C U U<|R.ext C U U U U<|R.ext C U U U U<|R.asg C U U U<|Ad C U U<|Xr C U U<|Rm C U U<|Rm C U U<|Rm C U U<|Rm C U U<|R.call C U U U U U k3 fun v1 ro1 pre1 hle1 hp1=>?_
 obtain⟨rfl,rfl,rfl⟩:=hp1
 refine Rm C U U<|R.ext C U U U U<|R.ext C U U U U<|R.asg C U U U<|Ad C U U<|Xr C U U<|Rm C U U<|Ad C U U<|X.ret C U U func235 U (by exact .tmp U .nil) ?_
 exact hret _ _ rfl rfl
theorem medianAdjacent_c(hn:d.size=n)(hn2:n≤1000000000)(ha:1≤a)(hb:a+1<n)(hs:s≤900):
  CallQ J 234 p q sp d s [.slice (some ⟨p,0,none⟩) n cap, .int .i64 (a:Int), .pointer (some ⟨q,0,none⟩)] ro (.int .i64 ((medianAdjacent ltInt d a s).1:Int)) (medianAdjacent ltInt d a s).2:=by
 refine CallQ.intro hJ Kr fun c cs tail hret=>?_
 let J:=J
 have k1:=median_c hJ (p:=p) (q:=q) (sp:=sp) (cap:=cap) (ro:=ro) (d:=d) (a:=a-1) (b:=a) (e:=a+1) hn hn2 O O O hs
 refine enter_X (n:=15) func234 U U (Nl U) ?_
 have C:Ctx prog main J (bf 234 .normal):=⟨hJ,by decide⟩
 refine Xr C U U<|Ad C U U<|Xr C U U<|Rm C U U<|Rm C U U<|R.int C U U U U (b_sub O O)<|R.fixv (t:=9) (v':= .int .i64 ((a-1:Nat):Int)) U (by(congr 1;omega))<|Rm C U U<|Rm C U U<|Ra C U U U<|R.fixv (t:=12) (v':= .int .i64 ((a+1:Nat):Int)) U (by rfl)<|Rm C U U<|R.call C U U U U U k1 fun v1 ro1 pre1 hle1 hp1=>?_
 obtain⟨rfl,rfl,rfl⟩:=hp1
 refine Ad C U U<|X.ret C U U func234 U (by exact .tmp U .nil) ?_
 exact hret _ _ rfl rfl
omit hJ in
def hintZ:Hint→Int
 | .unknown=>0
 | .increasing=>1
 | .decreasing=>2
theorem choosePivot_c(hn:d.size≤1000000000)(hab:a<b)(hb:b≤d.size):CallS J 187 p sp d cap [.int .i64 (a:Int), .int .i64 (b:Int)] ro (.tuple [.int .i64 ((choosePivot ltInt d a b).1:Int), .int .i64 (hintZ (choosePivot ltInt d a b).2)].toArray) d:=by
 refine CallS.intro hJ Kr fun c cs tail hret=>?_
 let J:=J
 refine enter_X (n:=57) func187 U U (Nl U) ?_
 have C:Ctx prog main J (bf 187 .normal):=⟨hJ,by decide⟩
 refine Xr C U U<|R.asg C U U U<|Ad C U U<|Xr C U U<|Rm C U U<|Rm C U U<|R.int C U U U U (b_sub O O)<|Ad C U U<|Xr C U U<|R.alloc C U U zeroValue3 U fun p9=>R.done C<|Xr C U U<|Rm C U U<|Rm C U U<|R.int C U U U U (b_quoP O O Dd)<|R.int C U U U U (b_mul O O)<|Ra C U U U<|R.fixv (t:=20) (v':= .int .i64 ((a+(b-a) /4*1:Nat):Int)) U (by(congr 1;omega))<|Ad C U U<|Xr C U U<|Rm C U U<|Rm C U U<|R.int C U U U U (b_quoP O O Dd)<|R.int C U U U U (b_mul O O)<|Ra C U U U<|R.fixv (t:=25) (v':= .int .i64 ((a+(b-a) /4*2:Nat):Int)) U (by(congr 1;omega))<|Ad C U U<|Xr C U U<|Rm C U U<|Rm C U U<|R.int C U U U U (b_quoP O O Dd)<|R.int C U U U U (b_mul O O)<|Ra C U U U<|R.fixv (t:=30) (v':= .int .i64 ((a+(b-a) /4*3:Nat):Int)) U (by(congr 1;omega))<|Ad C U U<|Xs C<|Xr C U U<|Rm C U U<|R.int C U U U U b_geq<|R.done C ?_;refine X.cond C.1 U (fun h8=>?_) (fun h8=>?_)
 ·simp only [ge_iff_le,decide_eq_true_eq] at h8
  refine Xs C<|Xr C U U<|Rm C U U<|R.int C U U U U b_geq<|R.done C<|X.cond C.1 U (fun h50=>?_) (fun h50=>?_)
  ·simp only [ge_iff_le,decide_eq_true_eq] at h50
   have ki:=fun q=>medianAdjacent_c hJ (p:=p) (q:=q) (sp:=sp) (cap:=cap) (ro:=ro) (d:=d) (a:=a+(b-a) /4*1) (s:=0) rfl hn O O O
   have mi:=Go.Sort.medianAdjacent_mem ltInt d (a+(b-a) /4*1) 0
   have ci:=Go.Sort.medianAdjacent_count (lt:=ltInt) d (a+(b-a) /4*1) 0
   have hcp0:choosePivot ltInt d a b=((median ltInt d (medianAdjacent ltInt d (a+(b-a) /4*1) 0).1 (medianAdjacent ltInt d (a+(b-a) /4*2) (medianAdjacent ltInt d (a+(b-a) /4*1) 0).2).1 (medianAdjacent ltInt d (a+(b-a) /4*3) (medianAdjacent ltInt d (a+(b-a) /4*2) (medianAdjacent ltInt d (a+(b-a) /4*1) 0).2).2).1 (medianAdjacent ltInt d (a+(b-a) /4*3) (medianAdjacent ltInt d (a+(b-a) /4*2) (medianAdjacent ltInt d (a+(b-a) /4*1) 0).2).2).2).1,
     if(median ltInt d (medianAdjacent ltInt d (a+(b-a) /4*1) 0).1 (medianAdjacent ltInt d (a+(b-a) /4*2) (medianAdjacent ltInt d (a+(b-a) /4*1) 0).2).1 (medianAdjacent ltInt d (a+(b-a) /4*3) (medianAdjacent ltInt d (a+(b-a) /4*2) (medianAdjacent ltInt d (a+(b-a) /4*1) 0).2).2).1 (medianAdjacent ltInt d (a+(b-a) /4*3) (medianAdjacent ltInt d (a+(b-a) /4*2) (medianAdjacent ltInt d (a+(b-a) /4*1) 0).2).2).2).2=0 then Hint.increasing else if(median ltInt d (medianAdjacent ltInt d (a+(b-a) /4*1) 0).1 (medianAdjacent ltInt d (a+(b-a) /4*2) (medianAdjacent ltInt d (a+(b-a) /4*1) 0).2).1 (medianAdjacent ltInt d (a+(b-a) /4*3) (medianAdjacent ltInt d (a+(b-a) /4*2) (medianAdjacent ltInt d (a+(b-a) /4*1) 0).2).2).1 (medianAdjacent ltInt d (a+(b-a) /4*3) (medianAdjacent ltInt d (a+(b-a) /4*2) (medianAdjacent ltInt d (a+(b-a) /4*1) 0).2).2).2).2=12 then .decreasing else .unknown):=by
    unfold choosePivot
    simp only [ge_iff_le,if_pos (show 8≤b-a by omega),if_pos (show 50≤b-a by omega)]
   generalize medianAdjacent ltInt d (a+(b-a) /4*1) 0=ri at*
   have kj:=fun q=>medianAdjacent_c hJ (p:=p) (q:=q) (sp:=sp) (cap:=cap) (ro:=ro) (d:=d) (a:=a+(b-a) /4*2) (s:=ri.2) rfl hn O O O
   have mj:=Go.Sort.medianAdjacent_mem ltInt d (a+(b-a) /4*2) ri.2
   have cj:=Go.Sort.medianAdjacent_count (lt:=ltInt) d (a+(b-a) /4*2) ri.2
   generalize medianAdjacent ltInt d (a+(b-a) /4*2) ri.2=rj at*
   have kk:=fun q=>medianAdjacent_c hJ (p:=p) (q:=q) (sp:=sp) (cap:=cap) (ro:=ro) (d:=d) (a:=a+(b-a) /4*3) (s:=rj.2) rfl hn O O O
   have mk:=Go.Sort.medianAdjacent_mem ltInt d (a+(b-a) /4*3) rj.2
   have ck:=Go.Sort.medianAdjacent_count (lt:=ltInt) d (a+(b-a) /4*3) rj.2
   generalize medianAdjacent ltInt d (a+(b-a) /4*3) rj.2=rk at*
   have km:=fun q=>median_c hJ (p:=p) (q:=q) (sp:=sp) (cap:=cap) (ro:=ro) (d:=d) (a:=ri.1) (b:=rj.1) (e:=rk.1) (s:=rk.2) rfl hn O O O O
   generalize median ltInt d ri.1 rj.1 rk.1 rk.2=rr at*
   have hcp:choosePivot ltInt d a b=(rr.1,if rr.2=0 then Hint.increasing else if rr.2=12 then .decreasing else .unknown):=hcp0
   refine Xr C U U<|Rm C U U<|Rm C U U<|R.call C U U U U U (ki p9) fun v1 ro1 pre1 hle1 hp1=>?_
   obtain⟨rfl,rfl,rfl⟩:=hp1
   refine Ad C U U<|Xr C U U<|Rm C U U<|Rm C U U<|R.call C U U U U U (kj p9) fun v1 ro1 pre1 hle1 hp1=>?_
   obtain⟨rfl,rfl,rfl⟩:=hp1
   refine Ad C U U<|X.region C U U<|Rm C U U<|Rm C U U<|R.call C U U U U U (kk p9) fun v1 ro1 pre1 hle1 hp1=>?_
   obtain⟨rfl,rfl,rfl⟩:=hp1
   refine Ad C U U<|X.region C U U<|Rm C U U<|Rm C U U<|Rm C U U<|Rm C U U<|R.call C U U U U U (km p9) fun v1 ro1 pre1 hle1 hp1=>?_
   obtain⟨rfl,rfl,rfl⟩:=hp1
   refine Ad C U U<|Xr C U U<|Rl C U U isAgg3 V U<|R.done C<|X.block C.1<|Xr C U U<|R.int C U U U U b_eql<|Ad C U U<|X.cond C.1 U (fun hz=>?_) (fun hz=>?_)
   ·have hz':rr.2=0:=by simpa using hz
    rw [hcp,if_pos hz'] at hret
    refine Xr C U U<|Rm C U U<|R.asg C U U U<|Ad C U U<|X.drop C.1 (own':=_::tail) (List.sublist_cons_self _ _)<|X.ret C U U func187 U (by exact .tmp U (.tmp U .nil)) ?_
    exact hret _ _ rfl rfl
   ·have hz':¬rr.2=0:=by simpa using hz
    rw [hcp,if_neg hz'] at hret
    refine Xr C U U<|R.int C U U U U b_eql<|Ad C U U<|X.cond C.1 U (fun hy=>?_) (fun hy=>?_)
    ·have hy':rr.2=12:=by simp at hy;omega
     rw [if_pos hy'] at hret
     refine Xr C U U<|Rm C U U<|R.asg C U U U<|Ad C U U<|X.drop C.1 (own':=_::tail) (List.sublist_cons_self _ _)<|X.ret C U U func187 U (by exact .tmp U (.tmp U .nil)) ?_
     exact hret _ _ rfl rfl
    ·have hy':¬rr.2=12:=by simp at hy;omega
     rw [if_neg hy'] at hret
     refine Xr C U U<|Rm C U U<|R.asg C U U U<|Ad C U U<|X.drop C.1 (own':=_::tail) (List.sublist_cons_self _ _)<|X.ret C U U func187 U (by exact .tmp U (.tmp U .nil)) ?_
     exact hret _ _ rfl rfl
  ·simp only [ge_iff_le,decide_eq_false_iff_not] at h50
   have km:=fun q=>median_c hJ (p:=p) (q:=q) (sp:=sp) (cap:=cap) (ro:=ro) (d:=d) (a:=a+(b-a) /4*1) (b:=a+(b-a) /4*2) (e:=a+(b-a) /4*3) (s:=0) rfl hn O O O O
   have hcp0:choosePivot ltInt d a b=((median ltInt d (a+(b-a) /4*1) (a+(b-a) /4*2) (a+(b-a) /4*3) 0).1,if(median ltInt d (a+(b-a) /4*1) (a+(b-a) /4*2) (a+(b-a) /4*3) 0).2=0 then Hint.increasing else if(median ltInt d (a+(b-a) /4*1) (a+(b-a) /4*2) (a+(b-a) /4*3) 0).2=12 then .decreasing else .unknown):=by
    unfold choosePivot
    simp only [ge_iff_le,if_pos (show 8≤b-a by omega),if_neg (show¬50≤b-a by omega)]
   generalize median ltInt d (a+(b-a) /4*1) (a+(b-a) /4*2) (a+(b-a) /4*3) 0=rr at*
   have hcp:=hcp0
   refine X.skip C.1<|X.region C U U<|Rm C U U<|Rm C U U<|Rm C U U<|Rm C U U<|R.call C U U U U U (km p9) fun v1 ro1 pre1 hle1 hp1=>?_
   obtain⟨rfl,rfl,rfl⟩:=hp1
   refine Ad C U U<|Xr C U U<|Rl C U U isAgg3 V U<|R.done C<|X.block C.1<|Xr C U U<|R.int C U U U U b_eql<|Ad C U U<|X.cond C.1 U (fun hz=>?_) (fun hz=>?_)
   ·have hz':rr.2=0:=by simpa using hz
    rw [hcp,if_pos hz'] at hret
    refine Xr C U U<|Rm C U U<|R.asg C U U U<|Ad C U U<|X.drop C.1 (own':=_::tail) (List.sublist_cons_self _ _)<|X.ret C U U func187 U (by exact .tmp U (.tmp U .nil)) ?_
    exact hret _ _ rfl rfl
   ·have hz':¬rr.2=0:=by simpa using hz
    rw [hcp,if_neg hz'] at hret
    refine Xr C U U<|R.int C U U U U b_eql<|Ad C U U<|X.cond C.1 U (fun hy=>?_) (fun hy=>?_)
    ·have hy':rr.2=12:=by simp at hy;omega
     rw [if_pos hy'] at hret
     refine Xr C U U<|Rm C U U<|R.asg C U U U<|Ad C U U<|X.drop C.1 (own':=_::tail) (List.sublist_cons_self _ _)<|X.ret C U U func187 U (by exact .tmp U (.tmp U .nil)) ?_
     exact hret _ _ rfl rfl
    ·have hy':¬rr.2=12:=by simp at hy;omega
     rw [if_neg hy'] at hret
     refine Xr C U U<|Rm C U U<|R.asg C U U U<|Ad C U U<|X.drop C.1 (own':=_::tail) (List.sublist_cons_self _ _)<|X.ret C U U func187 U (by exact .tmp U (.tmp U .nil)) ?_
     exact hret _ _ rfl rfl
 ·simp only [ge_iff_le,decide_eq_false_iff_not] at h8
  have hcp:choosePivot ltInt d a b=(a+(b-a) /4*2,Hint.increasing):=by
   unfold choosePivot
   simp only [ge_iff_le,if_neg (show¬8≤b-a by omega)]
   rfl
  rw [hcp] at hret
  refine X.skip C.1<|Xr C U U<|Rl C U U isAgg3 V U<|R.done C<|X.block C.1<|Xr C U U<|R.int C U U U U b_eql<|Ad C U U<|X.cond C.1 U (fun hz=>?_) (fun hz=>?_)
  ·refine Xr C U U<|Rm C U U<|R.asg C U U U<|Ad C U U<|X.drop C.1 (own':=_::tail) (List.sublist_cons_self _ _)<|X.ret C U U func187 U (by exact .tmp U (.tmp U .nil)) ?_
   exact hret _ _ rfl rfl
  ·simp at hz
end Go.Lg.B
