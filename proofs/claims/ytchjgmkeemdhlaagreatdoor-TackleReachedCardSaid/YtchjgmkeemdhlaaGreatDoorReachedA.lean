/-
  It is proved that the given function answers true for every input, whatever is scheduled: the statement Reached of the seat. Conditions: none but those of the given statement itself.
-/
import Derived.Test.YtchjgmkeemdhlaaGreatDoorKE
import Derived.Conc.Holds
set_option maxRecDepth 100000
set_option maxHeartbeats 2000000
set_option linter.all false
set_option linter.unusedVariables false
set_option linter.unusedSimpArgs false
set_option linter.unusedSectionVars false
namespace Go.Lg
open Go Go.Conc
theorem R.neEq{P:Program}{main:Bool}{J:Goroutine→Mem→Prop}{b:Frame}(C:Ctx P main J b){cs:List Frame}{n:Nat}{ds:List Deferred}{σ:Slots}{k:List Item}{ops:Array Oper}{i:Nat}{rest:List Nat}{d:Nat}{ty:TypeId}{pos:String}{af:Array Edge}{g:Option (Nat×Bool)}
  {t t':TypeId} {x y:Operand} {p q:List Value} {r:Bool} {M:Mem} (ho:ops[i]? =some ⟨some d, .binOp .neq t x y t',ty,pos,af,g⟩) (hg:wantedS ops σ ⟨some d, .binOp .neq t x y t',ty,pos,af,g⟩=some true)
  (hx:ev σ x=some (.agg p.toArray)) (hy:ev σ y=some (.agg q.toArray)) (ht:Eq1 P 10000 t (.agg p.toArray) (.agg q.toArray) r) (hd:P.eqGuardType P.depth t=false)
  (h:R J b cs n ops rest k ds ((d, .bool (!r))::σ) M):R J b cs n ops (i::rest) k ds σ M:=
 R.v C ho hg rfl (fun a ha K hk=>by
  unfold execOp
  simp only [ha.ev hx,ha.ev hy]
  refine ex_v (Sm.bind ?_)
  unfold eqGuard
  refine Sm.bind (Sm.program (Sm.bind (Sm.program ?_)))
  rw [hd]
  refine Sm.pure ?_
  show Sm P M (binOp .neq t (.agg p.toArray) (.agg q.toArray)) _
  unfold binOp
  simp only
  exact Sm.bind (ht _ _ (Sm.pure hk))) h
theorem X.afterI{J:Goroutine→Mem→Prop}{b:Frame}{cs:List Frame}{n:Nat}{ds:List Deferred}{σ:Slots}{M:Mem}{k:List Item}{it:Item}{ι:Type}(Ex:ι→Prop)(σe:ι→Slots)(Me:ι→Mem)(hk:∀s,Ex s→X J b cs n k ds (σe s) (Me s))
  (h:(∀s,Ex s→X J b cs n k ds (σe s) (Me s))→X J b cs n (it::k) ds σ M):X J b cs n (it::k) ds σ M:=h hk
section
variable {P:Program}{main:Bool}{J:Goroutine→Mem→Prop}{b:Frame}(C:Ctx P main J b){cs:List Frame}{n:Nat}{ds:List Deferred}{σ:Slots}{ro:RO}{own:List (Nat×Obj)}{k:List Item}{ops:Array Oper}{i:Nat}{rest:List Nat}
variable {d:Nat}{ty:TypeId}{pos:String}{af:Array Edge}{g:Option (Nat×Bool)}
end
section
variable {P:Program}{main:Bool}{J:Goroutine→Mem→Prop}{b:Frame}(C:Ctx P main J b){cs:List Frame}{n:Nat}{ds:List Deferred}{σ:Slots}{k:List Item}{ops:Array Oper}{i:Nat}{rest:List Nat}
 {d:Nat} {ty:TypeId} {pos:String} {af:Array Edge} {g:Option (Nat×Bool)}
include C
end
end Go.Lg
namespace Go.Lg.B
open Go Go.Conc Go.Lg Go.Proofs Go.Proofs.Tryz
def Bk.borne(b:Bk)(i:Nat)(r:Rc):Bk:={b with ps:=b.ps.modify i fun p=>{p with r:=r} }
def knowH(b:Bk)(i:Int)(y:Rc):Int:=
 if checkBook b≠0 then checkBook b else if there i b.ps.length≠0 then there i b.ps.length else if knownH (b.part i).r y 0≠0 then knownH (b.part i).r y 0 else openH (b.borne i.toNat ((b.part i).r.meet y)) 0
variable {main:Bool}{J:Goroutine→Mem→Prop}(hJ:Closed prog main J)
include hJ
omit hJ in
theorem Bk.short.borne{b:Bk}(h:b.short)(i:Nat)(r:Rc):(b.borne i r).short:=by
 refine⟨⟨by simpa [Bk.borne] using h.ps.1,fun p hp=>?_⟩,h.gs,h.cs,h.ts⟩
 obtain⟨j,hj,rfl⟩:=List.mem_iff_getElem.1 hp
 simp only [Bk.borne,List.getElem_modify]
 split
 ·exact h.ps.2 (b.ps[j]'(by simpa [Bk.borne] using hj)) (List.getElem_mem _)
 ·exact h.ps.2 _ (List.getElem_mem _)
theorem know_c{b:Bk}{v:Value}{ro:RO}(he:Env ro)(hv:BkV ro v b)(hs:b.short)(i:Int)(y:Rc):CallR prog J (fnv 79) [v, .int .i64 i,y.val] ro (fun w ro'=>NewV ro' (b.borne i.toNat ((b.part i).r.meet y)) (knowH b i y) w):=by
 have hvv:=hv
 obtain⟨vp,vg,vc,vt,rfl,hv⟩:=hv
 have hv':=hv
 obtain⟨pb,pcap,rfl⟩:=hv.1.form
 obtain⟨gb,gcap,rfl⟩:=hv.2.1.form
 obtain⟨cb,ccap,rfl⟩:=hv.2.2.1.form
 obtain⟨tb,tcap,rfl⟩:=hv.2.2.2.form
 refine CallR.intro hJ (by kernel_rfl) fun c cs tail hret=>enter_X (n:=44) func79 U U (Nl U) ?_
 have C:Ctx prog main J (bf 79 .normal):=⟨hJ,by decide⟩
 refine Xr C U U<|R.box C U U U U fun p3=>R.box C U U U U fun p5=>R.alloc C U U zeroValue27 U fun p6=>Ad C U U<|Xs C<|Xr C U U<|R5 C U U isAgg27 sizeOf27 (by repeat constructor) Tk5<|R.callP C U U U U (checkBook_c hJ (by assumption) (by assumption) (by assumption))<|Ad C U U<|Xr C U U<|Rm C U U<|R.int C U U U U b_neq<|R.done C<|X.cond C.1 U (fun hh=>?_) (fun hh=>?_)
 ·have hh:checkBook b≠0:=by simpa using hh
  have e:knowH b i y=checkBook b:=by rw [knowH,if_pos hh]
  refine Xr C U U ?_;refine R.build C U U U zeroValue27 U runUnderlying27 (by kernel_rfl) .nil<|Rm C U U<|R.store C U U U U sizeOf27 U U U (by repeat constructor) Ph5<|Ad C U U<|X.ret C U U func79 U (by exact(.agg U isAgg27 sizeOf27 (by repeat constructor) Tk5 (.tmp U .nil)))<|Hr hret (RO.le_refl _) ?_
  rw [e];exact .inl ⟨hh,rfl⟩
 ·have hh:checkBook b=0:=by simpa using hh
  have hb:=good_of hh
  have hn:=hb.np
  refine X.skip C.1<|Xs C<|Xr C U U<|Rm C U U<|R5 C U U isAgg27 sizeOf27 (by repeat constructor) Tk5<|R.call C U U U U (pre:= []) U (yardOf_c hJ hv') fun w1 ro1 pre1 hl1 hp1=>?_
  obtain⟨rfl,m,rfl,rfl⟩:=hp1
  refine R.callP C U U U U (bound (askPart_c hJ hv' hb i m))<|Ad C U U<|Xr C U U<|Rm C U U<|R.int C U U U U b_neq<|R.done C<|X.cond C.1 U (fun hi0=>?_) (fun hi0=>?_)
  ·have hi0:there i b.ps.length≠0:=by simpa using hi0
   have e:knowH b i y=there i b.ps.length:=by rw [knowH,if_neg (fun h=>h hh),if_pos hi0]
   refine Xr C U U ?_;refine R.build C U U U zeroValue27 U runUnderlying27 (by kernel_rfl) .nil<|Rm C U U<|R.store C U U U U sizeOf27 U U U (by repeat constructor) Ph5<|Ad C U U<|X.ret C U U func79 U (by exact(.agg U isAgg27 sizeOf27 (by repeat constructor) Tk5 (.tmp U .nil)))<|Hr hret (RO.le_refl _) ?_
   rw [e];exact .inl ⟨hi0,rfl⟩
  ·have hi0:there i b.ps.length=0:=by simpa using hi0
   have hib:=there_zero.1 hi0
   have hil:i.toNat<b.ps.length:=by omega
   have hpi:b.part i=b.ps[i.toNat]:=by simp [Bk.part,List.getD_eq_getElem?_getD,hil]
   have e0:knowH b i y=if knownH (b.part i).r y 0≠0 then knownH (b.part i).r y 0 else openH (b.borne i.toNat ((b.part i).r.meet y)) 0:=by rw [knowH,if_neg (fun h=>h hh),if_neg (fun h=>h hi0)]
   refine X.skip C.1<|Xr C U U<|Rf C 1 U U runUnderlying27 U sizeOf22<|Rl C U U isAgg22 (by repeat constructor) U<|R.call C U U U U (pre:= []) U (cloneP_c hJ hv'.1 (by omega)) fun w2 ro2 pre2 hl2 hp2=>?_
   obtain⟨hro2,hbuf⟩:=hp2
   subst hro2
   obtain⟨p9,cap9,sp9,rfl,hcap9,rfl⟩:=blk_of Pt.len (by decide) hbuf (by intro h;rw [h] at hil;exact absurd hil (Nat.not_lt_zero _))
   have hmf:=modify_flat (enc:=Pt.cells) (k:=4) Pt.len (fun p=>{p with r:=(b.part i).r.meet y}) b.ps i.toNat sp9 2 [.int .i64 (max (b.part i).r.lo y.lo), .int .i64 (min (b.part i).r.hi y.hi)] hil (fun x _=> .skip (.skip Ph2))
   have hml:(b.ps.modify i.toNat fun p=>{p with r:=(b.part i).r.meet y}).length=b.ps.length:=by simp
   have g0:=flat_get (sp:=sp9) Pt.len (l:=b.ps) hil (show 2<4 by decide)
   have g1:=flat_get (sp:=sp9) Pt.len (l:=b.ps) hil (show 2+1<4 by decide)
   have g2:=flat_get (sp:=sp9) Pt.len (l:=b.ps.modify i.toNat fun p=>{p with r:=(b.part i).r.meet y}) (i:=i.toNat) (by rw [hml];exact hil) (show 2<4 by decide)
   have g3:=flat_get (sp:=sp9) Pt.len (l:=b.ps.modify i.toNat fun p=>{p with r:=(b.part i).r.meet y}) (i:=i.toNat) (by rw [hml];exact hil) (show 2+1<4 by decide)
   rw [List.getElem_modify,if_pos rfl] at g2 g3
   rw [←hpi] at g0 g1
   have eo:0+i.toNat*4+2=i.toNat*4+2:=by omega
   have hkc:=known_c hJ (pb:=p9) (t:=67) (off:=0+i.toNat*4+2) (k:=0) (ro:=ro2) (r:=(b.part i).r) (y:=y) (by rw [eo];exact g0) (by rw [eo];exact g1) (by rw [eo];exact hmf) (by rw [eo];exact g2) (by rw [eo];exact g3)
   refine Rf C 1 U U runUnderlying27 U sizeOf22<|R.store C U U U U sizeOf22 U U U (by repeat constructor) (.skip (.here .nil))<|R.done C<|Xs C<|Xs C<|Xd C fun hok=>Df (off':=1) C 0 hok U U U runUnderlying27 U sizeOf22 U<|D1 C 1 hok U U isAgg22 (by repeat constructor) U<|Dm C 2 hok U U U<|Dx C 3 hok U U U runUnderlying22 sizeOf67<|Df C 4 hok U U U runUnderlying67 U sizeOf65 U<|D5 C 5 hok U U isAgg65 sizeOf65 (by repeat constructor) Tk2<|De 6 (some 35) [false,false] hok (fun _ _ A hk=>?_)
   refine R.call C U (A.w U U) (A.x U U) (A.s U U) (pre:= [_]) U hkc fun w3 ro3 pre3 hl3 hp3=>hk _ _ ⟨QFs.nil, ?_⟩
   obtain⟨rfl,hro3,hk0,l2,rfl⟩:=hp3
   subst hro3
   refine Da C 7 hok U U<|D.done C hok (by kernel_rfl)<|Xr C U U<|Rm C U U<|R.int C U U U U b_neq<|R.done C<|X.cond C.1 U (fun hk=>?_) (fun hk=>?_)
   ·have hk:knownH (b.part i).r y 0≠0:=by simpa using hk
    have e:knowH b i y=knownH (b.part i).r y 0:=by rw [e0,if_pos hk]
    refine Xr C U U ?_;refine R.build C U U U zeroValue27 U runUnderlying27 (by kernel_rfl) .nil<|Rm C U U<|R.store C U U U U sizeOf27 U U U (by repeat constructor) Ph5<|Ad C U U<|X.ret C U U func79 U (by exact(.agg U isAgg27 sizeOf27 (by repeat constructor) Tk5 (.tmp U .nil)))<|Hr hret (RO.le_refl _) ?_
    rw [e];exact .inl ⟨hk,rfl⟩
   ·have hk:knownH (b.part i).r y 0=0:=by simpa using hk
    have e:knowH b i y=openH (b.borne i.toNat ((b.part i).r.meet y)) 0:=by rw [e0,if_neg (fun h=>h hk)]
    rw [hk0 hk]
    refine X.skip C.1<|Xs C<|X.persist C.1 fun ro4 hl4 h9=>?_
    have hls:Ls Pt.cells 4 ro4 (.slice (some ⟨p9,0,none⟩) b.ps.length cap9) (b.ps.modify i.toNat fun p=>{p with r:=(b.part i).r.meet y}):=⟨_,_,by rw [hml], .inr ⟨p9,0,_,_,_,rfl,h9,by rw [←flatMap_len Pt.len];exact Sub.front _ _⟩⟩
    have hv4:=hv'.mono hl4
    have hag:=agreed_c hJ (b:=b.borne i.toNat ((b.part i).r.meet y)) (he.mono hl4) ⟨_,_,_,_,rfl,hls,hv4.2.1,hv4.2.2.1,hv4.2.2.2⟩ (hs.borne _ _)
    refine X.region C U U<|R5 C U U isAgg27 sizeOf27 (by repeat constructor) Tk5<|R.callR C U U U U (hag) fun w5 ro5 hl5 hp5=>?_
    rcases hp5 with⟨h1,rfl⟩|⟨h1,v5,hv5,rfl⟩
    ·
     refine R.ext C U U U U<|R.ext C U U U U<|R.store C U U U U sizeOf27 U U U (by repeat constructor) Ph5<|Ad C U U<|X.ret C U U func79 U (by exact(.agg U isAgg27 sizeOf27 (by repeat constructor) Tk5 (.tmp U .nil)))<|Hr hret (RO.le_trans hl4 hl5) ?_
     rw [e];exact .inl ⟨h1,rfl⟩
    ·
     have hv5':=hv5
     obtain⟨_,_,_,_,rfl,hv5⟩:=hv5
     obtain⟨_,_,rfl⟩:=hv5.1.form
     obtain⟨_,_,rfl⟩:=hv5.2.1.form
     obtain⟨_,_,rfl⟩:=hv5.2.2.1.form
     obtain⟨_,_,rfl⟩:=hv5.2.2.2.form
     refine R.ext C U U U U<|R.ext C U U U U<|R.store C U U U U sizeOf27 U U U (by repeat constructor) Ph5<|Ad C U U<|X.ret C U U func79 U (by exact(.agg U isAgg27 sizeOf27 (by repeat constructor) Tk5 (.tmp U .nil)))<|Hr hret (RO.le_trans hl4 hl5) ?_
     rw [e];exact .inr ⟨h1,_,hv5',rfl⟩
end Go.Lg.B
namespace Go.Lg.B
open Go Go.Conc Go.Lg Go.Proofs Go.Proofs.Tryz
theorem cmpI_flip(x y:Int):cmpI y x= -cmpI x y:=by unfold cmpI;split<;>split<;>(try split)<;>omega
theorem cmpL_flip:∀a c:List Int,cmpL c a= -cmpL a c
 | [], []=>rfl
 | [],_::_=>rfl
 |_::_, []=>rfl
 |x::xs,y::ys=>by
  have h:=cmpI_flip x y
  have ih:=cmpL_flip xs ys
  simp only [cmpL]
  split<;>split<;>omega
theorem cmpL_zero:∀ {a c:List Int},cmpL a c=0→a=c
 | [], [],_=>rfl
 | [],_::_,h=>by simp [cmpL] at h
 |_::_, [],h=>by simp [cmpL] at h
 |x::xs,y::ys,h=>by
  simp only [cmpL] at h
  split at h
  ·contradiction
  ·rename_i hx
   simp only [ne_eq,Decidable.not_not] at hx
   rw [cmpI_zero.1 hx,cmpL_zero h]
theorem cmpL_refl:∀a:List Int,cmpL a a=0
 | []=>rfl
 |x::xs=>by
  have:cmpI x x=0:=cmpI_zero.2 rfl
  simp [cmpL,this,cmpL_refl xs]
theorem sameInts_iff{a c:List Int}:sameInts a c=decide (a=c):=by
 unfold sameInts earlier
 have h:=cmpL_flip a c
 by_cases e:a=c
 ·subst e;simp [cmpL_refl]
 ·have:cmpL a c≠0:=fun h=>e (cmpL_zero h)
  rw [decide_eq_false e]
  by_cases h1:cmpL a c<0
  ·simp [h1]
  ·have h2:cmpL c a<0:=by omega
   simp [h2]
inductive LeL:List Int→List Int→Prop
 |nil:LeL [] []
 |cons {x y:Int} {a c:List Int}:x≤y→LeL a c→LeL (x::a) (y::c)
theorem LeL.getD{a c:List Int}(h:LeL a c):∀i,a.getD i 0≤c.getD i 0:=by
 induction h with
 |nil=>intro i;simp
 |cons h _ ih=>
  intro i
  cases i with
  |zero=>simpa using h
  |succ i=>simpa using ih i
theorem numbers_mem{l:List Int}{x:Int}:x∈numbers l↔x∈l:=by
 have hs:(l.mergeSort fun x y=>decide (x≤y)).Pairwise (· ≤ ·):=by
  have:=List.pairwise_mergeSort (le:=fun x y:Int=>decide (x≤y)) (by intro a b c;simp;omega) (by intro a b;simp;omega) l
  exact this.imp (by intro a b;simp)
 have hf:=fold_asc _ [] .nil hs (by simp)
 show x∈List.foldl cstep [] _↔_
 rw [hf.2]
 simp [(List.mergeSort_perm l _).mem_iff]
theorem numbers_asc(l:List Int):(numbers l).Pairwise (· < ·):=by
 have hs:(l.mergeSort fun x y=>decide (x≤y)).Pairwise (· ≤ ·):=by
  have:=List.pairwise_mergeSort (le:=fun x y:Int=>decide (x≤y)) (by intro a b c;simp;omega) (by intro a b;simp;omega) l
  exact this.imp (by intro a b;simp)
 exact(fold_asc _ [] .nil hs (by simp)).1
theorem weights_hi{b:Bk}(hb:b.good){k:Int}(h0:0≤k)(h1:k<b.cs.length){x:Int}(hx:(b.piece k).r.lo≤x∧x≤(b.piece k).r.hi):∃w∈weightsL b,nth w k=x:=by
 have hk:k.toNat<b.cs.length:=by omega
 have hpk:b.piece k=b.cs[k.toNat]:=by simp [Bk.piece,List.getD_eq_getElem?_getD,hk]
 refine⟨(b.cs.map fun c=>c.r.lo).set k.toNat x,mem_spread.2 ⟨by simp,fun i r hr=>?_⟩, ?_⟩
 ·rw [List.getElem?_map] at hr
  obtain⟨c,hc,rfl⟩:=Option.map_eq_some_iff.1 hr
  have hi:i<b.cs.length:=(List.getElem?_eq_some_iff.1 hc).1
  have hf:=hb.cs c (List.mem_of_getElem? hc)
  rw [List.getElem?_set]
  by_cases e:k.toNat=i
  ·subst e
   rw [if_pos rfl,if_pos (by simpa using hi)]
   have:c=b.piece k:=by rw [hpk];rw [List.getElem?_eq_getElem hi] at hc;exact(Option.some.inj hc).symm
   exact⟨x,rfl,by simpa [this] using hx⟩
  ·rw [if_neg e,List.getElem?_map,hc]
   exact⟨_,rfl,Int.le_refl _,hf.2.1⟩
 ·simp [nth,List.getD_eq_getElem?_getD,List.getElem?_set,hk]
theorem weights_in{b:Bk}{k:Int}(h0:0≤k)(h1:k<b.cs.length){w:List Int}(hw:w∈weightsL b):(b.piece k).r.lo≤nth w k∧nth w k≤(b.piece k).r.hi:=by
 have hk:k.toNat<b.cs.length:=by omega
 have hpk:b.piece k=b.cs[k.toNat]:=by simp [Bk.piece,List.getD_eq_getElem?_getD,hk]
 obtain⟨_,h⟩:=mem_spread.1 hw
 obtain⟨x,hx,h3⟩:=h k.toNat (b.cs[k.toNat]).r (by simp [hk])
 rw [hpk]
 simpa [nth,List.getD_eq_getElem?_getD,hx] using h3
theorem open_nine{b:Bk}(h:checkBook b=0)(hL:cases b= []):openH b 0=9:=by rw [openH_zero,if_neg (fun e=>e h),if_pos hL]
theorem open_zero{b:Bk}(h:checkBook b=0)(hL:cases b≠ []):openH b 0=0:=by rw [openH_zero,if_neg (fun e=>e h),if_neg hL]
theorem rz_asc:∀ (m:Nat) (n:Int),(rz n m).Pairwise (· < ·)
 |0,_=> .nil
 |m+1,n=>List.pairwise_cons.2 ⟨fun x hx=>by have:=mem_rz.1 hx;omega,rz_asc m (n+1)⟩
section
variable {main:Bool}{J:Goroutine→Mem→Prop}(hJ:Closed prog main J)
include hJ
end
end Go.Lg.B
namespace Go.Lg.B
open Go Go.Conc Go.Lg Go.Proofs Go.Proofs.Tryz
theorem pullsGo_alike{b c:Bk}(h:∀x,b.sheaves x=c.sheaves x):∀ (q:List Int) (n:Int),pullsGo b n q=pullsGo c n q
 | [],_=>rfl
 |x::q,n=>by rw [pullsGo,pullsGo,h,pullsGo_alike h q]
theorem gives_alike{b c:Bk}(hw:b.w=c.w)(hg:b.gs=c.gs)(h:∀x,b.sheaves x=c.sheaves x)(p:List Int)(g n:Int):gives b p g n=gives c p g n:=by
 have e:∀g,b.gear g=c.gear g:=fun g=>by unfold Bk.gear;rw [hg]
 unfold gives pulls
 rw [hw,e,pullsGo_alike h]
theorem lifts_alike{b c:Bk}(hw:b.w=c.w)(hg:b.gs=c.gs)(h:∀x,b.sheaves x=c.sheaves x)(p:List Int)(g n:Int):lifts b p g n=lifts c p g n:=by
 unfold lifts;rw [gives_alike hw hg h]
theorem parts_borne:∀ {l:List Pt} {before:List (List UInt8)} {i:Nat} {r:Rc},isNarrow r 0=true→partsGo before l=0→partsGo before (l.modify i fun p=>{p with r:=r})=0
 | [],_,i,_,_,_=>by simp [partsGo]
 |x::l,before,i,r,hr,h=>by
  simp only [partsGo] at h
  obtain⟨h1,h⟩:=ite_same h
  obtain⟨h2,h⟩:=ite_zero (by decide) h
  simp only [Bool.or_eq_true,Bool.not_eq_true',not_or,Bool.not_eq_false] at h2
  cases i with
  |zero=>
   rw [List.modify_zero_cons]
   simp only [partsGo]
   rw [if_neg (by simp [h1]),if_neg (by simp [h2.1,hr])]
   exact h
  |succ i=>
   rw [List.modify_succ_cons]
   simp only [partsGo]
   rw [if_neg (by simp [h1]),if_neg (by simp [h2.1,h2.2])]
   exact parts_borne hr h
theorem check_borne{b:Bk}(hch:checkBook b=0)(i:Nat){r:Rc}(hr:isNarrow r 0=true):checkBook (b.borne i r)=0:=by
 obtain⟨w,p,g,c,t⟩:=check_parts hch
 have hlen:(b.borne i r).ps.length=b.ps.length:=List.length_modify ..
 have hp:(b.borne i r).partsH=0:=by
  unfold Bk.partsH at p⊢
  obtain⟨p1,p2⟩:=ite_zero (by decide) p
  rw [hlen,if_neg p1]
  exact parts_borne hr p2
 have hg:(b.borne i r).gearsH=0:=by
  unfold Bk.gearsH at g⊢
  rw [hlen];exact g
 have hw:(b.borne i r).winchH=0:=w
 have hc:(b.borne i r).piecesH=0:=c
 have ht:(b.borne i r).testsH=0:=t
 unfold checkBook
 rw [hw,hp,hg,hc,ht];rfl
theorem borne_sheaves(b:Bk)(i:Nat)(r:Rc)(x:Int):(b.borne i r).sheaves x=b.sheaves x:=by
 unfold Bk.sheaves Bk.borne
 simp only [List.getD_eq_getElem?_getD,List.getElem?_modify]
 cases b.ps[x.toNat]? with
 |none=>rfl
 |some q=>by_cases e:i=x.toNat<;>simp [e]
structure RenOk(b c:Bk)(l:List Int):Prop where
 w:c.w=b.w
 gs:c.gs=b.gs
 cs:c.cs=b.cs
 ts:c.ts=b.ts
 np:c.ps.length=b.ps.length
 sh:∀x,c.sheaves x=b.sheaves x
 ps:∀i:Nat,c.ps[i]? =b.ps[i]?.map fun p=>if(i:Int)∈l then {p with r:=⟨99,99⟩ } else p
 ch:checkBook b=0→checkBook c=0
theorem nums_meet(r y:Rc):(r.meet y).nums=r.nums.filter fun x=>between x y.lo y.hi:=by
 refine asc_unique (rz_asc _ _) ((rz_asc _ _).filter _) fun x=>?_
 show x∈(r.meet y).nums↔x∈r.nums.filter _
 rw [mem_nums,List.mem_filter,mem_nums,between_iff]
 simp only [Rc.meet]
 omega
theorem flatMap_cond{α β:Type}{f:α→List β}{q:α→Bool}{p:β→Bool}:∀L:List α,(∀n∈L,∀l∈f n,p l=q n)→(L.filter q).flatMap f=(L.flatMap f).filter p
 | [],_=>rfl
 |n::L,h=>by
  have ih:=flatMap_cond L fun m hm=>h m (by simp [hm])
  rw [List.flatMap_cons,List.filter_append, ←ih,List.filter_cons]
  by_cases e:q n=true
  ·have e1:(f n).filter p=f n:=List.filter_eq_self.2 fun l hl=>by rw [h n (by simp) l hl,e]
   rw [if_pos e,List.flatMap_cons,e1]
  ·have e1:(f n).filter p= []:=List.filter_eq_nil_iff.2 fun l hl=>by rw [h n (by simp) l hl];exact e
   rw [if_neg e,e1,List.nil_append]
theorem spread_meet:∀ (rs:List Rc) (i:Nat) (y:Rc),i<rs.length→spread (rs.modify i fun r=>r.meet y)=(spread rs).filter fun l=>between (nth l i) y.lo y.hi
 | [],_,_,h=>by simp at h
 |r::rs,0,y,_=>by
  rw [List.modify_zero_cons]
  simp only [spread]
  rw [nums_meet]
  refine flatMap_cond _ fun n _ l hl=>?_
  obtain⟨k,_,rfl⟩:=List.mem_map.1 hl
  rfl
 |r::rs,i+1,y,h=>by
  rw [List.modify_succ_cons]
  simp only [spread]
  rw [List.filter_flatMap,spread_meet rs i y (by simpa using h)]
  congr 1
  funext n
  rw [List.filter_map]
  rfl
theorem cases_part{b c:Bk}{p:List Int→Bool}(h1:bearsL c=(bearsL b).filter p)(h2:weightsL c=weightsL b):cases c=(cases b).filter fun t=>p t.1:=by
 unfold cases
 rw [h1,h2]
 refine flatMap_cond _ fun n _ l hl=>?_
 obtain⟨k,_,rfl⟩:=List.mem_map.1 hl
 rfl
theorem borne_rs{b:Bk}{i:Int}(h0:0≤i)(h1:i<b.ps.length)(y:Rc):(b.borne i.toNat ((b.part i).r.meet y)).ps.map Pt.r=(b.ps.map Pt.r).modify i.toNat fun r=>r.meet y:=by
 have hk:i.toNat<b.ps.length:=by omega
 have hp:b.part i=b.ps[i.toNat]:=by simp [Bk.part,List.getD_eq_getElem?_getD,hk]
 refine List.ext_getElem? fun j=>?_
 unfold Bk.borne
 simp only [List.getElem?_map,List.getElem?_modify]
 by_cases e:i.toNat=j
 ·subst e
  rw [List.getElem?_eq_getElem hk,hp];simp
 ·cases b.ps[j]? <;>simp [e]
theorem right_alike{b c:Bk}(hw:b.w=c.w)(hg:b.gs=c.gs)(ht:b.ts=c.ts)(h:∀x,b.sheaves x=c.sheaves x)(p:List Int):right b p=right c p:=by
 unfold right
 rw [ht]
 congr 1
 funext t
 rw [lifts_alike hw hg h]
theorem cases_borne{b:Bk}{i:Int}(h0:0≤i)(h1:i<b.ps.length)(y:Rc):cases (b.borne i.toNat ((b.part i).r.meet y))=(cases b).filter fun t=>between (nth t.1 i) y.lo y.hi:=by
 refine cases_part (p:=fun l=>between (nth l i) y.lo y.hi) ?_ U
 unfold bearsL
 rw [borne_rs h0 h1,spread_meet _ _ _ (by rw [List.length_map];omega),List.filter_filter,List.filter_filter]
 refine List.filter_congr fun p _=>?_
 rw [right_alike (b:=b.borne i.toNat ((b.part i).r.meet y)) (c:=b) rfl rfl rfl (borne_sheaves b _ _),show((i.toNat:Nat):Int)=i by omega,Bool.and_comm]
theorem bearsOf_mem{b:Bk}{i x:Int}:x∈bearsOf b i↔ ∃t∈cases b,nth t.1 i=x:=by rw [bearsOf,numbers_mem,List.mem_map]
theorem weightsOf_mem{b:Bk}{i x:Int}:x∈weightsOf b i↔ ∃t∈cases b,nth t.2 i=x:=by rw [weightsOf,numbers_mem,List.mem_map]
theorem bears_in{b:Bk}{i:Int}(h0:0≤i)(h1:i<b.ps.length){p:List Int}(hp:p∈bearsL b):(b.part i).r.lo≤nth p i∧nth p i≤(b.part i).r.hi:=by
 have hk:i.toNat<b.ps.length:=by omega
 have hpk:b.part i=b.ps[i.toNat]:=by simp [Bk.part,List.getD_eq_getElem?_getD,hk]
 obtain⟨_,h⟩:=mem_spread.1 (mem_of_filter hp)
 obtain⟨x,hx,h3⟩:=h i.toNat (b.ps[i.toNat]).r (by simp [hk])
 rw [hpk]
 simpa [nth,List.getD_eq_getElem?_getD,hx] using h3
theorem asc_len{lo:Int}{m:Nat}{l:List Int}(ha:l.Pairwise (· < ·))(h:∀x∈l,lo≤x∧x<lo+m):l.length≤m:=by
 have h1:(l.map fun x=>x-lo).Nodup:=by
  refine List.pairwise_map.2 (ha.imp fun h=>?_)
  omega
 have:=nodup_len (m:=m) h1 fun n hn=>by
  obtain⟨x,hx,rfl⟩:=List.mem_map.1 hn
  have:=h x hx;omega
 simpa using this
theorem weightsOf_eq{b:Bk}(hb:b.good)(hne:cases b≠ []){k:Int}(h0:0≤k)(h1:k<b.cs.length):weightsOf b k=(b.piece k).r.nums:=by
 refine asc_unique (numbers_asc _) (rz_asc _ _) fun x=>?_
 show x∈weightsOf b k↔x∈(b.piece k).r.nums
 rw [weightsOf_mem,mem_nums]
 constructor
 ·rintro⟨t,ht,rfl⟩
  exact weights_in h0 h1 (mem_cases.1 ht).2
 ·intro hx
  obtain⟨w,hw,e⟩:=weights_hi hb h0 h1 hx
  cases hc:cases b with
  |nil=>exact absurd hc hne
  |cons t T=>
   have ht:t∈cases b:=by rw [hc];simp
   rw [←hc]
   exact⟨(t.1,w),mem_cases.2 ⟨(mem_cases.1 ht).1,hw⟩,e⟩
structure NoLess(b c:Bk):Prop where
 gs:c.gs.length=b.gs.length
 cs:c.cs.length=b.cs.length
 ps:c.ps.length=b.ps.length
 sure:∀m g p:Nat,g<b.gs.length→p<b.cs.length→sure b m g p=true→sure c m g p=true
 most:∀g:Int,0≤g→g<b.gs.length→most b g≤most c g
 weak:∀g n:Int,0≤g→g<b.gs.length→∀x∈weak c g n,x∈weak b g n
theorem NoLess.sureM{b c:Bk}(h:NoLess b c)(m g p:Nat)(hs:sureM b m g p=true):sureM c m g p=true:=by
 simp only [Go.Lg.B.sureM,Bool.and_eq_true,decide_eq_true_eq] at hs⊢
 rw [h.gs,h.cs]
 exact⟨hs.1,hs.2.1,h.sure _ _ _ hs.1 hs.2.1 hs.2.2⟩
structure Fewer(b c:Bk):Prop where
 w:c.w=b.w
 gs:c.gs=b.gs
 nc:c.cs.length=b.cs.length
 np:c.ps.length=b.ps.length
 sh:∀x,c.sheaves x=b.sheaves x
 cases:(cases c).Sublist (cases b)
theorem Fewer.lifts{b c:Bk}(h:Fewer b c)(p:List Int)(g n:Int):lifts c p g n=lifts b p g n:=lifts_alike h.w h.gs h.sh p g n
theorem ones_ps(xs:List Pt):ones (xs.flatMap Pt.cells)=true:=ones_flat (fun _=>rfl) xs
section
variable {main:Bool}{J:Goroutine→Mem→Prop}(hJ:Closed prog main J)
include hJ
theorem borneR_c{b:Bk}{v:Value}{ro:RO}(hv:BkV ro v b)(hn:b.ps.length≤1000){i:Int}(hi:0≤i∧i<b.ps.length)(r:Rc):CallR prog J (fnv 75) [v, .int .i64 i,r.val] ro (fun w ro'=>BkV ro' w (b.borne i.toNat r)):=by
 obtain⟨vp,vg,vc,vt,rfl,hv⟩:=hv
 obtain⟨pb,pcap,rfl⟩:=hv.1.form
 obtain⟨gb,gcap,rfl⟩:=hv.2.1.form
 obtain⟨cb,ccap,rfl⟩:=hv.2.2.1.form
 obtain⟨tb,tcap,rfl⟩:=hv.2.2.2.form
 have hil:i.toNat<b.ps.length:=by omega
 have hfl:=flatMap_len Pt.len b.ps
 refine CallR.intro hJ (by kernel_rfl) fun c cs tail hret=>enter_X (n:=19) func75 U U (Nl U) ?_
 have C:Ctx prog main J (bf 75 .normal):=⟨hJ,by decide⟩
 refine Xr C U U<|R.box C U U U U fun p3=>R.box C U U U U fun p5=>R.alloc C U U zeroValue27 U fun p6=>R.done C<|Xr C U U<|R.buildSlice C (vs:=_) U U (show pvals _ _=some (numbered 0 []) from rfl) U runUnderlying22 sizeOf67 zeroValue67 (by decide) (.nil) fun p7=>Rf C 1 U U runUnderlying27 U sizeOf22<|Rl C U U isAgg22 (by repeat constructor) U<|R.append (kk:=4) C U U U U runUnderlying22 runUnderlying22 (fun _=>nofun) (show prog.info? 67=some Tryz.t67 by kernel_rfl) U U U (by decide) (by decide) (Buf.blk (cells:= []) (spare:= []) (len:=0) (cap:=0) U U (Nat.le_refl _)) (hv.1.rd Pt.len) (ones_ps b.ps) (by simp only [List.length_nil];omega) fun v' own' hb'=>Rf C 1 U U runUnderlying27 U sizeOf22 ?_
 obtain⟨own1,rfl,hb1⟩:=hb'.unapp (tail:= [])
 rw [List.nil_append] at hb1
 obtain⟨p9,cap9,sp9,rfl,hcap9,rfl⟩:=blk_of Pt.len (by decide) hb1 (by intro h;rw [h] at hil;exact absurd hil (Nat.not_lt_zero _))
 refine R.store C U U U U sizeOf22 U U U (by repeat constructor) (.skip (.here .nil)) ?_
 have hmf:=modify_flat (enc:=Pt.cells) (k:=4) Pt.len (fun p=>{p with r:=r}) b.ps i.toNat sp9 2 [.int .i64 r.lo, .int .i64 r.hi] hil (fun x _=> .skip (.skip Ph2))
 have hml:(b.ps.modify i.toNat fun p=>{p with r:=r}).length=b.ps.length:=by simp
 have eo:0+i.toNat*4+2=i.toNat*4+2:=by omega
 rw [←eo] at hmf
 refine R.done C<|Xr C U U<|Rf C 1 U U runUnderlying27 U sizeOf22<|Rl C U U isAgg22 (by repeat constructor) U<|Rm C U U<|R5 C U U isAgg65 sizeOf65 (by repeat constructor) Tk2<|Rx C U U U runUnderlying22 sizeOf67<|R.fieldAddr C U U U runUnderlying67 U sizeOf65 U<|R.store C U U U U sizeOf65 U U U (by repeat constructor) hmf<|R.done C<|Xs C<|X.persist C.1 fun ro4 hl4 h9=>?_
 have hls:Ls Pt.cells 4 ro4 (.slice (some ⟨p9,0,none⟩) b.ps.length cap9) (b.ps.modify i.toNat fun p=>{p with r:=r}):=⟨_,_,by rw [hml], .inr ⟨p9,0,_,_,_,rfl,h9,by rw [←flatMap_len Pt.len];exact Sub.front _ _⟩⟩
 have hv4:=hv.mono hl4
 refine X.region C U U<|R5 C U U isAgg27 sizeOf27 (by repeat constructor) Tk5<|R.store C U U U U sizeOf27 U U U (by repeat constructor) Ph5<|R.done C<|X.ret C U U func75 U (by exact(.agg U isAgg27 sizeOf27 (by repeat constructor) Tk5 .nil))<|Hr hret hl4 ?_
 exact⟨_,_,_,_,rfl,hls,hv4.2.1,hv4.2.2.1,hv4.2.2.2⟩
end
end Go.Lg.B
namespace Go.Lg
open Go Go.Conc
inductive FsOk(P:Program)(d:Nat)(a b:List Value):List Field→Bool→Prop
 |nil:FsOk P d a b [] true
 |cons {f:Field} {fs:List Field} {x y:Value} {r rs:Bool}:f.name≠ "_" →(∀ (M:Mem) (K:Value→Mem→Prop),K x M→Sm P M (part f.type a.toArray f.offset) K)→(∀ (M:Mem) (K:Value→Mem→Prop),K y M→Sm P M (part f.type b.toArray f.offset) K)→Eq1 P d f.type x y r→FsOk P d a b fs rs→FsOk P d a b (f::fs) (r && rs)
theorem FsOk.run{P:Program}{d:Nat}{a b:List Value}{l:List Field}{r:Bool}(h:FsOk P d a b l r):∀ (M:Mem) (K:Option Bool×Unit→Mem→Prop),K (if r then(none,()) else(some false,())) M→Sm P M (forIn l ((none,()):Option Bool×Unit) fun f _=>(if f.name≠ "_" then do
   let x←part f.type a.toArray f.offset
   let y←part f.type b.toArray f.offset
   let r←Op.equalIn d f.type x y
   if(!r)=true then pure (ForInStep.done (some false,())) else pure (ForInStep.yield (none,()))
   else pure (ForInStep.yield (none,())))) K:=by
 induction h with
 |nil=>intro M K hk;rw [List.forIn_nil];exact Sm.pure hk
 |cons hn hx hy he _ ih=>
  rename_i r1 rs _
  intro M K hk
  refine Sm.forIn_cons ?_
  rw [if_pos hn]
  refine Sm.bind (hx _ _ (Sm.bind (hy _ _ (Sm.bind (he _ _ ?_)))))
  cases r1 with
  |true=>rw [if_neg (by simp)];exact Sm.pure (ih _ _ (by simpa using hk))
  |false=>rw [if_pos (show(!false)=true from rfl)];exact Sm.pure (by simpa using hk)
theorem Eq1.struct{P:Program}{d:Nat}{t:TypeId}{fields:Array Field}{a b:List Value}{r:Bool}(hu:∀w,Sem.run P (Go.underlying t) w= .ok (.struct fields) w)(hp:P.stoodInHeld t=false)(hf:FsOk P d a b fields.toList r):Eq1 P (d+1) t (.agg a.toArray) (.agg b.toArray) r:=by
 intro M K hk
 unfold Op.equalIn
 refine Sm.bind (Sm.underlying hu ?_)
 simp only
 refine Sm.bind (Sm.program ?_)
 simp only [hp,Bool.false_eq_true,if_false]
 rw [←Array.forIn_toList]
 refine Sm.bind (hf.run _ _ ?_)
 cases r
 ·exact Sm.pure hk
 ·exact Sm.pure hk
theorem Eq1.int{P:Program}{d:Nat}{t:TypeId}{x y:Int}(hu:∀w,Sem.run P (Go.underlying t) w= .ok (.int .i64) w):Eq1 P (d+1) t (.int .i64 x) (.int .i64 y) (x==y):=by
 intro M K hk
 unfold Op.equalIn
 refine Sm.bind (Sm.underlying hu ?_)
 simp only [if_true]
 exact Sm.pure hk
theorem Eq1.bool{P:Program}{d:Nat}{t:TypeId}{x y:Bool}(hu:∀w,Sem.run P (Go.underlying t) w= .ok .bool w):Eq1 P (d+1) t (.bool x) (.bool y) (x==y):=by
 intro M K hk
 unfold Op.equalIn
 refine Sm.bind (Sm.underlying hu ?_)
 exact Sm.pure hk
theorem bts_beq(x y:List UInt8):((⟨x.toArray⟩:ByteArray)==⟨y.toArray⟩)=(x==y):=by
 show(x.toArray==y.toArray)=(x==y)
 simp
theorem Eq1.str{P:Program}{d:Nat}{t:TypeId}{x y:List UInt8}(hu:∀w,Sem.run P (Go.underlying t) w= .ok .string w):Eq1 P (d+1) t (strV x) (strV y) (x==y):=by
 intro M K hk
 unfold Op.equalIn
 refine Sm.bind (Sm.underlying hu ?_)
 simp only [bts_beq]
 exact Sm.pure hk
theorem part_one{P:Program}{t:TypeId}{l:List Value}{off:Nat}{v:Value}(ha:∀w,Sem.run P (Go.isAgg t) w= .ok false w)(hv:l[off]? =some v):∀ (M:Mem) (K:Value→Mem→Prop),K v M→Sm P M (part t l.toArray off) K:=fun _ _ hk=>Sm.partOne ha hv hk
theorem part_agg{P:Program}{t:TypeId}{l out:List Value}{off n:Nat}(ha:∀w,Sem.run P (Go.isAgg t) w= .ok true w)(hz:∀w,Sem.run P (Go.sizeOf t) w= .ok n w)(hs:Sub off n l out):∀ (M:Mem) (K:Value→Mem→Prop),K (.agg out.toArray) M→Sm P M (part t l.toArray off) K:=fun _ _ hk=>Sm.partAgg ha hz hs hk
end Go.Lg
namespace Go.Lg.B
open Go Go.Conc Go.Lg Go.Proofs Go.Proofs.Tryz
theorem eqRc(x y:Rc):Eq1 prog 9999 65 x.val y.val (decide (x=y)):=by
 have h:=Eq1.struct (P:=prog) (d:=9998) (a:=x.cells) (b:=y.cells) runUnderlying65 (by kernel_rfl)
  (.cons (by decide) (part_one isAgg3 rfl) (part_one isAgg3 rfl) (Eq1.int runUnderlying3)
   (.cons (by decide) (part_one isAgg3 rfl) (part_one isAgg3 rfl) (Eq1.int runUnderlying3) .nil))
 have e:(x.lo==y.lo && (x.hi==y.hi && true))=decide (x=y):=by
  cases x;cases y;simp only [Rc.mk.injEq,Bool.and_true];rw [Bool.eq_iff_iff];simp
 rwa [e] at h
theorem eqPt(x y:Pt):Eq1 prog 10000 67 x.val y.val (decide (x=y)):=by
 have h:=Eq1.struct (P:=prog) (d:=9999) (a:=x.cells) (b:=y.cells) runUnderlying67 (by kernel_rfl)
  (.cons (by decide) (part_one isAgg9 rfl) (part_one isAgg9 rfl) (Eq1.str runUnderlying9)
   (.cons (by decide) (part_one isAgg3 rfl) (part_one isAgg3 rfl) (Eq1.int runUnderlying3)
    (.cons (by decide) (part_agg isAgg65 sizeOf65 (.skip (.skip Tk2))) (part_agg isAgg65 sizeOf65 (.skip (.skip Tk2))) (eqRc x.r y.r) .nil)))
 have e:(x.nm==y.nm && (x.sh==y.sh && (decide (x.r=y.r) && true)))=decide (x=y):=by
  cases x;cases y;simp only [Pt.mk.injEq,Bool.and_true];rw [Bool.eq_iff_iff];simp
 rwa [e] at h
theorem eqPc(x y:Pc):Eq1 prog 10000 79 x.val y.val (decide (x=y)):=by
 have h:=Eq1.struct (P:=prog) (d:=9999) (a:=x.cells) (b:=y.cells) runUnderlying79 (by kernel_rfl)
  (.cons (by decide) (part_one isAgg9 rfl) (part_one isAgg9 rfl) (Eq1.str runUnderlying9)
   (.cons (by decide) (part_agg isAgg65 sizeOf65 (.skip Tk2)) (part_agg isAgg65 sizeOf65 (.skip Tk2)) (eqRc x.r y.r) .nil))
 have e:(x.nm==y.nm && (decide (x.r=y.r) && true))=decide (x=y):=by
  cases x;cases y;simp only [Pc.mk.injEq,Bool.and_true];rw [Bool.eq_iff_iff];simp
 rwa [e] at h
theorem eqTs(x y:Ts):Eq1 prog 10000 92 x.val y.val (decide (x=y)):=by
 have h:=Eq1.struct (P:=prog) (d:=9999) (a:=x.cells) (b:=y.cells) runUnderlying92 (by kernel_rfl)
  (.cons (by decide) (part_one isAgg3 rfl) (part_one isAgg3 rfl) (Eq1.int runUnderlying3)
   (.cons (by decide) (part_one isAgg3 rfl) (part_one isAgg3 rfl) (Eq1.int runUnderlying3)
    (.cons (by decide) (part_one isAgg4 rfl) (part_one isAgg4 rfl) (Eq1.bool runUnderlying4) .nil)))
 have e:(x.g==y.g && (x.l==y.l && (x.held==y.held && true)))=decide (x=y):=by
  cases x;cases y;simp only [Ts.mk.injEq,Bool.and_true];rw [Bool.eq_iff_iff];simp
 rwa [e] at h
theorem take_next{α:Type}{l k:List α}{i:Nat}(h:i<l.length)(h':i<k.length)(ht:l.take i=k.take i)(e:l[i]=k[i]):l.take (i+1)=k.take (i+1):=by
 rw [List.take_succ_eq_append_getElem h,List.take_succ_eq_append_getElem h',ht,e]
theorem ne_at{α:Type}{l k:List α}{i:Nat}(h:i<l.length)(h':i<k.length)(e:¬l[i]=k[i]):l≠k:=fun hh=>by subst hh;exact e rfl
structure Bk.tiny(b:Bk):Prop where
 ps:b.ps.length≤1000
 gs:b.gs.length≤1000∧∀g∈b.gs,g.length≤1000
 cs:b.cs.length≤1000
 ts:b.ts.length≤1000
variable {main:Bool}{J:Goroutine→Mem→Prop}(hJ:Closed prog main J)
include hJ
theorem sameR_c{a b:Bk}{va vb:Value}{ro:RO}(ha:BkV ro va a)(hb:BkV ro vb b)(sa:a.tiny)(sb:b.tiny):CallP prog J (fnv 81) [va,vb] ro (.bool (decide (a=b))):=by
 obtain⟨ap,ag,ac,at',rfl,ha⟩:=ha
 obtain⟨apb,apc,rfl⟩:=ha.1.form
 obtain⟨agb,agc,rfl⟩:=ha.2.1.form
 obtain⟨acb,acc,rfl⟩:=ha.2.2.1.form
 obtain⟨atb,atc,rfl⟩:=ha.2.2.2.form
 obtain⟨bp,bg,bc,bt,rfl,hb⟩:=hb
 obtain⟨bpb,bpc,rfl⟩:=hb.1.form
 obtain⟨bgb,bgc,rfl⟩:=hb.2.1.form
 obtain⟨bcb,bcc,rfl⟩:=hb.2.2.1.form
 obtain⟨btb,btc,rfl⟩:=hb.2.2.2.form
 have no:∀ {p:Prop} [Decidable p],¬p→retVal [Value.bool false]=Value.bool (decide p):=fun {p} _ h=>by rw [decide_eq_false h];rfl
 have s1:=sa.ps
 have s2:=sa.gs.1
 have s3:=sa.cs
 have s4:=sa.ts
 refine CallP.intro hJ (by kernel_rfl) fun c cs tail hret=>enter_X (n:=123) func81 U U (Nl U) ?_
 have C:Ctx prog main J (bf 81 .normal):=⟨hJ,by decide⟩
 by_cases e1:a.w=b.w
 ·by_cases e2:a.ps.length=b.ps.length
  ·by_cases e3:a.gs.length=b.gs.length
   ·by_cases e4:a.cs.length=b.cs.length
    ·by_cases e5:a.ts.length=b.ts.length
     ·have _:=e5
      refine Xr C U U<|R.box C U U U U fun p2=>R.box C U U U U fun p3=>Ad C U U<|Xs C<|Xr C U U<|Rf C 0 U U runUnderlying27 U sizeOf3<|Rl C U U isAgg3 (by repeat constructor) U<|Rf C 0 U U runUnderlying27 U sizeOf3<|Rl C U U isAgg3 (by repeat constructor) U<|R.int C U U U U b_neq<|R.fixv (t:=13) (v':= .bool false) U (by(refine congrArg Value.bool ?_;simp [e1])) ?_;refine Rm C U U<|Rf C 1 U U runUnderlying27 U sizeOf22<|Rl C U U isAgg22 (by repeat constructor) U<|Rn C U U runUnderlying22<|Rf C 1 U U runUnderlying27 U sizeOf22<|Rl C U U isAgg22 (by repeat constructor) U<|Rn C U U runUnderlying22<|R.int C U U U U b_neq<|R.fixv (t:=21) (v':= .bool false) U (by(refine congrArg Value.bool ?_;simp [e2])) ?_;refine R.pickF C U U U U<|Rm C U U<|Rf C 2 U U runUnderlying27 U sizeOf23<|Rl C U U isAgg23 (by repeat constructor) U<|Rn C U U runUnderlying23<|Rf C 2 U U runUnderlying27 U sizeOf23<|Rl C U U isAgg23 (by repeat constructor) U<|Rn C U U runUnderlying23<|R.int C U U U U b_neq<|R.fixv (t:=30) (v':= .bool false) U (by(refine congrArg Value.bool ?_;simp [e3])) ?_;refine R.pickF C U U U U<|Rm C U U<|Rf C 3 U U runUnderlying27 U sizeOf24<|Rl C U U isAgg24 (by repeat constructor) U<|Rn C U U runUnderlying24<|Rf C 3 U U runUnderlying27 U sizeOf24<|Rl C U U isAgg24 (by repeat constructor) U<|Rn C U U runUnderlying24<|R.int C U U U U b_neq<|R.fixv (t:=39) (v':= .bool false) U (by(refine congrArg Value.bool ?_;simp [e4])) ?_;refine R.pickF C U U U U<|Rm C U U<|Rf C 4 U U runUnderlying27 U sizeOf25<|Rl C U U isAgg25 (by repeat constructor) U<|Rn C U U runUnderlying25<|Rf C 4 U U runUnderlying27 U sizeOf25<|Rl C U U isAgg25 (by repeat constructor) U<|Rn C U U runUnderlying25<|R.int C U U U U b_neq<|R.fixv (t:=48) (v':= .bool false) U (by(refine congrArg Value.bool ?_;simp [e5])) ?_;refine R.pickF C U U U U<|R.done C<|X.cond C.1 U (fun h=>nomatch h) (fun _=>?_)
      refine X.skip C.1<|Xs C<|Xr C U U<|Ad C U U<|X.block C.1<|X.loopI (ι:=Nat) C.1 (fun i=>i≤a.ps.length∧a.ps.take i=b.ps.take i) (fun i=> [(2, .pointer (some ⟨p2,0,none⟩)),(3, .pointer (some ⟨p3,0,none⟩)),(5, .int .i64 (i:Int))])
       (fun _=>⟨ro,(p3, .cells [.int .i64 b.w, .slice bpb b.ps.length bpc, .slice bgb b.gs.length bgc, .slice bcb b.cs.length bcc, .slice btb b.ts.length btc].toArray 27 (0,0))::(p2, .cells [.int .i64 a.w, .slice apb a.ps.length apc, .slice agb a.gs.length agc, .slice acb a.cs.length acc, .slice atb a.ts.length atc].toArray 27 (0,0))::tail⟩) (fun i=>a.ps.length-i) 0 ⟨Nat.zero_le _,rfl⟩ rfl ⟨U,U,U,trivial⟩ fun i hi hnext=>?_
      obtain⟨hi,hq⟩:=hi
      refine Xs C<|Xr C U U<|Rm C U U<|Rf C 1 U U runUnderlying27 U sizeOf22<|Rl C U U isAgg22 (by repeat constructor) U<|Rn C U U runUnderlying22<|R.int C U U U U b_lss<|R.done C<|Xk C U (fun hlt=>?_) (fun hlt=>?_)
      ·have hi':i<a.ps.length:=by omega
       have hj':i<b.ps.length:=by omega
       obtain⟨p,off,cap,l,t,fq,hsl,hrop,hsub⟩:=ha.1.at Pt.len (by omega)
       cases hsl
       obtain⟨q,off2,cap2,l2,t2,fq2,hsl2,hrop2,hsub2⟩:=hb.1.at Pt.len (by omega)
       cases hsl2
       have hs1:=hsub i hi'
       have hs2:=hsub2 i hj'
       refine X.skip C.1<|Xs C<|X.block C.1<|Xs C<|Xd C fun hok=>Df (off':=1) C 0 hok U U U runUnderlying27 U sizeOf22 U<|D1 C 1 hok U U isAgg22 (by repeat constructor) U<|Dm C 2 hok U U U<|Dx C 3 hok U U U runUnderlying22 sizeOf67<|Dl 4 hok (fun _ _ A h=>R.loadAggRo C U (A.w U U) (A.x U U) isAgg67 sizeOf67 hrop hs1 h)<|Df (off':=1) C 5 hok U U U runUnderlying27 U sizeOf22 U<|D1 C 6 hok U U isAgg22 (by repeat constructor) U<|Dm C 7 hok U U U<|Dx C 8 hok U U U runUnderlying22 sizeOf67<|Dl 9 hok (fun _ _ A h=>R.loadAggRo C U (A.w U U) (A.x U U) isAgg67 sizeOf67 hrop2 hs2 h)<|Dp 10 hok (fun _ _ _ A h=>R.neEq C U (A.w U U) (A.x U U) (A.x U U) (eqPt _ _) (by kernel_rfl) h)<|D.done C hok (by kernel_rfl)<|X.cond C.1 U (fun hne=>?_) (fun hne=>?_)
       ·have hne:¬a.ps[i]=b.ps[i]:=by simpa using hne
        refine Xr C U U<|Ad C U U<|Xt C func81<|Hp hret ?_
        exact no fun h=>ne_at hi' hj' hne (congrArg Bk.ps h)
       ·have hne:a.ps[i]=b.ps[i]:=by simpa using hne
        refine X.skip C.1<|X.inBlock C.1<|X.region C U U<|Rm C U U<|Ra C U U U<|Ad C U U<|X.weaken ?_ (hnext (i+1) ⟨hi',take_next hi' hj' hq hne⟩ (by omega))
        exact⟨rfl,rfl,by simp [look],trivial⟩
      ·obtain rfl:i=a.ps.length:=by omega
       have f2:a.ps=b.ps:=by rwa [List.take_length,e2,List.take_length] at hq
       refine X.exit C.1 U<|Xs C<|Xr C U U<|Ad C U U<|X.block C.1<|X.loopI (ι:=Nat) C.1 (fun i=>i≤a.gs.length∧a.gs.take i=b.gs.take i) (fun i=> [(2, .pointer (some ⟨p2,0,none⟩)),(3, .pointer (some ⟨p3,0,none⟩)),(6, .int .i64 (i:Int))])
        (fun _=>⟨ro,(p3, .cells [.int .i64 b.w, .slice bpb b.ps.length bpc, .slice bgb b.gs.length bgc, .slice bcb b.cs.length bcc, .slice btb b.ts.length btc].toArray 27 (0,0))::(p2, .cells [.int .i64 a.w, .slice apb a.ps.length apc, .slice agb a.gs.length agc, .slice acb a.cs.length acc, .slice atb a.ts.length atc].toArray 27 (0,0))::tail⟩) (fun i=>a.gs.length-i) 0 ⟨Nat.zero_le _,rfl⟩ rfl ⟨U,U,U,trivial⟩ fun i hi hnext=>?_
       obtain⟨hi,hq⟩:=hi
       refine Xs C<|Xr C U U<|Rm C U U<|Rf C 2 U U runUnderlying27 U sizeOf23<|Rl C U U isAgg23 (by repeat constructor) U<|Rn C U U runUnderlying23<|R.int C U U U U b_lss<|R.done C<|Xk C U (fun hlt2=>?_) (fun hlt2=>?_)
       ·have hi':i<a.gs.length:=by omega
        have hj':i<b.gs.length:=by omega
        obtain⟨p,off,cap,l,t,fq,hsl,hrop,hsub⟩:=ha.2.1.at (by omega)
        cases hsl
        obtain⟨q,off2,cap2,l2,t2,fq2,hsl2,hrop2,hsub2⟩:=hb.2.1.at (by omega)
        cases hsl2
        obtain⟨qb,qc,hld,hqc,hq1⟩:=hsub i hi'
        obtain⟨qb2,qc2,hld2,hqc2,hq2⟩:=hsub2 i hj'
        have hln1:=sa.gs.2 _ (List.getElem_mem hi')
        have hln2:=sb.gs.2 _ (List.getElem_mem hj')
        refine X.skip C.1<|Xs C<|X.block C.1<|Xs C<|Xd C fun hok=>Df (off':=2) C 0 hok U U U runUnderlying27 U sizeOf23 U<|D1 C 1 hok U U isAgg23 (by repeat constructor) U<|Dm C 2 hok U U U<|Dx C 3 hok U U U runUnderlying23 sizeOf28<|D2 C 4 hok U U isAgg28 hrop hld<|Df (off':=2) C 5 hok U U U runUnderlying27 U sizeOf23 U<|D1 C 6 hok U U isAgg23 (by repeat constructor) U<|Dm C 7 hok U U U<|Dx C 8 hok U U U runUnderlying23 sizeOf28<|D2 C 9 hok U U isAgg28 hrop2 hld2<|De 10 (some 85) [false,false,false,false] hok (fun _ _ A hk=>?_)
        refine R.callP C U (A.w U U) (A.x U U) (A.s U U) (sameInts_c hJ hq1 hq2 (by omega) (by omega)) (hk _ _ ⟨QFs.nil, ?_⟩)
        refine Dp 11 hok (fun _ _ _ A h=>R.not C U (A.w U U) (A.x U U) h)<|D.done C hok (by kernel_rfl)<|X.cond C.1 U (fun hne=>?_) (fun hne=>?_)
        ·have hne:¬a.gs[i]=b.gs[i]:=by simpa [sameInts_iff] using hne
         refine Xr C U U<|Ad C U U<|Xt C func81<|Hp hret ?_
         exact no fun h=>ne_at hi' hj' hne (congrArg Bk.gs h)
        ·have hne:a.gs[i]=b.gs[i]:=by simpa [sameInts_iff] using hne
         refine X.skip C.1<|X.inBlock C.1<|X.region C U U<|Rm C U U<|Ra C U U U<|Ad C U U<|X.weaken ?_ (hnext (i+1) ⟨hi',take_next hi' hj' hq hne⟩ (by omega))
         exact⟨rfl,rfl,by simp [look],trivial⟩
       ·obtain rfl:i=a.gs.length:=by omega
        have f3:a.gs=b.gs:=by rwa [List.take_length,e3,List.take_length] at hq
        refine X.exit C.1 U<|Xs C<|Xr C U U<|Ad C U U<|X.block C.1<|X.loopI (ι:=Nat) C.1 (fun i=>i≤a.cs.length∧a.cs.take i=b.cs.take i) (fun i=> [(2, .pointer (some ⟨p2,0,none⟩)),(3, .pointer (some ⟨p3,0,none⟩)),(7, .int .i64 (i:Int))])
         (fun _=>⟨ro,(p3, .cells [.int .i64 b.w, .slice bpb b.ps.length bpc, .slice bgb b.gs.length bgc, .slice bcb b.cs.length bcc, .slice btb b.ts.length btc].toArray 27 (0,0))::(p2, .cells [.int .i64 a.w, .slice apb a.ps.length apc, .slice agb a.gs.length agc, .slice acb a.cs.length acc, .slice atb a.ts.length atc].toArray 27 (0,0))::tail⟩) (fun i=>a.cs.length-i) 0 ⟨Nat.zero_le _,rfl⟩ rfl ⟨U,U,U,trivial⟩ fun i hi hnext=>?_
        obtain⟨hi,hq⟩:=hi
        refine Xs C<|Xr C U U<|Rm C U U<|Rf C 3 U U runUnderlying27 U sizeOf24<|Rl C U U isAgg24 (by repeat constructor) U<|Rn C U U runUnderlying24<|R.int C U U U U b_lss<|R.done C<|Xk C U (fun hlt3=>?_) (fun hlt3=>?_)
        ·have hi':i<a.cs.length:=by omega
         have hj':i<b.cs.length:=by omega
         obtain⟨p,off,cap,l,t,fq,hsl,hrop,hsub⟩:=ha.2.2.1.at Pc.len (by omega)
         cases hsl
         obtain⟨q,off2,cap2,l2,t2,fq2,hsl2,hrop2,hsub2⟩:=hb.2.2.1.at Pc.len (by omega)
         cases hsl2
         have hs1:=hsub i hi'
         have hs2:=hsub2 i hj'
         refine X.skip C.1<|Xs C<|X.block C.1<|Xs C<|Xd C fun hok=>Df (off':=3) C 0 hok U U U runUnderlying27 U sizeOf24 U<|D1 C 1 hok U U isAgg24 (by repeat constructor) U<|Dm C 2 hok U U U<|Dx C 3 hok U U U runUnderlying24 sizeOf79<|Dl 4 hok (fun _ _ A h=>R.loadAggRo C U (A.w U U) (A.x U U) isAgg79 sizeOf79 hrop hs1 h)<|Df (off':=3) C 5 hok U U U runUnderlying27 U sizeOf24 U<|D1 C 6 hok U U isAgg24 (by repeat constructor) U<|Dm C 7 hok U U U<|Dx C 8 hok U U U runUnderlying24 sizeOf79<|Dl 9 hok (fun _ _ A h=>R.loadAggRo C U (A.w U U) (A.x U U) isAgg79 sizeOf79 hrop2 hs2 h)<|Dp 10 hok (fun _ _ _ A h=>R.neEq C U (A.w U U) (A.x U U) (A.x U U) (eqPc _ _) (by kernel_rfl) h)<|D.done C hok (by kernel_rfl)<|X.cond C.1 U (fun hne=>?_) (fun hne=>?_)
         ·have hne:¬a.cs[i]=b.cs[i]:=by simpa using hne
          refine Xr C U U<|Ad C U U<|Xt C func81<|Hp hret ?_
          exact no fun h=>ne_at hi' hj' hne (congrArg Bk.cs h)
         ·have hne:a.cs[i]=b.cs[i]:=by simpa using hne
          refine X.skip C.1<|X.inBlock C.1<|X.region C U U<|Rm C U U<|Ra C U U U<|Ad C U U<|X.weaken ?_ (hnext (i+1) ⟨hi',take_next hi' hj' hq hne⟩ (by omega))
          exact⟨rfl,rfl,by simp [look],trivial⟩
        ·obtain rfl:i=a.cs.length:=by omega
         have f4:a.cs=b.cs:=by rwa [List.take_length,e4,List.take_length] at hq
         refine X.exit C.1 U<|Xs C<|Xr C U U<|Ad C U U<|X.block C.1<|X.loopI (ι:=Nat) C.1 (fun i=>i≤a.ts.length∧a.ts.take i=b.ts.take i) (fun i=> [(2, .pointer (some ⟨p2,0,none⟩)),(3, .pointer (some ⟨p3,0,none⟩)),(8, .int .i64 (i:Int))])
          (fun _=>⟨ro,(p3, .cells [.int .i64 b.w, .slice bpb b.ps.length bpc, .slice bgb b.gs.length bgc, .slice bcb b.cs.length bcc, .slice btb b.ts.length btc].toArray 27 (0,0))::(p2, .cells [.int .i64 a.w, .slice apb a.ps.length apc, .slice agb a.gs.length agc, .slice acb a.cs.length acc, .slice atb a.ts.length atc].toArray 27 (0,0))::tail⟩) (fun i=>a.ts.length-i) 0 ⟨Nat.zero_le _,rfl⟩ rfl ⟨U,U,U,trivial⟩ fun i hi hnext=>?_
         obtain⟨hi,hq⟩:=hi
         refine Xs C<|Xr C U U<|Rm C U U<|Rf C 4 U U runUnderlying27 U sizeOf25<|Rl C U U isAgg25 (by repeat constructor) U<|Rn C U U runUnderlying25<|R.int C U U U U b_lss<|R.done C<|Xk C U (fun hlt4=>?_) (fun hlt4=>?_)
         ·have hi':i<a.ts.length:=by omega
          have hj':i<b.ts.length:=by omega
          obtain⟨p,off,cap,l,t,fq,hsl,hrop,hsub⟩:=ha.2.2.2.at Ts.len (by omega)
          cases hsl
          obtain⟨q,off2,cap2,l2,t2,fq2,hsl2,hrop2,hsub2⟩:=hb.2.2.2.at Ts.len (by omega)
          cases hsl2
          have hs1:=hsub i hi'
          have hs2:=hsub2 i hj'
          refine X.skip C.1<|Xs C<|X.block C.1<|Xs C<|Xd C fun hok=>Df (off':=4) C 0 hok U U U runUnderlying27 U sizeOf25 U<|D1 C 1 hok U U isAgg25 (by repeat constructor) U<|Dm C 2 hok U U U<|Dx C 3 hok U U U runUnderlying25 sizeOf92<|Dl 4 hok (fun _ _ A h=>R.loadAggRo C U (A.w U U) (A.x U U) isAgg92 sizeOf92 hrop hs1 h)<|Df (off':=4) C 5 hok U U U runUnderlying27 U sizeOf25 U<|D1 C 6 hok U U isAgg25 (by repeat constructor) U<|Dm C 7 hok U U U<|Dx C 8 hok U U U runUnderlying25 sizeOf92<|Dl 9 hok (fun _ _ A h=>R.loadAggRo C U (A.w U U) (A.x U U) isAgg92 sizeOf92 hrop2 hs2 h)<|Dp 10 hok (fun _ _ _ A h=>R.neEq C U (A.w U U) (A.x U U) (A.x U U) (eqTs _ _) (by kernel_rfl) h)<|D.done C hok (by kernel_rfl)<|X.cond C.1 U (fun hne=>?_) (fun hne=>?_)
          ·have hne:¬a.ts[i]=b.ts[i]:=by simpa using hne
           refine Xr C U U<|Ad C U U<|Xt C func81<|Hp hret ?_
           exact no fun h=>ne_at hi' hj' hne (congrArg Bk.ts h)
          ·have hne:a.ts[i]=b.ts[i]:=by simpa using hne
           refine X.skip C.1<|X.inBlock C.1<|X.region C U U<|Rm C U U<|Ra C U U U<|Ad C U U<|X.weaken ?_ (hnext (i+1) ⟨hi',take_next hi' hj' hq hne⟩ (by omega))
           exact⟨rfl,rfl,by simp [look],trivial⟩
         ·obtain rfl:i=a.ts.length:=by omega
          have f5:a.ts=b.ts:=by rwa [List.take_length,e5,List.take_length] at hq
          have f:a=b:=by cases a;cases b;simp only [Bk.mk.injEq];exact⟨e1,f2,f3,f4,f5⟩
          refine X.exit C.1 U<|Xr C U U<|Ad C U U<|Xt C func81<|Hp hret ?_
          rw [decide_eq_true f];rfl
     ·have _:=e5
      refine Xr C U U<|R.box C U U U U fun p2=>R.box C U U U U fun p3=>Ad C U U<|Xs C<|Xr C U U<|Rf C 0 U U runUnderlying27 U sizeOf3<|Rl C U U isAgg3 (by repeat constructor) U<|Rf C 0 U U runUnderlying27 U sizeOf3<|Rl C U U isAgg3 (by repeat constructor) U<|R.int C U U U U b_neq<|R.fixv (t:=13) (v':= .bool false) U (by(refine congrArg Value.bool ?_;simp [e1])) ?_;refine Rm C U U<|Rf C 1 U U runUnderlying27 U sizeOf22<|Rl C U U isAgg22 (by repeat constructor) U<|Rn C U U runUnderlying22<|Rf C 1 U U runUnderlying27 U sizeOf22<|Rl C U U isAgg22 (by repeat constructor) U<|Rn C U U runUnderlying22<|R.int C U U U U b_neq<|R.fixv (t:=21) (v':= .bool false) U (by(refine congrArg Value.bool ?_;simp [e2])) ?_;refine R.pickF C U U U U<|Rm C U U<|Rf C 2 U U runUnderlying27 U sizeOf23<|Rl C U U isAgg23 (by repeat constructor) U<|Rn C U U runUnderlying23<|Rf C 2 U U runUnderlying27 U sizeOf23<|Rl C U U isAgg23 (by repeat constructor) U<|Rn C U U runUnderlying23<|R.int C U U U U b_neq<|R.fixv (t:=30) (v':= .bool false) U (by(refine congrArg Value.bool ?_;simp [e3])) ?_;refine R.pickF C U U U U<|Rm C U U<|Rf C 3 U U runUnderlying27 U sizeOf24<|Rl C U U isAgg24 (by repeat constructor) U<|Rn C U U runUnderlying24<|Rf C 3 U U runUnderlying27 U sizeOf24<|Rl C U U isAgg24 (by repeat constructor) U<|Rn C U U runUnderlying24<|R.int C U U U U b_neq<|R.fixv (t:=39) (v':= .bool false) U (by(refine congrArg Value.bool ?_;simp [e4])) ?_;refine R.pickF C U U U U<|Rm C U U<|Rf C 4 U U runUnderlying27 U sizeOf25<|Rl C U U isAgg25 (by repeat constructor) U<|Rn C U U runUnderlying25<|Rf C 4 U U runUnderlying27 U sizeOf25<|Rl C U U isAgg25 (by repeat constructor) U<|Rn C U U runUnderlying25<|R.int C U U U U b_neq<|R.fixv (t:=48) (v':= .bool true) U (by(refine congrArg Value.bool ?_;simp;omega)) ?_;refine R.pickF C U U U U<|R.done C<|X.cond C.1 U (fun _=>?_) (fun h=>nomatch h)
      refine Xr C U U<|Ad C U U<|Xt C func81<|Hp hret ?_
      exact no fun h=>e5 (by rw [h])
    ·have _:=e4
     refine Xr C U U<|R.box C U U U U fun p2=>R.box C U U U U fun p3=>Ad C U U<|Xs C<|Xr C U U<|Rf C 0 U U runUnderlying27 U sizeOf3<|Rl C U U isAgg3 (by repeat constructor) U<|Rf C 0 U U runUnderlying27 U sizeOf3<|Rl C U U isAgg3 (by repeat constructor) U<|R.int C U U U U b_neq<|R.fixv (t:=13) (v':= .bool false) U (by(refine congrArg Value.bool ?_;simp [e1])) ?_;refine Rm C U U<|Rf C 1 U U runUnderlying27 U sizeOf22<|Rl C U U isAgg22 (by repeat constructor) U<|Rn C U U runUnderlying22<|Rf C 1 U U runUnderlying27 U sizeOf22<|Rl C U U isAgg22 (by repeat constructor) U<|Rn C U U runUnderlying22<|R.int C U U U U b_neq<|R.fixv (t:=21) (v':= .bool false) U (by(refine congrArg Value.bool ?_;simp [e2])) ?_;refine R.pickF C U U U U<|Rm C U U<|Rf C 2 U U runUnderlying27 U sizeOf23<|Rl C U U isAgg23 (by repeat constructor) U<|Rn C U U runUnderlying23<|Rf C 2 U U runUnderlying27 U sizeOf23<|Rl C U U isAgg23 (by repeat constructor) U<|Rn C U U runUnderlying23<|R.int C U U U U b_neq<|R.fixv (t:=30) (v':= .bool false) U (by(refine congrArg Value.bool ?_;simp [e3])) ?_;refine R.pickF C U U U U<|Rm C U U<|Rf C 3 U U runUnderlying27 U sizeOf24<|Rl C U U isAgg24 (by repeat constructor) U<|Rn C U U runUnderlying24<|Rf C 3 U U runUnderlying27 U sizeOf24<|Rl C U U isAgg24 (by repeat constructor) U<|Rn C U U runUnderlying24<|R.int C U U U U b_neq<|R.fixv (t:=39) (v':= .bool true) U (by(refine congrArg Value.bool ?_;simp;omega)) ?_;refine R.pickF C U U U U<|Rm C U U<|R.pass C U U<|R.pass C U U<|R.pass C U U<|R.pass C U U<|R.pass C U U<|R.pass C U U<|R.pass C U U<|R.pickT C U U U U<|R.done C<|X.cond C.1 U (fun _=>?_) (fun h=>nomatch h)
     refine Xr C U U<|Ad C U U<|Xt C func81<|Hp hret ?_
     exact no fun h=>e4 (by rw [h])
   ·have _:=e3
    refine Xr C U U<|R.box C U U U U fun p2=>R.box C U U U U fun p3=>Ad C U U<|Xs C<|Xr C U U<|Rf C 0 U U runUnderlying27 U sizeOf3<|Rl C U U isAgg3 (by repeat constructor) U<|Rf C 0 U U runUnderlying27 U sizeOf3<|Rl C U U isAgg3 (by repeat constructor) U<|R.int C U U U U b_neq<|R.fixv (t:=13) (v':= .bool false) U (by(refine congrArg Value.bool ?_;simp [e1])) ?_;refine Rm C U U<|Rf C 1 U U runUnderlying27 U sizeOf22<|Rl C U U isAgg22 (by repeat constructor) U<|Rn C U U runUnderlying22<|Rf C 1 U U runUnderlying27 U sizeOf22<|Rl C U U isAgg22 (by repeat constructor) U<|Rn C U U runUnderlying22<|R.int C U U U U b_neq<|R.fixv (t:=21) (v':= .bool false) U (by(refine congrArg Value.bool ?_;simp [e2])) ?_;refine R.pickF C U U U U<|Rm C U U<|Rf C 2 U U runUnderlying27 U sizeOf23<|Rl C U U isAgg23 (by repeat constructor) U<|Rn C U U runUnderlying23<|Rf C 2 U U runUnderlying27 U sizeOf23<|Rl C U U isAgg23 (by repeat constructor) U<|Rn C U U runUnderlying23<|R.int C U U U U b_neq<|R.fixv (t:=30) (v':= .bool true) U (by(refine congrArg Value.bool ?_;simp;omega)) ?_;refine R.pickF C U U U U<|Rm C U U<|R.pass C U U<|R.pass C U U<|R.pass C U U<|R.pass C U U<|R.pass C U U<|R.pass C U U<|R.pass C U U<|R.pickT C U U U U<|Rm C U U<|R.pass C U U<|R.pass C U U<|R.pass C U U<|R.pass C U U<|R.pass C U U<|R.pass C U U<|R.pass C U U<|R.pickT C U U U U<|R.done C<|X.cond C.1 U (fun _=>?_) (fun h=>nomatch h)
    refine Xr C U U<|Ad C U U<|Xt C func81<|Hp hret ?_
    exact no fun h=>e3 (by rw [h])
  ·have _:=e2
   refine Xr C U U<|R.box C U U U U fun p2=>R.box C U U U U fun p3=>Ad C U U<|Xs C<|Xr C U U<|Rf C 0 U U runUnderlying27 U sizeOf3<|Rl C U U isAgg3 (by repeat constructor) U<|Rf C 0 U U runUnderlying27 U sizeOf3<|Rl C U U isAgg3 (by repeat constructor) U<|R.int C U U U U b_neq<|R.fixv (t:=13) (v':= .bool false) U (by(refine congrArg Value.bool ?_;simp [e1])) ?_;refine Rm C U U<|Rf C 1 U U runUnderlying27 U sizeOf22<|Rl C U U isAgg22 (by repeat constructor) U<|Rn C U U runUnderlying22<|Rf C 1 U U runUnderlying27 U sizeOf22<|Rl C U U isAgg22 (by repeat constructor) U<|Rn C U U runUnderlying22<|R.int C U U U U b_neq<|R.fixv (t:=21) (v':= .bool true) U (by(refine congrArg Value.bool ?_;simp;omega)) ?_;refine R.pickF C U U U U<|Rm C U U<|R.pass C U U<|R.pass C U U<|R.pass C U U<|R.pass C U U<|R.pass C U U<|R.pass C U U<|R.pass C U U<|R.pickT C U U U U<|Rm C U U<|R.pass C U U<|R.pass C U U<|R.pass C U U<|R.pass C U U<|R.pass C U U<|R.pass C U U<|R.pass C U U<|R.pickT C U U U U<|Rm C U U<|R.pass C U U<|R.pass C U U<|R.pass C U U<|R.pass C U U<|R.pass C U U<|R.pass C U U<|R.pass C U U<|R.pickT C U U U U<|R.done C<|X.cond C.1 U (fun _=>?_) (fun h=>nomatch h)
   refine Xr C U U<|Ad C U U<|Xt C func81<|Hp hret ?_
   exact no fun h=>e2 (by rw [h])
 ·have _:=e1
  refine Xr C U U<|R.box C U U U U fun p2=>R.box C U U U U fun p3=>Ad C U U<|Xs C<|Xr C U U<|Rf C 0 U U runUnderlying27 U sizeOf3<|Rl C U U isAgg3 (by repeat constructor) U<|Rf C 0 U U runUnderlying27 U sizeOf3<|Rl C U U isAgg3 (by repeat constructor) U<|R.int C U U U U b_neq<|R.fixv (t:=13) (v':= .bool true) U (by(refine congrArg Value.bool ?_;simp [e1])) ?_;refine Rm C U U<|R.pass C U U<|R.pass C U U<|R.pass C U U<|R.pass C U U<|R.pass C U U<|R.pass C U U<|R.pass C U U<|R.pickT C U U U U<|Rm C U U<|R.pass C U U<|R.pass C U U<|R.pass C U U<|R.pass C U U<|R.pass C U U<|R.pass C U U<|R.pass C U U<|R.pickT C U U U U<|Rm C U U<|R.pass C U U<|R.pass C U U<|R.pass C U U<|R.pass C U U<|R.pass C U U<|R.pass C U U<|R.pass C U U<|R.pickT C U U U U<|Rm C U U<|R.pass C U U<|R.pass C U U<|R.pass C U U<|R.pass C U U<|R.pass C U U<|R.pass C U U<|R.pass C U U<|R.pickT C U U U U<|R.done C<|X.cond C.1 U (fun _=>?_) (fun h=>nomatch h)
  refine Xr C U U<|Ad C U U<|Xt C func81<|Hp hret ?_
  exact no fun h=>e1 (by rw [h])
end Go.Lg.B
namespace Go.Lg.B
open Go Go.Conc Go.Lg Go.Proofs Go.Proofs.Tryz
theorem bearsR_eq{b:Bk}(hch:checkBook b=0)(hne:cases b≠ []){i:Int}(h:0≤i∧i<b.ps.length):bearsR b i=(bearsOf b i,0):=by
 rw [bearsR,there_zero.2 h,open_zero hch hne];rfl
theorem weightsR_eq{b:Bk}(hch:checkBook b=0)(hne:cases b≠ []){i:Int}(h:0≤i∧i<b.cs.length):weightsR b i=(weightsOf b i,0):=by
 rw [weightsR,there_zero.2 h,open_zero hch hne];rfl
theorem casesOf_eq{b:Bk}(hch:checkBook b=0):casesOf b=(((cases b).length:Int),0):=by rw [casesOf,if_neg (fun h=>h hch)]
theorem bearsOf_len{b:Bk}(hb:b.good){i:Int}(h:0≤i∧i<b.ps.length):(bearsOf b i).length≤3:=by
 have hk:i.toNat<b.ps.length:=by omega
 have hp:b.part i=b.ps[i.toNat]:=by simp [Bk.part,List.getD_eq_getElem?_getD,hk]
 have hf:=hb.ps _ (List.getElem_mem hk)
 rw [←hp] at hf
 unfold Pt.fine at hf
 refine asc_len (lo:=(b.part i).r.lo) (m:=3) (numbers_asc _) fun x hx=>?_
 obtain⟨t,ht,rfl⟩:=bearsOf_mem.1 hx
 have:=bears_in h.1 h.2 (mem_cases.1 ht).1
 omega
section
end
section
variable {main:Bool}{J:Goroutine→Mem→Prop}(hJ:Closed prog main J)
include hJ
end
end Go.Lg.B
namespace Go.Lg.B
open Go Go.Conc Go.Lg Go.Proofs Go.Proofs.Tryz
def nothing:Bk:=⟨0, [], [], [], []⟩
def newB(b:Bk)(h:Int):Bk:=if h=0 then b else nothing
theorem noBk_v(ro:RO):BkV ro noBk nothing:=⟨_,_,_,_,rfl, .nil,⟨[], .nil,rfl,fun z hz=>by cases hz⟩, .nil, .nil⟩
theorem NewV.bk{ro:RO}{b:Bk}{h:Int}{w:Value}(hn:NewV ro b h w):∃v,BkV ro v (newB b h)∧w= .tuple [v, .int .i64 h].toArray:=by
 rcases hn with⟨h0,rfl⟩|⟨rfl,v,hv,rfl⟩
 ·exact⟨_,by rw [newB,if_neg h0];exact noBk_v ro,rfl⟩
 ·exact⟨v,hv,rfl⟩
theorem tiny_of{b:Bk}(hb:b.good):b.tiny:=
 ⟨by have:=hb.np;omega,⟨by have:=hb.ng;omega,fun g hg=>by
  obtain⟨_,h1,h2⟩:=hb.gs g hg
  have:=nodup_len h2 h1
  have:=hb.np;omega⟩,by have:=hb.nc;omega,by have:=hb.nt;omega⟩
theorem tiny_nothing:nothing.tiny:=⟨by decide,⟨by decide,fun g hg=>by cases hg⟩,by decide,by decide⟩
theorem part_fine{b:Bk}(hb:b.good){i:Int}(h:0≤i∧i<b.ps.length):(b.part i).fine:=by
 have hk:i.toNat<b.ps.length:=by omega
 have hp:b.part i=b.ps[i.toNat]:=by simp [Bk.part,List.getD_eq_getElem?_getD,hk]
 rw [hp];exact hb.ps _ (List.getElem_mem hk)
theorem piece_fine{b:Bk}(hb:b.good){i:Int}(h:0≤i∧i<b.cs.length):(b.piece i).fine:=by
 have hk:i.toNat<b.cs.length:=by omega
 have hp:b.piece i=b.cs[i.toNat]:=by simp [Bk.piece,List.getD_eq_getElem?_getD,hk]
 rw [hp];exact hb.cs _ (List.getElem_mem hk)
theorem sub_part{off n m k:Nat}{l c:List Value}(h:Sub off (n+1) l c)(hk:k+m≤n+1)(hc:c.length=n+1):Sub (off+k) m l ((c.drop k).take m):=by
 have h1:=h.get n (by omega)
 rw [List.getElem?_eq_getElem (show n<c.length by omega)] at h1
 have h2:=(List.getElem?_eq_some_iff.1 h1).1
 refine Sub.of_get (by omega) (by rw [List.length_take,List.length_drop];omega) fun i hi=>?_
 rw [Nat.add_assoc,h.get (k+i) (by omega),List.getElem?_take,if_pos hi,List.getElem?_drop]
theorem numbers_nil:numbers []= []:=List.eq_nil_iff_forall_not_mem.2 fun x hx=>by have:=numbers_mem.1 hx;cases this
theorem meet_one{r:Rc}{x:Int}(h:r.lo≤x∧x≤r.hi):r.meet ⟨x,x⟩=⟨x,x⟩:=by
 simp only [Rc.meet,Rc.mk.injEq];omega
theorem cases_one{b:Bk}{i x:Int}(hi:0≤i∧i<b.ps.length)(hx:(b.part i).r.lo≤x∧x≤(b.part i).r.hi):cases (b.borne i.toNat ⟨x,x⟩)=(cases b).filter fun t=>nth t.1 i==x:=by
 have:=cases_borne hi.1 hi.2 ⟨x,x⟩
 rw [meet_one hx] at this
 rw [this]
 refine List.filter_congr fun t _=>?_
 rw [Bool.eq_iff_iff,between_iff,beq_iff_eq]
 simp only;omega
theorem know_one{b:Bk}(hch:checkBook b=0){i x:Int}(hi:0≤i∧i<b.ps.length)(hx:(b.part i).r.lo≤x∧x≤(b.part i).r.hi):
  checkBook (b.borne i.toNat ⟨x,x⟩)=0∧((knowH b i ⟨x,x⟩=9∧cases (b.borne i.toNat ⟨x,x⟩)= [])∨(knowH b i ⟨x,x⟩=0∧cases (b.borne i.toNat ⟨x,x⟩)≠ [])):=by
 have hf:=part_fine (good_of hch) hi
 unfold Pt.fine at hf
 have hm:=meet_one hx
 have hn:isNarrow ⟨x,x⟩ 0=true:=isNarrow_iff.2 (by simp only;omega)
 have hc:=check_borne hch i.toNat hn
 refine⟨hc, ?_⟩
 have hk:knownH (b.part i).r ⟨x,x⟩ 0=0:=by
  unfold knownH
  rw [if_neg (by simp [isReach];omega),hm,if_neg (by simp only;omega)]
 have e:knowH b i ⟨x,x⟩=openH (b.borne i.toNat ⟨x,x⟩) 0:=by
  rw [knowH,if_neg (fun h=>h hch),if_neg (fun h=>h (there_zero.2 hi)),if_neg (fun h=>h hk),hm]
 rw [e]
 by_cases h:cases (b.borne i.toNat ⟨x,x⟩)= []
 ·exact .inl ⟨open_nine hc h,h⟩
 ·exact .inr ⟨open_zero hc h,h⟩
def cntLt(b:Bk)(i x:Int):Nat:=((cases b).filter fun t=>decide (nth t.1 i<x)).length
theorem cntLt_succ{b:Bk}{i x:Int}(hi:0≤i∧i<b.ps.length)(hx:(b.part i).r.lo≤x∧x≤(b.part i).r.hi):cntLt b i (x+1)=cntLt b i x+(cases (b.borne i.toNat ⟨x,x⟩)).length:=by
 rw [cases_one hi hx]
 unfold cntLt
 induction cases b with
 |nil=>rfl
 |cons t L ih=>
  rw [List.filter_cons,List.filter_cons,List.filter_cons]
  by_cases h1:nth t.1 i<x
  ·rw [if_pos (by simp;omega),if_pos (by simpa using h1),if_neg (by simp;omega),List.length_cons,List.length_cons,ih];omega
  ·by_cases h2:nth t.1 i=x
   ·rw [if_pos (by simp;omega),if_neg (by simpa using h1),if_pos (by simpa using h2),List.length_cons,List.length_cons,ih];omega
   ·rw [if_neg (by simp;omega),if_neg (by simpa using h1),if_neg (by simpa using h2),ih]
theorem cntLt_lo{b:Bk}{i:Int}(hi:0≤i∧i<b.ps.length):cntLt b i (b.part i).r.lo=0:=by
 unfold cntLt
 rw [List.length_eq_zero_iff,List.filter_eq_nil_iff]
 intro t ht
 have:=bears_in hi.1 hi.2 (mem_cases.1 ht).1
 simp;omega
theorem cntLt_hi{b:Bk}{i:Int}(hi:0≤i∧i<b.ps.length){x:Int}(hx:(b.part i).r.hi<x):cntLt b i x=(cases b).length:=by
 unfold cntLt
 rw [List.filter_eq_self.2]
 intro t ht
 have:=bears_in hi.1 hi.2 (mem_cases.1 ht).1
 simp;omega
theorem cntLt_le(b:Bk)(i x:Int):cntLt b i x≤(cases b).length:=List.length_filter_le _ _
theorem bears_one{b:Bk}{i x:Int}(hi:0≤i∧i<b.ps.length)(hx:(b.part i).r.lo≤x∧x≤(b.part i).r.hi):(x∈bearsOf b i↔cases (b.borne i.toNat ⟨x,x⟩)≠ [])∧(cases (b.borne i.toNat ⟨x,x⟩)≠ []→bearsOf (b.borne i.toNat ⟨x,x⟩) i= [x]):=by
 have hc:=cases_one hi hx
 constructor
 ·rw [bearsOf_mem,hc,Ne,List.filter_eq_nil_iff]
  constructor
  ·rintro⟨t,ht,e⟩ h
   exact h t ht (by simpa using e)
  ·intro h
   apply Classical.byContradiction
   intro hn
   exact h fun t ht e=>hn ⟨t,ht,by simpa using e⟩
 ·intro hne
  refine asc_unique (numbers_asc _) (List.pairwise_singleton _ _) fun y=>?_
  show y∈bearsOf _ i↔_
  rw [bearsOf_mem,List.mem_singleton]
  constructor
  ·rintro⟨t,ht,rfl⟩
   rw [hc] at ht
   simpa using(List.mem_filter.1 ht).2
  ·rintro rfl
   cases hl:cases (b.borne i.toNat ⟨y,y⟩) with
   |nil=>exact absurd hl hne
   |cons t T=>
    have ht:t∈cases (b.borne i.toNat ⟨y,y⟩):=by rw [hl];simp
    refine⟨t,by simp, ?_⟩
    rw [hc] at ht
    simpa using(List.mem_filter.1 ht).2
theorem rz_get(lo:Int):∀ (m j:Nat),j<m→(rz lo m)[j]? =some (lo+j)
 |0,_,h=>by omega
 |m+1,0,_=>by simp [rz]
 |m+1,j+1,h=>by
  have:=rz_get (lo+1) m j (by omega)
  rw [rz,List.getElem?_cons_succ,this]
  congr 1;omega
theorem reached_root{b:Bk}{vb:Value}{i0 k0:Int}(hi0:0≤i0∧i0≤255)(hk0:0≤k0∧k0≤255){ro:RO}(he:Env ro)(hv:BkV ro vb b):
  Root prog 17 [vb, .int .u8 i0, .int .u8 k0] ro (fun w _=>w= .bool true):=by
 intro Post hret
 have hJ:Closed prog true (JM prog (Go.Conc.Good prog Post)):=JM.closed
 have hvv:=hv
 obtain⟨vp,vg,vc,vt,rfl,hp,hg,hc,ht⟩:=hv
 obtain⟨pb,pc,rfl⟩:=hp.form
 obtain⟨gb,gc,rfl⟩:=hg.form
 obtain⟨cb,cc,rfl⟩:=hc.form
 obtain⟨tb,tc,rfl⟩:=ht.form
 let main:=true
 let J:=JM prog (Go.Conc.Good prog Post)
 refine enter_X (n:=227) func17 U U (Nl U) ?_
 have C:Ctx prog main J (bf 17 .normal):=⟨hJ,by decide⟩
 refine Xr C U U<|R.box C U U U U fun p3=>Ad C U U<|Xs C<|Xr C U U<|R5 C U U isAgg27 sizeOf27 (by repeat constructor) Tk5<|R.callP C U U U U (fitR_c hJ hvv)<|R.not C U U U<|R.done C<|X.cond C.1 U (fun hfit=>?_) (fun hfit=>?_)
 ·refine Xr C U U<|R.callR C U U U U ((hoisted_c _ he)) fun v9 ro9 hl9 hq9=>Ad C U U<|X.ret0 C (by kernel_rfl) U U func17 U (by exact(.tmp U .nil)) fun w9 hs9=>hret _ _ _ hl9 ?_ w9 hs9
  exact hq9
 ·have hch:checkBook b=0:=by simpa using hfit
  have hb:=good_of hch
  have hsh:=short_of (not_great hch)
  have hnp:=hb.np
  have hnc:=hb.nc
  have hcl:=cases_le hb
  refine X.skip C.1<|Xs C<|Xd C fun hok=>Dm C 0 hok U U U<|Dp 1 hok (fun _ _ _ A h=>R.convInt C U (A.w U U) (A.x U U) runUnderlying5 runUnderlying3 (wrap64 (by omega) (by omega)) h)<|Df (off':=1) C 2 hok U U U runUnderlying27 U sizeOf22 U<|D1 C 3 hok U U isAgg22 (by repeat constructor) U<|Ds C 4 hok U U runUnderlying22<|Di C 5 hok U U U U U (b_remP (by omega) (by omega))<|Dm C 6 hok U U U<|Dp 7 hok (fun _ _ _ A h=>R.convInt C U (A.w U U) (A.x U U) runUnderlying5 runUnderlying3 (wrap64 (by omega) (by omega)) h)<|Df (off':=3) C 8 hok U U U runUnderlying27 U sizeOf24 U<|D1 C 9 hok U U isAgg24 (by repeat constructor) U<|Ds C 10 hok U U runUnderlying24<|Di C 11 hok U U U U U (b_remP (by omega) (by omega))<|Da C 12 hok U U<|Da C 13 hok U U<|D.done C hok (by kernel_rfl)<|Xs C ?_
  have hi:0≤i0% (b.ps.length:Int)∧i0% (b.ps.length:Int)<b.ps.length:=⟨Int.emod_nonneg _ (by omega),Int.emod_lt_of_pos _ (by omega)⟩
  have hkb:0≤k0% (b.cs.length:Int)∧k0% (b.cs.length:Int)<b.cs.length:=⟨Int.emod_nonneg _ (by omega),Int.emod_lt_of_pos _ (by omega)⟩
  generalize i0% (b.ps.length:Int)=i at hi⊢
  generalize k0% (b.cs.length:Int)=k at hkb⊢
  have hf:=part_fine hb hi
  have hfk:=piece_fine hb hkb
  have hlen3:=bearsOf_len hb hi
  unfold Pt.fine at hf
  unfold Pc.fine at hfk
  have hil:i.toNat<b.ps.length:=by omega
  have hpi:b.part i=b.ps[i.toNat]:=by simp [Bk.part,List.getD_eq_getElem?_getD,hil]
  have hkl:k.toNat<b.cs.length:=by omega
  have hpk:b.piece k=b.cs[k.toNat]:=by simp [Bk.piece,List.getD_eq_getElem?_getD,hkl]
  obtain⟨pp,off,cap,ll,ty,fq,hsl,hrop,hsub⟩:=hp.at Pt.len (by omega)
  cases hsl
  have hrc:=hsub i.toNat hil
  rw [←hpi] at hrc
  have hlo:ll[off+i.toNat*4+2]? =some (.int .i64 (b.part i).r.lo):=by have:=hrc.get 2 (by omega);simpa [Pt.cells] using this
  have hhi:ll[off+i.toNat*4+3]? =some (.int .i64 (b.part i).r.hi):=by have:=hrc.get 3 (by omega);simpa [Pt.cells] using this
  obtain⟨pp2,off2,cap2,ll2,ty2,fq2,hsl2,hrop2,hsub2⟩:=hc.at Pc.len (by omega)
  cases hsl2
  have hrc2:Sub (off2+k.toNat*3+1) 2 ll2 [.int .i64 (b.piece k).r.lo, .int .i64 (b.piece k).r.hi]:=by
   have:=sub_part (k:=1) (m:=2) (hsub2 k.toNat hkl) (by decide) (Pc.len _)
   rw [←hpk] at this
   exact this
  refine X.region C U U<|R5 C U U isAgg27 sizeOf27 (by repeat constructor) Tk5<|Rm C U U<|R.callR C U U U U (bears_c hJ he hvv hsh i) fun v1 ro1 hl1 hq1=>?_
  obtain⟨w1,y1,rfl⟩:=hq1
  refine Rm C U U<|R.ext C U U U U<|R.ext C U U U U<|R.asg C U U U<|Ad C U U<|Xr C U U<|R5 C U U isAgg27 sizeOf27 (by repeat constructor) Tk5<|Rm C U U<|R.callR C U U U U (weights_c hJ (he.mono hl1) (hvv.mono hl1) hsh k) fun v2 ro2 hl2 hq2=>?_
  obtain⟨w2,y2,rfl⟩:=hq2
  have k2:=RO.le_trans hl1 hl2
  refine Rm C U U<|R.ext C U U U U<|R.ext C U U U U<|R.asg C U U U<|Ad C U U<|Xr C U U<|R5 C U U isAgg27 sizeOf27 (by repeat constructor) Tk5<|R.callR C U U U U (casesN_c hJ (he.mono k2) (hvv.mono k2) hsh) fun v3 ro3 hl3 hq3=>?_
  subst hq3
  have k3:=RO.le_trans k2 hl3
  rw [casesOf_eq hch]
  have r1:(bearsR b i).1=bearsOf b i:=by
   by_cases hL:cases b= []
   ·rw [bearsR,there_zero.2 hi,open_nine hch hL];unfold bearsOf;rw [hL,List.map_nil,numbers_nil];rfl
   ·rw [bearsR_eq hch hL hi]
  have r2:(weightsR b k).1=weightsOf b k:=by
   by_cases hL:cases b= []
   ·rw [weightsR,there_zero.2 hkb,open_nine hch hL];unfold weightsOf;rw [hL,List.map_nil,numbers_nil];rfl
   ·rw [weightsR_eq hch hL hkb]
  rw [r1] at y1
  rw [r2] at y2
  obtain⟨lb,lc,rfl⟩:=y1.form
  obtain⟨kb,kc,rfl⟩:=y2.form
  refine Rm C U U<|R.ext C U U U U<|R.ext C U U U U<|R.asg C U U U<|Ad C U U<|Xs C<|Xs C<|X.afterI (ι:=Unit) (fun _=>True) (fun _=> [(86, .bool false),(3, .pointer (some ⟨p3,0,none⟩)),(7, .int .i64 i),(8, .int .i64 k),(9, .slice lb (bearsOf b i).length lc),(11, .slice kb (weightsOf b k).length kc),(13, .int .i64 ((cases b).length:Int))])
   (fun _=>⟨ro3,(p3, .cells [.int .i64 b.w, .slice (some ⟨pp,off,none⟩) b.ps.length pc, .slice gb b.gs.length gc, .slice (some ⟨pp2,off2,none⟩) b.cs.length cc, .slice tb b.ts.length tc].toArray 27 (0,0)):: []⟩) (fun s _=>?_) (fun hcont=>?_)
  rotate_left
  ·by_cases hL:cases b= []
   ·have e1:(bearsR b i).2=9:=by rw [bearsR,there_zero.2 hi,open_nine hch hL];rfl
    have e2:(weightsR b k).2=9:=by rw [weightsR,there_zero.2 hkb,open_nine hch hL];rfl
    have e3:(cases b).length=0:=by rw [hL];rfl
    have e4:(bearsOf b i).length=0:=by unfold bearsOf;rw [hL,List.map_nil,numbers_nil];rfl
    have e5:(weightsOf b k).length=0:=by unfold weightsOf;rw [hL,List.map_nil,numbers_nil];rfl
    rw [e1,e2]
    refine X.region C U U<|Rm C U U<|R.int C U U U U b_neq<|R.fixv (t:=58) (v':= .bool false) U (by rfl)<|Rm C U U<|Rm C U U<|Rm C U U<|R.int C U U U U b_neq<|R.fixv (t:=62) (v':= .bool false) U (by rfl)<|R.pickF C U U U U<|Rm C U U<|Rm C U U<|R.int C U U U U b_eql<|R.fixv (t:=66) (v':= .bool false) U (by rfl)<|Rm C U U<|R.int C U U U U b_gtr<|R.fixv (t:=68) (v':= .bool false) U (by(refine congrArg Value.bool ?_;rw [dF];simp only;omega)) ?_;refine R.neBool C U U U U runUnderlying4<|R.fixv (t:=69) (v':= .bool false) U (by rfl)<|R.pickF C U U U U<|Rm C U U<|Rm C U U<|R.int C U U U U b_neq<|R.fixv (t:=73) (v':= .bool true) U (by rfl)<|Rm C U U<|Rm C U U<|R.int C U U U U b_neq<|R.fixv (t:=76) (v':= .bool false) U (by rfl)<|Rm C U U<|Rm C U U<|Rn C U U runUnderlying28<|Rm C U U<|Rn C U U runUnderlying28<|Ra C U U U<|R.int C U U U U b_gtr<|R.fixv (t:=83) (v':= .bool false) U (by(refine congrArg Value.bool ?_;rw [dF];omega)) ?_;refine R.pickF C U U U U<|R.pickT C U U U U<|R.pickF C U U U U<|R.done C<|X.weaken ?_ (hcont () trivial)
    exact⟨U,U,U,U,U,U,U,trivial⟩
   ·have e1:(bearsR b i).2=0:=by rw [bearsR_eq hch hL hi]
    have e2:(weightsR b k).2=0:=by rw [weightsR_eq hch hL hkb]
    have e3:=List.length_pos_iff.2 hL
    rw [e1,e2]
    refine X.region C U U<|Rm C U U<|R.int C U U U U b_neq<|R.fixv (t:=58) (v':= .bool false) U (by rfl)<|Rm C U U<|Rm C U U<|Rm C U U<|R.int C U U U U b_neq<|R.fixv (t:=62) (v':= .bool false) U (by rfl)<|R.pickF C U U U U<|Rm C U U<|Rm C U U<|R.int C U U U U b_eql<|R.fixv (t:=66) (v':= .bool true) U (by rfl)<|Rm C U U<|R.int C U U U U b_gtr<|R.fixv (t:=68) (v':= .bool true) U (by(refine congrArg Value.bool ?_;rw [decide_eq_true_iff];simp only;omega)) ?_;refine R.neBool C U U U U runUnderlying4<|R.fixv (t:=69) (v':= .bool false) U (by rfl)<|R.pickF C U U U U<|Rm C U U<|Rm C U U<|R.int C U U U U b_neq<|R.fixv (t:=73) (v':= .bool false) U (by rfl)<|Rm C U U<|R.pass C U U<|R.pass C U U<|R.pass C U U<|R.pass C U U<|R.pass C U U<|R.pass C U U<|R.pass C U U<|R.pass C U U<|R.pass C U U<|R.pass C U U<|R.pickF C U U U U<|R.pickF C U U U U<|R.done C<|X.weaken ?_ (hcont () trivial)
    exact⟨U,U,U,U,U,U,U,trivial⟩
  have hp3:=hp.mono k3
  have hrop3:=k3 _ _ hrop
  refine X.cond C.1 U (fun h=>nomatch h) (fun _=>?_)
  refine X.skip C.1<|Xr C U U<|Ad C U U<|Xs C<|Xr C U U<|Rf C 1 U U runUnderlying27 U sizeOf22<|Rl C U U isAgg22 (by repeat constructor) U<|Rm C U U<|Rx C U U U runUnderlying22 sizeOf67<|R.fieldAddr C U U U runUnderlying67 U sizeOf65 U<|R.fieldAddr C U U U runUnderlying65 U sizeOf3 U<|R.loadOneRo C U U U isAgg3 hrop3 hlo<|Ad C U U<|X.block C.1<|X.loopI (ι:=Nat×RO) C.1 (fun s=>(b.part i).r.lo+(s.1:Int)≤(b.part i).r.hi+1∧ro3.le s.2) (fun s=> [(16, .int .i64 ((b.part i).r.lo+(s.1:Int))),(15, .int .i64 (cntLt b i ((b.part i).r.lo+(s.1:Int)):Int)),(3, .pointer (some ⟨p3,0,none⟩)),(7, .int .i64 i),(8, .int .i64 k),(9, .slice lb (bearsOf b i).length lc),(11, .slice kb (weightsOf b k).length kc),(13, .int .i64 ((cases b).length:Int))])
   (fun s=>⟨s.2,(p3, .cells [.int .i64 b.w, .slice (some ⟨pp,off,none⟩) b.ps.length pc, .slice gb b.gs.length gc, .slice (some ⟨pp2,off2,none⟩) b.cs.length cc, .slice tb b.ts.length tc].toArray 27 (0,0)):: []⟩) (fun s=>4-s.1) (0,ro3) ⟨by simp only;omega,RO.le_refl _⟩ rfl ⟨by simp [look],by simp [look,cntLt_lo hi],rfl,rfl,rfl,rfl,rfl,rfl,trivial⟩ fun s hs hnext=>?_
  obtain⟨j,ro4⟩:=s
  obtain⟨hj,hle⟩:=hs
  simp only at hj hle hnext⊢
  have k4:=RO.le_trans k3 hle
  have hrop4:=k4 _ _ hrop
  refine Xs C<|Xr C U U<|Rm C U U<|Rf C 1 U U runUnderlying27 U sizeOf22<|Rl C U U isAgg22 (by repeat constructor) U<|Rm C U U<|Rx C U U U runUnderlying22 sizeOf67<|R.fieldAddr C U U U runUnderlying67 U sizeOf65 U<|R.fieldAddr C U U U runUnderlying65 U sizeOf3 U<|R.loadOneRo C U U U isAgg3 hrop4 hhi<|R.int C U U U U b_leq<|R.done C<|Xk C U (fun hlt=>?_) (fun hlt=>?_)
  ·have hx:(b.part i).r.lo≤(b.part i).r.lo+(j:Int)∧(b.part i).r.lo+(j:Int)≤(b.part i).r.hi:=by omega
   obtain⟨hcd,hor⟩:=know_one hch hi hx
   have hcs:=cntLt_succ hi hx
   have hcl1:=cntLt_le b i ((b.part i).r.lo+(j:Int))
   have hcl2:=cntLt_le b i ((b.part i).r.lo+(j:Int)+1)
   obtain⟨hb1,hb2⟩:=bears_one hi hx
   have hm:=meet_one hx
   have hjn:(b.part i).r.lo+(j:Int)+1=(b.part i).r.lo+((j+1:Nat):Int):=by omega
   have y4:LsI ro4 (.slice lb (bearsOf b i).length lc) (bearsOf b i):=y1.mono (RO.le_trans hl2 (RO.le_trans hl3 hle))
   have hkn:=know_c hJ (he.mono k4) (hvv.mono k4) hsh i ⟨(b.part i).r.lo+(j:Int),(b.part i).r.lo+(j:Int)⟩
   rw [hm] at hkn
   rw [hjn] at hcs hcl2
   generalize(b.part i).r.lo+(j:Int)=x at hx hcd hor hcs hcl1 hcl2 hb1 hb2 hkn hjn⊢
   refine X.skip C.1<|Xs C<|X.block C.1<|Xs C<|X.afterI (ι:=Nat×RO×Value×Value×Value×Value) (fun s=>ro4.le s.2.1∧BkP s.2.1 (newB (b.borne i.toNat ⟨x,x⟩) (knowH b i ⟨x,x⟩)) s.2.2.1 s.2.2.2.1 s.2.2.2.2.1 s.2.2.2.2.2) (fun s=> [(18, .int .i64 (knowH b i ⟨x,x⟩)),(17, .pointer (some ⟨s.1,0,none⟩)),(16, .int .i64 x),(15, .int .i64 (cntLt b i x:Int)),(3, .pointer (some ⟨p3,0,none⟩)),(7, .int .i64 i),(8, .int .i64 k),(9, .slice lb (bearsOf b i).length lc),(11, .slice kb (weightsOf b k).length kc),(13, .int .i64 ((cases b).length:Int))])
    (fun s=>⟨s.2.1,(s.1, .cells [.int .i64 (newB (b.borne i.toNat ⟨x,x⟩) (knowH b i ⟨x,x⟩)).w,s.2.2.1,s.2.2.2.1,s.2.2.2.2.1,s.2.2.2.2.2].toArray 27 (0,0))::(p3, .cells [.int .i64 b.w, .slice (some ⟨pp,off,none⟩) b.ps.length pc, .slice gb b.gs.length gc, .slice (some ⟨pp2,off2,none⟩) b.cs.length cc, .slice tb b.ts.length tc].toArray 27 (0,0)):: []⟩) (fun s hsx=>?_) (fun hcont=>?_)
   rotate_left
   ·have _:=hcd
    refine Xd C fun hok=>D5 C 0 hok U U isAgg27 sizeOf27 (by repeat constructor) Tk5<|Dm C 1 hok U U U<|Dm C 2 hok U U U<|D.eP2 (i:=3) (i':=8) (dst:=(some 109)) (dst':=(some 17)) [true] [true] hok U U (by kernel_rfl) (by kernel_rfl) (by kernel_rfl) (fun _ _ A hk=>?_) (fun _ _ A hk=>?_)
    ·
     refine R.callP C U (A.w U U) (A.x U U) (A.s U U) (one_c hJ _ _) (hk _ _ ⟨(QFs.cons (QF.of U (fun _ _ A h=>R.loadAgg C U (A.w U U) (A.x U U) isAgg27 sizeOf27 (by repeat constructor) Tk5 h)) QFs.nil), ?_⟩)
     refine D.eP2 (i:=4) (i':=8) (dst:=(some 110)) (dst':=(some 17)) [false] [true] hok U U (by kernel_rfl) (by kernel_rfl) (by kernel_rfl) (fun _ _ A hk=>?_) (fun _ _ A hk=>?_)
     ·
      refine R.callR C U (A.w U U) (A.x U U) (A.s U U) (hkn) fun v5 ro5 hl5 hq5=>hk _ _ ⟨QFs.nil, ?_⟩
      obtain⟨v5,hnb,rfl⟩:=hq5.bk
      have hnb0:=hnb
      obtain⟨_,_,_,_,rfl,hnb⟩:=hnb
      obtain⟨_,_,rfl⟩:=hnb.1.form
      obtain⟨_,_,rfl⟩:=hnb.2.1.form
      obtain⟨_,_,rfl⟩:=hnb.2.2.1.form
      obtain⟨_,_,rfl⟩:=hnb.2.2.2.form
      refine Dm C 5 hok U U U<|Dp 6 hok (fun _ _ _ A h=>R.ext C U (A.w U U) (A.x U U) U h)<|Dp 7 hok (fun _ _ _ A h=>R.ext C U (A.w U U) (A.x U U) U h)<|De 8 (some 17) [] hok (fun _ _ A hk=>?_)
      refine R.alloc C U (A.w U U) zeroValue27 U fun p17=>hk _ _ ⟨QFs.nil, ?_⟩
      refine De 9 none [] hok (fun _ _ A hk=>?_)
      refine R.store C U (A.w U U) (A.x U U) (A.x U U) sizeOf27 U U U (by repeat constructor) Ph5 (hk undef _ ⟨QFs.nil, ?_⟩)
      refine Da C 10 hok U U<|D.done C hok (by kernel_rfl)<|X.weaken ?_ (hcont (p17,ro5,_,_,_,_) ⟨hl5,hnb⟩)
      exact⟨U,U,U,U,U,U,U,U,U,U,trivial⟩
     ·
       refine R.alloc C U (A.w U U) zeroValue27 U fun p17=>hk _ _ ⟨(QFs.cons (QF.of U (fun _ _ A h=>R.loadAgg C U (A.w U U) (A.x U U) isAgg27 sizeOf27 (by repeat constructor) Tk5 h)) QFs.nil), ?_⟩
       refine De 4 (some 110) [false] hok (fun _ _ A hk=>?_)
       refine R.callR C U (A.w U U) (A.x U U) (A.s U U) (hkn) fun v5 ro5 hl5 hq5=>hk _ _ ⟨QFs.nil, ?_⟩
       obtain⟨v5,hnb,rfl⟩:=hq5.bk
       have hnb0:=hnb
       obtain⟨_,_,_,_,rfl,hnb⟩:=hnb
       obtain⟨_,_,rfl⟩:=hnb.1.form
       obtain⟨_,_,rfl⟩:=hnb.2.1.form
       obtain⟨_,_,rfl⟩:=hnb.2.2.1.form
       obtain⟨_,_,rfl⟩:=hnb.2.2.2.form
       refine Dm C 5 hok U U U<|Dp 6 hok (fun _ _ _ A h=>R.ext C U (A.w U U) (A.x U U) U h)<|Dp 7 hok (fun _ _ _ A h=>R.ext C U (A.w U U) (A.x U U) U h)<|De 9 none [] hok (fun _ _ A hk=>?_)
       refine R.store C U (A.w U U) (A.x U U) (A.x U U) sizeOf27 U U U (by repeat constructor) Ph5 (hk undef _ ⟨QFs.nil, ?_⟩)
       refine Da C 10 hok U U<|D.done C hok (by kernel_rfl)<|X.weaken ?_ (hcont (p17,ro5,_,_,_,_) ⟨hl5,hnb⟩)
       exact⟨U,U,U,U,U,U,U,U,U,U,trivial⟩
    ·
     refine R.alloc C U (A.w U U) zeroValue27 U fun p17=>hk _ _ ⟨(QFs.cons (QF.of U (fun _ _ A h=>R.loadAgg C U (A.w U U) (A.x U U) isAgg27 sizeOf27 (by repeat constructor) Tk5 h)) QFs.nil), ?_⟩
     refine De 3 (some 109) [true] hok (fun _ _ A hk=>?_)
     refine R.callP C U (A.w U U) (A.x U U) (A.s U U) (one_c hJ _ _) (hk _ _ ⟨(QFs.cons (QF.of U (fun _ _ A h=>R.loadAgg C U (A.w U U) (A.x U U) isAgg27 sizeOf27 (by repeat constructor) Tk5 h)) QFs.nil), ?_⟩)
     refine De 4 (some 110) [false] hok (fun _ _ A hk=>?_)
     refine R.callR C U (A.w U U) (A.x U U) (A.s U U) (hkn) fun v5 ro5 hl5 hq5=>hk _ _ ⟨QFs.nil, ?_⟩
     obtain⟨v5,hnb,rfl⟩:=hq5.bk
     have hnb0:=hnb
     obtain⟨_,_,_,_,rfl,hnb⟩:=hnb
     obtain⟨_,_,rfl⟩:=hnb.1.form
     obtain⟨_,_,rfl⟩:=hnb.2.1.form
     obtain⟨_,_,rfl⟩:=hnb.2.2.1.form
     obtain⟨_,_,rfl⟩:=hnb.2.2.2.form
     refine Dm C 5 hok U U U<|Dp 6 hok (fun _ _ _ A h=>R.ext C U (A.w U U) (A.x U U) U h)<|Dp 7 hok (fun _ _ _ A h=>R.ext C U (A.w U U) (A.x U U) U h)<|De 9 none [] hok (fun _ _ A hk=>?_)
     refine R.store C U (A.w U U) (A.x U U) (A.x U U) sizeOf27 U U U (by repeat constructor) Ph5 (hk undef _ ⟨QFs.nil, ?_⟩)
     refine Da C 10 hok U U<|D.done C hok (by kernel_rfl)<|X.weaken ?_ (hcont (p17,ro5,_,_,_,_) ⟨hl5,hnb⟩)
     exact⟨U,U,U,U,U,U,U,U,U,U,trivial⟩
   obtain⟨p17,ro5,zp,zg,zc,zt⟩:=s
   obtain⟨hl5,hnb⟩:=hsx
   simp only at hl5 hnb⊢
   have k5:=RO.le_trans k4 hl5
   have y5:=y4.mono hl5
   obtain⟨_,_,rfl⟩:=hnb.1.form
   obtain⟨_,_,rfl⟩:=hnb.2.1.form
   obtain⟨_,_,rfl⟩:=hnb.2.2.1.form
   obtain⟨_,_,rfl⟩:=hnb.2.2.2.form
   have hnb0:BkV ro5 _ (newB (b.borne i.toNat ⟨x,x⟩) (knowH b i ⟨x,x⟩)):=⟨_,_,_,_,rfl,hnb⟩
   rcases hor with⟨h9,hce⟩|⟨h0,hne⟩
   ·have hnw:newB (b.borne i.toNat ⟨x,x⟩) (knowH b i ⟨x,x⟩)=nothing:=by rw [newB,if_neg (by rw [h9];decide)]
    have hmem:(bearsOf b i).contains x=false:=by simpa using fun h=>hb1.1 h hce
    rw [hce] at hcs
    refine Xs C<|Xr C U U<|Rm C U U<|R.int C U U U U b_eql<|R.fixv (t:=114) (v':= .bool false) U (by(refine congrArg Value.bool ?_;rw [h9];rfl)) ?_;refine Rm C U U<|Rm C U U<|R.callP C U U U U (holdsR_c hJ y5 (by omega) x)<|R.neBool C U U U U runUnderlying4<|R.fixv (t:=118) (v':= .bool false) U (by(rw [hmem];rfl))<|Rm C U U<|Rm C U U<|R.int C U U U U b_neq<|R.fixv (t:=121) (v':= .bool true) U (by(refine congrArg Value.bool ?_;rw [h9];rfl)) ?_;refine Rm C U U<|Rm C U U<|R.int C U U U U b_neq<|R.fixv (t:=124) (v':= .bool false) U (by(refine congrArg Value.bool ?_;rw [h9];rfl)) ?_;refine Rm C U U<|R5 C U U isAgg27 sizeOf27 (by repeat constructor) Tk5 ?_;refine R.build C U U U zeroValue27 U runUnderlying27 (by kernel_rfl) .nil<|R.callP C U U U U (sameR_c hJ hnb0 (noBk_v _) (by rw [hnw];exact tiny_nothing) tiny_nothing)<|R.not C U U U<|R.fixv (t:=129) (v':= .bool false) U (by(rw [decide_eq_true hnw];rfl))<|R.pickF C U U U U<|R.pickT C U U U U<|R.pickF C U U U U<|R.done C<|X.cond C.1 U (fun h=>nomatch h) (fun _=>?_)
    refine X.skip C.1<|Xs C<|Xr C U U<|Rm C U U<|R.int C U U U U b_neq<|R.fixv (t:=134) (v':= .bool true) U (by(refine congrArg Value.bool ?_;rw [h9];rfl)) ?_;refine R.done C<|X.cond C.1 U (fun _=>?_) (fun h=>nomatch h)
    refine X.exit C.1 U<|X.region C U U<|Rm C U U<|Ra C U U U<|Ad C U U<|X.drop C.1 (own':=_:: []) (List.sublist_cons_self _ _)<|X.weaken ?_ (hnext (j+1,ro5) ⟨by simp only;omega,RO.le_trans hle hl5⟩ (by simp only;omega))
    exact⟨by simp only [look];rw [hjn],by simp only [look];rw [hcs];rfl,rfl,rfl,rfl,rfl,rfl,rfl,trivial⟩
   ·have hnw:newB (b.borne i.toNat ⟨x,x⟩) (knowH b i ⟨x,x⟩)=b.borne i.toNat ⟨x,x⟩:=by rw [newB,if_pos h0]
    have hbn:=Eq.mp (congrArg (BkV ro5 _) hnw) hnb0
    have hmem:(bearsOf b i).contains x=true:=by simpa using hb1.2 hne
    have hbo:=hb2 hne
    have hpos:=List.length_pos_iff.2 hne
    have gd:=good_of hcd
    have sd:=short_of (not_great hcd)
    have hi2:0≤i∧i<(b.borne i.toNat ⟨x,x⟩).ps.length:=by rw [show(b.borne i.toNat ⟨x,x⟩).ps.length=b.ps.length from List.length_modify ..];exact hi
    refine Xs C<|Xr C U U<|Rm C U U<|R.int C U U U U b_eql<|R.fixv (t:=114) (v':= .bool true) U (by(refine congrArg Value.bool ?_;rw [h0];rfl)) ?_;refine Rm C U U<|Rm C U U<|R.callP C U U U U (holdsR_c hJ y5 (by omega) x)<|R.neBool C U U U U runUnderlying4<|R.fixv (t:=118) (v':= .bool false) U (by(rw [hmem];rfl))<|Rm C U U<|Rm C U U<|R.int C U U U U b_neq<|R.fixv (t:=121) (v':= .bool false) U (by(refine congrArg Value.bool ?_;rw [h0];rfl)) ?_;refine Rm C U U<|R.pass C U U<|R.pass C U U<|R.pass C U U<|R.pass C U U<|R.pass C U U<|R.pass C U U<|R.pass C U U<|R.pass C U U<|R.pickF C U U U U<|R.pickF C U U U U<|R.done C<|X.cond C.1 U (fun h=>nomatch h) (fun _=>?_)
    refine X.skip C.1<|Xs C<|Xr C U U<|Rm C U U<|R.int C U U U U b_neq<|R.fixv (t:=134) (v':= .bool false) U (by(refine congrArg Value.bool ?_;rw [h0];rfl)) ?_;refine R.done C<|X.cond C.1 U (fun h=>nomatch h) (fun _=>?_)
    refine X.skip C.1<|Xr C U U<|R5 C U U isAgg27 sizeOf27 (by repeat constructor) Tk5<|R.callR C U U U U (casesN_c hJ (he.mono k5) hbn sd) fun v6 ro6 hl6 hq6=>?_
    subst hq6
    rw [casesOf_eq hcd]
    have k6:=RO.le_trans k5 hl6
    refine Rm C U U<|R.ext C U U U U<|R.ext C U U U U<|R.asg C U U U<|Ad C U U<|Xr C U U<|R5 C U U isAgg27 sizeOf27 (by repeat constructor) Tk5<|Rm C U U<|R.callR C U U U U (bears_c hJ (he.mono k6) (hbn.mono hl6) sd i) fun v7 ro7 hl7 hq7=>?_
    obtain⟨w7,y7,rfl⟩:=hq7
    rw [bearsR_eq hcd hne hi2] at y7⊢
    simp only [hbo] at y7
    obtain⟨qb,qc,rfl⟩:=y7.form
    have k7:=RO.le_trans k6 hl7
    refine Rm C U U<|R.ext C U U U U<|R.ext C U U U U<|R.asg C U U U<|Ad C U U<|Xs C<|Xs C<|Xd C fun hok=>Dm C 0 hok U U U<|Di C 1 hok U U U U U b_neq<|D.fixv (t:=147) (v':= .bool false) U (by rfl)<|Dm C 2 hok U U U<|Dm C 3 hok U U U<|Di C 4 hok U U U U U b_neq<|D.fixv (t:=150) (v':= .bool false) U (by rfl)<|Dp 5 hok (fun _ _ _ A h=>R.pickF C U (A.w U U) (A.x U U) (A.x U U) h)<|Dm C 6 hok U U U<|Dm C 7 hok U U U<|Di C 8 hok U U U U U b_lss<|D.fixv (t:=154) (v':= .bool false) U (by(refine congrArg Value.bool ?_;rw [dF];simp only;omega)) ?_;refine Dp 9 hok (fun _ _ _ A h=>R.pickF C U (A.w U U) (A.x U U) (A.x U U) h)<|Dm C 10 hok U U U<|Dm C 11 hok U U U<|Dm C 12 hok U U U<|De 13 (some 159) [] hok (fun _ _ A hk=>?_)
    refine R.buildSlice C (vs:=_) U (A.w U U) (show pvals _ _=some (numbered 0 [_]) from(A.p U U)) U runUnderlying28 sizeOf3 zeroValue3 (by decide) (Cat.one U U) fun p159=>hk _ _ ⟨QFs.nil, ?_⟩
    refine De 14 (some 160) [] hok (fun _ _ A hk=>?_)
    refine R.persist C.1 fun ro8 hl8 hp8=>?_
    have k8:=RO.le_trans k7 hl8
    refine R.callP C U (A.w U U) (A.x U U) (A.s U U) (list_c hJ (y7.mono hl8) (Ls.lit (xs:=([x]:List Int)) (t:=3) (fq:=(0,0)) ic_len hp8) (by simp) (by simp)) (hk _ _ ⟨QFs.nil, ?_⟩)
    refine Dp 15 hok (fun _ _ _ A h=>R.not C U (A.w U U) (A.x U U) h)<|D.fixv (t:=161) (v':= .bool false) U (by(rw [show sameInts [x] [x]=true by simp [sameInts_iff]];rfl))<|Dp 16 hok (fun _ _ _ A h=>R.pickF C U (A.w U U) (A.x U U) (A.x U U) h)<|Dm C 17 hok U U U<|D5 C 18 hok U U isAgg27 sizeOf27 (by repeat constructor) Tk5<|D5 C 19 hok U U isAgg27 sizeOf27 (by repeat constructor) Tk5<|Dm C 20 hok U U U<|Dm C 21 hok U U U<|De 22 (some 168) [true,true] hok (fun _ _ A hk=>?_)
    refine R.callP C U (A.w U U) (A.x U U) (A.s U U) (one_c hJ x _) (hk _ _ ⟨(QFs.cons (QF.of U (fun _ _ A h=>R.loadAgg C U (A.w U U) (A.x U U) isAgg27 sizeOf27 (by repeat constructor) Tk5 h)) (QFs.cons (QF.of U (fun _ _ A h=>R.loadAgg C U (A.w U U) (A.x U U) isAgg27 sizeOf27 (by repeat constructor) Tk5 h)) QFs.nil)), ?_⟩)
    refine De 23 (some 169) [false,true] hok (fun _ _ A hk=>?_)
    refine R.callR C U (A.w U U) (A.x U U) (A.s U U) (borneR_c hJ (hvv.mono k8) (by omega) hi ⟨x,x⟩) fun v9 ro9 hl9 hq9=>hk _ _ ⟨(QFs.cons (QF.of U (fun _ _ A h=>R.loadAgg C U (A.w U U) (A.x U U) isAgg27 sizeOf27 (by repeat constructor) Tk5 h)) QFs.nil), ?_⟩
    refine De 24 (some 170) [false] hok (fun _ _ A hk=>?_)
    refine R.callP C U (A.w U U) (A.x U U) (A.s U U) (sameR_c hJ (hbn.mono (RO.le_trans hl6 (RO.le_trans hl7 (RO.le_trans hl8 hl9)))) hq9 (tiny_of gd) (tiny_of gd)) (hk _ _ ⟨QFs.nil, ?_⟩)
    refine Dp 25 hok (fun _ _ _ A h=>R.not C U (A.w U U) (A.x U U) h)<|D.fixv (t:=171) (v':= .bool false) U (by(simp))<|Dp 26 hok (fun _ _ _ A h=>R.pickF C U (A.w U U) (A.x U U) (A.x U U) h)<|D.done C hok (by kernel_rfl)<|X.cond C.1 U (fun h=>nomatch h) (fun _=>?_)
    refine X.skip C.1<|X.region C U U<|Rm C U U<|Rm C U U<|R.int C U U U U (b_add (by simp only;omega) (by simp only;omega))<|Ad C U U<|X.inBlock C.1<|X.region C U U<|Rm C U U<|Ra C U U U<|Ad C U U<|X.drop C.1 (own':=_:: []) (List.sublist_cons_self _ _)<|X.weaken ?_ (hnext (j+1,ro9) ⟨by simp only;omega,RO.le_trans hle (RO.le_trans hl5 (RO.le_trans hl6 (RO.le_trans hl7 (RO.le_trans hl8 hl9))))⟩ (by simp only;omega))
    exact⟨by simp only [look];rw [hjn],by simp only [look];rw [hcs];rfl,rfl,rfl,rfl,rfl,rfl,rfl,trivial⟩
  ·have hce:=cntLt_hi hi (x:=(b.part i).r.lo+(j:Int)) (by omega)
   have hrop24:=k4 _ _ hrop2
   by_cases hL:cases b= []
   ·have e3:(cases b).length=0:=by rw [hL];rfl
    refine X.exit C.1 U<|Xr C U U<|Rf C 3 U U runUnderlying27 U sizeOf24<|Rl C U U isAgg24 (by repeat constructor) U<|Rm C U U<|Rx C U U U runUnderlying24 sizeOf79<|R.fieldAddr C U U U runUnderlying79 U sizeOf65 U<|R.loadAggRo C U U U isAgg65 sizeOf65 hrop24 hrc2<|R.alloc C U U zeroValue65 U fun p23=>R.store C U U U U sizeOf65 U U U (by repeat constructor) Ph2<|R.done C<|Xs C<|Xd C fun hok=>Dm C 0 hok U U U<|Dm C 1 hok U U U<|Di C 2 hok U U U U U b_eql<|D.fixv (t:=184) (v':= .bool true) U (by(refine congrArg Value.bool ?_;rw [beq_iff_eq,hce])) ?_;refine Dm C 3 hok U U U<|Dm C 4 hok U U U<|Ds C 5 hok U U runUnderlying28<|Di C 6 hok U U U U U b_leq<|D.fixv (t:=188) (v':= .bool true) U (by(refine congrArg Value.bool ?_;rw [decide_eq_true_iff];omega)) ?_;refine Dp 7 hok (fun _ _ _ A h=>R.pickT C U (A.w U U) (A.x U U) (A.x U U) h)<|Dm C 8 hok U U U<|Dm C 9 hok U U U<|Di C 10 hok U U U U U b_eql<|D.fixv (t:=192) (v':= .bool true) U (by(refine congrArg Value.bool ?_;rw [beq_iff_eq];omega)) ?_;refine Dm C 11 hok U U U<|Du C 12 hok U<|Du C 13 hok U<|Du C 14 hok U<|Du C 15 hok U<|Du C 16 hok U<|Du C 17 hok U<|Du C 18 hok U<|Du C 19 hok U<|Du C 20 hok U<|Du C 21 hok U<|Du C 22 hok U<|Du C 23 hok U<|Du C 24 hok U<|Du C 25 hok U<|Du C 26 hok U<|Du C 27 hok U<|Du C 28 hok U<|Du C 29 hok U<|Du C 30 hok U<|Du C 31 hok U<|Du C 32 hok U<|Du C 33 hok U<|Du C 34 hok U<|Du C 35 hok U<|Du C 36 hok U<|Du C 37 hok U<|Du C 38 hok U<|Du C 39 hok U<|Dp 40 hok (fun _ _ _ A h=>R.pickT C U (A.w U U) (A.x U U) (A.x U U) h)<|Dp 41 hok (fun _ _ _ A h=>R.pickT C U (A.w U U) (A.x U U) (A.x U U) h)<|Dm C 42 hok U U U<|De 43 (some 225) [] hok (fun _ _ A hk=>?_)
    refine R.callR C U (A.w U U) (A.x U U) (A.s U U) ((hoisted_c _ (he.mono k4))) fun v9 ro9 hl9 hq9=>hk _ _ ⟨QFs.nil, ?_⟩
    refine Dp 44 hok (fun _ _ _ A h=>R.pickT C U (A.w U U) (A.x U U) (A.x U U) h)<|Da C 45 hok U U<|D.done C hok (by kernel_rfl)<|X.ret0 C (by kernel_rfl) U U func17 U (by exact(.tmp U .nil)) fun w9 hs9=>hret _ _ _ (RO.le_trans k4 hl9) ?_ w9 hs9
    exact hq9
   ·have e3:=List.length_pos_iff.2 hL
    have hwe:=weightsOf_eq hb hL hkb.1 hkb.2
    have hwl:(weightsOf b k).length=((b.piece k).r.hi+1- (b.piece k).r.lo).toNat:=by rw [hwe,Rc.nums,rz_len]
    have y6:LsI ro4 (.slice kb (weightsOf b k).length kc) (weightsOf b k):=y2.mono (RO.le_trans hl3 hle)
    obtain⟨qp,qo,qcap,ql,qt,qf,hqs,hqro,hqsub⟩:=y6.at ic_len (by omega)
    cases hqs
    have hat0:ql[qo+(0:Int).toNat*1]? =some (.int .i64 (b.piece k).r.lo):=by
     have h1:=ic_at hqsub (i:=0) (by omega)
     have h2:=rz_get (b.piece k).r.lo ((b.piece k).r.hi+1- (b.piece k).r.lo).toNat 0 (by omega)
     have h3:(weightsOf b k)[0]? =some (b.piece k).r.lo:=by rw [hwe,Rc.nums,h2];simp
     obtain⟨_,h4⟩:=List.getElem?_eq_some_iff.1 h3
     rw [h4] at h1
     simpa using h1
    have hat1:ql[qo+(((weightsOf b k).length:Int) -1).toNat*1]? =some (.int .i64 (b.piece k).r.hi):=by
     have h1:=ic_at hqsub (i:=(weightsOf b k).length-1) (by omega)
     have h2:=rz_get (b.piece k).r.lo ((b.piece k).r.hi+1- (b.piece k).r.lo).toNat ((weightsOf b k).length-1) (by omega)
     have h3:(weightsOf b k)[(weightsOf b k).length-1]? =some (b.piece k).r.hi:=by
      generalize hz:(weightsOf b k).length-1=z at h2⊢
      rw [hwe,Rc.nums,h2];congr 1;omega
     obtain⟨_,h4⟩:=List.getElem?_eq_some_iff.1 h3
     rw [h4] at h1
     rw [show(((weightsOf b k).length:Int) -1).toNat=(weightsOf b k).length-1 by omega]
     simpa using h1
    refine X.exit C.1 U<|Xr C U U<|Rf C 3 U U runUnderlying27 U sizeOf24<|Rl C U U isAgg24 (by repeat constructor) U<|Rm C U U<|Rx C U U U runUnderlying24 sizeOf79<|R.fieldAddr C U U U runUnderlying79 U sizeOf65 U<|R.loadAggRo C U U U isAgg65 sizeOf65 hrop24 hrc2<|R.alloc C U U zeroValue65 U fun p23=>R.store C U U U U sizeOf65 U U U (by repeat constructor) Ph2<|R.done C<|Xs C<|Xd C fun hok=>Dm C 0 hok U U U<|Dm C 1 hok U U U<|Di C 2 hok U U U U U b_eql<|D.fixv (t:=184) (v':= .bool true) U (by(refine congrArg Value.bool ?_;rw [beq_iff_eq,hce])) ?_;refine Dm C 3 hok U U U<|Dm C 4 hok U U U<|Ds C 5 hok U U runUnderlying28<|Di C 6 hok U U U U U b_leq<|D.fixv (t:=188) (v':= .bool true) U (by(refine congrArg Value.bool ?_;rw [decide_eq_true_iff];omega)) ?_;refine Dp 7 hok (fun _ _ _ A h=>R.pickT C U (A.w U U) (A.x U U) (A.x U U) h)<|Dm C 8 hok U U U<|Dm C 9 hok U U U<|Di C 10 hok U U U U U b_eql<|D.fixv (t:=192) (v':= .bool false) U (by(refine congrArg Value.bool ?_;rw [beq_eq_false_iff_ne];omega)) ?_;refine Dm C 11 hok U U U<|Dm C 12 hok U U U<|Ds C 13 hok U U runUnderlying28<|Df (off':=1) C 14 hok U U U runUnderlying65 U sizeOf3 U<|D1 C 15 hok U U isAgg3 (by repeat constructor) U<|Df (off':=0) C 16 hok U U U runUnderlying65 U sizeOf3 U<|D1 C 17 hok U U isAgg3 (by repeat constructor) U<|Di C 18 hok U U U U U (b_sub (by omega) (by omega))<|Di C 19 hok U U U U U (b_add (by omega) (by omega))<|Di C 20 hok U U U U U b_eql<|D.fixv (t:=202) (v':= .bool true) U (by(refine congrArg Value.bool ?_;rw [beq_iff_eq];omega)) ?_;refine Dm C 21 hok U U U<|Dm C 22 hok U U U<|Dx C 23 hok U U U runUnderlying28 sizeOf3<|D2 C 24 hok U U isAgg3 hqro hat0<|Df (off':=0) C 25 hok U U U runUnderlying65 U sizeOf3 U<|D1 C 26 hok U U isAgg3 (by repeat constructor) U<|Di C 27 hok U U U U U b_eql<|D.fixv (t:=209) (v':= .bool true) U (by(refine congrArg Value.bool ?_;rw [beq_iff_eq])) ?_;refine Dp 28 hok (fun _ _ _ A h=>R.pickT C U (A.w U U) (A.x U U) (A.x U U) h)<|Dm C 29 hok U U U<|Dm C 30 hok U U U<|Dm C 31 hok U U U<|Ds C 32 hok U U runUnderlying28<|Di C 33 hok U U U U U (b_sub (by omega) (by omega))<|Dx C 34 hok U U U runUnderlying28 sizeOf3<|D2 C 35 hok U U isAgg3 hqro hat1<|Df (off':=1) C 36 hok U U U runUnderlying65 U sizeOf3 U<|D1 C 37 hok U U isAgg3 (by repeat constructor) U<|Di C 38 hok U U U U U b_eql<|D.fixv (t:=220) (v':= .bool true) U (by(refine congrArg Value.bool ?_;rw [beq_iff_eq])) ?_;refine Dp 39 hok (fun _ _ _ A h=>R.pickT C U (A.w U U) (A.x U U) (A.x U U) h)<|Dp 40 hok (fun _ _ _ A h=>R.pickF C U (A.w U U) (A.x U U) (A.x U U) h)<|Dp 41 hok (fun _ _ _ A h=>R.pickT C U (A.w U U) (A.x U U) (A.x U U) h)<|Dm C 42 hok U U U<|De 43 (some 225) [false,false,false,false,false,false] hok (fun _ _ A hk=>?_)
    refine R.callR C U (A.w U U) (A.x U U) (A.s U U) ((hoisted_c _ (he.mono k4))) fun v9 ro9 hl9 hq9=>hk _ _ ⟨QFs.nil, ?_⟩
    refine Dp 44 hok (fun _ _ _ A h=>R.pickT C U (A.w U U) (A.x U U) (A.x U U) h)<|Da C 45 hok U U<|D.done C hok (by kernel_rfl)<|X.ret0 C (by kernel_rfl) U U func17 U (by exact(.tmp U .nil)) fun w9 hs9=>hret _ _ _ (RO.le_trans k4 hl9) ?_ w9 hs9
    exact hq9
end Go.Lg.B
namespace Go.Lg.B
open Go Go.Proofs Go.Proofs.YtchjgmkeemdhlaaGreatDoor Go.Proofs.Tryz
theorem reached_k1:(Rows.tackleReachedRow.inPlace==prog.inPlace 17)=true:=by kernel_rfl
theorem reached_k2:(Rows.tackleReachedRow.unfollowed==prog.unfollowed 17)=true:=by kernel_rfl
theorem reached_k3:(Rows.tackleReachedRow.recurses==prog.recurses 17)=true:=by kernel_rfl
theorem reached_k4:(Rows.tackleReachedRow.named==prog.varsNamed 17)=true:=by kernel_rfl
theorem reached_name:prog.funcNamed "lagan/laganlaw07.TackleReached" =some 17:=by kernel_rfl
theorem reached_goes:true=Rows.tackleReachedRow.goesBy prog:=by kernel_rfl
theorem reached_wf:Rows.tackleReachedRow.wfByText (OpenSpec.ofChange Rows.tackleReachedSpec)=true:=by kernel_rfl
theorem reached_facts:joinedFacts prog 17 Tryz.f17 Rows.tackleReachedSpec Rows.tackleReachedRow=true:=by
 unfold joinedFacts
 exact(and_mk (and_mk (and_mk (and_mk (and_mk (and_mk (and_mk (and_mk (and_mk (and_mk (and_mk (and_mk (and_mk (and_mk (and_mk (and_mk (and_mk (and_mk (and_mk (and_mk (and_mk (and_mk (and_mk (and_mk (and_mk (and_mk (and_mk (and_mk (and_mk (and_mk (and_mk (by as_aux_lemma=>kernel_rfl)
  k_lo)
  k_mr)
  (by as_aux_lemma=>kernel_rfl))
  (by as_aux_lemma=>kernel_rfl))
  (by as_aux_lemma=>kernel_rfl))
  k_stops)
  (by as_aux_lemma=>kernel_rfl))
  k_knobs)
  reached_k1)
  reached_k2)
  reached_k3)
  reached_k4)
  (by as_aux_lemma=>kernel_rfl))
  (by as_aux_lemma=>kernel_rfl))
  (by as_aux_lemma=>kernel_rfl))
  (by as_aux_lemma=>kernel_rfl))
  (by as_aux_lemma=>kernel_rfl))
  (by as_aux_lemma=>kernel_rfl))
  (by as_aux_lemma=>kernel_rfl))
  (by as_aux_lemma=>kernel_rfl))
  (by as_aux_lemma=>kernel_rfl))
  (beq_iff_eq.2 k_pk.symm))
  (by as_aux_lemma=>kernel_rfl))
  k_heard)
  k_may)
  (beq_iff_eq.2 k_lift.symm))
  (beq_iff_eq.2 k_make))
  (by as_aux_lemma=>kernel_rfl))
  (by as_aux_lemma=>kernel_rfl))
  (by as_aux_lemma=>kernel_rfl))
  (by as_aux_lemma=>kernel_rfl))
end Go.Lg.B
namespace Go.Proofs.YtchjgmkeemdhlaaGreatDoor
open Go Go.Conc Go.Lg Go.Lg.B Go.ChangeShapes Go.RowKit Go.WideShapes
theorem reached_lifted(os:Os)(started:os.Started)(H:Type)(enc:TypeId×Value→H):
  ReturnsInLeavingWide {} Tryz.checked os 17 .any (fun w args=>(Rows.tackleReachedSpec.pre enc Tryz.prog Tryz.f17 [] false w args∧laidMetH Tryz.prog laid1 w)∧sizedMet enc Tryz.prog Tryz.f17 (OpenSpec.ofChange Rows.tackleReachedSpec) false w args)
   (Rows.tackleReachedSpec.post enc Tryz.prog Tryz.f17 false true false false):=by
 refine leaving_of_root (C:=Tryz.checked) (tb:=4) (X:=fun w _=>laidMetH Tryz.prog laid1 w) (fun _ _ _ hh h=>h.of_heap hh) own0 started Tryz.func17 laid0 (by
   intro t ht
   rw [Tryz.params17] at ht
   have hm:t∈ [27,5,5]:=ht
   have hall:([27,5,5].all fun u=>Tryz.prog.readableRec u && decide (u<Tryz.prog.types.size))=true:=by kernel_rfl
   have:=List.all_eq_true.1 hall t hm
   rw [Bool.and_eq_true,decide_eq_true_eq] at this
   exact this) rfl (by kernel_rfl) Tryz.underlying4
  (ChangeSpec.witness_shaped (enc:=enc) (C:=Tryz.checked) (os:=os) (X:=fun w _=>laidMetH Tryz.prog laid1 w) false (World.doorLaid Tryz.prog 89 os) #[.agg #[.int .i64 0, .slice none 0 0, .slice none 0 0, .slice none 0 0, .slice none 0 0], .int .u8 0, .int .u8 0] 8 rfl (door_shaped os _) (by kernel_rfl) (by kernel_rfl) (by kernel_rfl) (door_met os _)) ?_
 intro W base args ds gs before hval hW _ _ hL
 obtain⟨p,q,hA,hV,rfl,_,_⟩:=hW
 obtain⟨rfl,rfl⟩:=trodVars_none hV
 have hA:DataW.TrodAll enc Tryz.prog W 0 (fun _=>true) true Tryz.f17.params.toList args.toList ds p:=hA
 have hval:∀ (j:Nat) t v,Tryz.f17.params[j]? =some t→args[j]? =some v→Value.okWide Tryz.prog W .any base t v:=hval
 rw [Tryz.params17] at hA hval
 obtain⟨v1,l1,d1,k1,p1,q1,e1,rfl,rfl,h1,hA⟩:=trodAll_cons hA
 obtain⟨v2,l2,d2,k2,p2,q2,rfl,rfl,rfl,h2,hA⟩:=trodAll_cons hA
 obtain⟨v3,l3,d3,k3,p3,q3,rfl,rfl,rfl,h3,hA⟩:=trodAll_cons hA
 obtain⟨rfl,rfl,rfl⟩:=trodAll_nil hA
 have ea:args= #[v1,v2,v3]:=Array.toList_inj.1 e1
 subst ea
 obtain⟨b,b1⟩:=argBk (hval 0 27 v1 rfl rfl) h1
 obtain⟨g,rfl,o1⟩:=argU8 (hval 1 5 v2 rfl rfl) h2
 obtain⟨y,rfl,o2⟩:=argU8 (hval 2 5 v3 rfl rfl) h3
 exact⟨rfl,reached_root o1 o2 (env_of_laid hL) b1⟩
theorem reached_row:Rows.TackleReachedSaid:=
 OpenClaim.holds_of_wide_leaving 17 Tryz.f17 rfl rfl rfl rfl rfl rfl rfl ⟨rfl,rfl,rfl,rfl,rfl⟩ rfl rfl rfl rfl rfl reached_name Tryz.func17 reached_facts
  (of_decide_eq_true (by kernel_rfl)) (by unfold Func.isWrapper;first|(rw [if_pos (by decide+kernel)];kernel_rfl)|(rw [if_neg (by decide+kernel)];exact⟨rfl,rfl⟩))
  (fun os started H enc _=>reached_lifted os started H enc)
theorem reached_holds:Rows.TackleReachedCardSaid:=
 card_goes .later [.funcs] true (true, "6ec45924a9ef3528b91853e2f3d4ce9a8ac3f7423f5bdc8d9ecf7c969235976f") true
  reached_row reached_wf tackleReached_row_tie rfl ⟨rfl,rfl⟩ k_main rfl
  (fun f fn hf hfn=>by
   obtain rfl:f=17:=Option.some.inj (reached_name.symm.trans hf)|>.symm
   obtain rfl:fn=Tryz.f17:=(Option.some.inj (Tryz.func17.symm.trans hfn)).symm
   exact⟨k_looks,fun j t ht=>by
    rw [Tryz.params17] at ht
    have hm:t∈ [27,5,5]:=by simpa using Array.mem_of_getElem? ht
    have hall:([27,5,5].all fun u=> !Tryz.prog.wantsStandIn u)=true:=by kernel_rfl
    exact(show Tryz.prog.wantsStandIn t=false by simpa using List.all_eq_true.1 hall t hm)⟩)
  reached_goes
end Go.Proofs.YtchjgmkeemdhlaaGreatDoor
