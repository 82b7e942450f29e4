/-
  It is proved that the given function answers true for every input, whatever is scheduled: the statement Renewed of the seat. Conditions: none but those of the given statement itself.
-/
import Derived.Test.YtchjgmkeemdhlaaGreatDoorKE
import Derived.Conc.Holds
set_option maxRecDepth 100000
set_option maxHeartbeats 2000000
set_option linter.all false
set_option linter.unusedVariables false
set_option linter.unusedSimpArgs false
set_option linter.unusedSectionVars false
namespace Go.Lg
open Go Go.Conc
theorem X.afterI{J:Goroutine→Mem→Prop}{b:Frame}{cs:List Frame}{n:Nat}{ds:List Deferred}{σ:Slots}{M:Mem}{k:List Item}{it:Item}{ι:Type}(Ex:ι→Prop)(σe:ι→Slots)(Me:ι→Mem)(hk:∀s,Ex s→X J b cs n k ds (σe s) (Me s))
  (h:(∀s,Ex s→X J b cs n k ds (σe s) (Me s))→X J b cs n (it::k) ds σ M):X J b cs n (it::k) ds σ M:=h hk
section
variable {P:Program}{main:Bool}{J:Goroutine→Mem→Prop}{b:Frame}(C:Ctx P main J b){cs:List Frame}{n:Nat}{ds:List Deferred}{σ:Slots}{ro:RO}{own:List (Nat×Obj)}{k:List Item}{ops:Array Oper}{i:Nat}{rest:List Nat}
variable {d:Nat}{ty:TypeId}{pos:String}{af:Array Edge}{g:Option (Nat×Bool)}
end
section
variable {P:Program}{main:Bool}{J:Goroutine→Mem→Prop}{b:Frame}(C:Ctx P main J b){cs:List Frame}{n:Nat}{ds:List Deferred}{σ:Slots}{k:List Item}{ops:Array Oper}{i:Nat}{rest:List Nat}
 {d:Nat} {ty:TypeId} {pos:String} {af:Array Edge} {g:Option (Nat×Bool)}
include C
end
end Go.Lg
namespace Go.Lg.B
open Go Go.Conc Go.Lg Go.Proofs Go.Proofs.Tryz
def Bk.borne(b:Bk)(i:Nat)(r:Rc):Bk:={b with ps:=b.ps.modify i fun p=>{p with r:=r} }
theorem cmpI_flip(x y:Int):cmpI y x= -cmpI x y:=by unfold cmpI;split<;>split<;>(try split)<;>omega
theorem cmpL_flip:∀a c:List Int,cmpL c a= -cmpL a c
 | [], []=>rfl
 | [],_::_=>rfl
 |_::_, []=>rfl
 |x::xs,y::ys=>by
  have h:=cmpI_flip x y
  have ih:=cmpL_flip xs ys
  simp only [cmpL]
  split<;>split<;>omega
theorem cmpL_zero:∀ {a c:List Int},cmpL a c=0→a=c
 | [], [],_=>rfl
 | [],_::_,h=>by simp [cmpL] at h
 |_::_, [],h=>by simp [cmpL] at h
 |x::xs,y::ys,h=>by
  simp only [cmpL] at h
  split at h
  ·contradiction
  ·rename_i hx
   simp only [ne_eq,Decidable.not_not] at hx
   rw [cmpI_zero.1 hx,cmpL_zero h]
theorem cmpL_refl:∀a:List Int,cmpL a a=0
 | []=>rfl
 |x::xs=>by
  have:cmpI x x=0:=cmpI_zero.2 rfl
  simp [cmpL,this,cmpL_refl xs]
inductive LeL:List Int→List Int→Prop
 |nil:LeL [] []
 |cons {x y:Int} {a c:List Int}:x≤y→LeL a c→LeL (x::a) (y::c)
theorem LeL.getD{a c:List Int}(h:LeL a c):∀i,a.getD i 0≤c.getD i 0:=by
 induction h with
 |nil=>intro i;simp
 |cons h _ ih=>
  intro i
  cases i with
  |zero=>simpa using h
  |succ i=>simpa using ih i
theorem climbs_asc{n:Int}:∀ {l:List Int} {q:Option Int},l.Pairwise (· < ·)→(∀x∈l,0≤x∧x<n)→(∀y,q=some y→∀x∈l,y<x)→climbsH n q l=0
 | [],_,_,_,_=>rfl
 |x::l,q,hp,hb,hq=>by
  rw [List.pairwise_cons] at hp
  have hx:=hb x (by simp)
  rw [climbsH,if_neg (by have:=between_iff.2 (show 0≤x∧x≤n-1 by omega);simp [this]),if_neg,climbs_asc hp.2 (fun y hy=>hb y (by simp [hy])) (fun y hy z hz=>by cases hy;exact hp.1 z hz)]
  cases q with
  |none=>simp
  |some y=>have:=hq y rfl x (by simp);simp;omega
theorem how_one{n all:Nat}(h:0<all):how n all=1↔n=all:=by
 unfold how
 split
 ·constructor
  ·intro h2;cases h2
  ·intro h2;omega
 ·split
  ·simp_all
  ·constructor
   ·intro h2;cases h2
   ·intro h2;contradiction
theorem filter_all{α:Type}{p:α→Bool}{l:List α}:(l.filter p).length=l.length↔l.all p=true:=by
 rw [List.length_filter_eq_length_iff,List.all_eq_true]
theorem open_zero{b:Bk}(h:checkBook b=0)(hL:cases b≠ []):openH b 0=0:=by rw [openH_zero,if_neg (fun e=>e h),if_neg hL]
end Go.Lg.B
namespace Go.Lg
open Go Go.Conc
theorem R.finish{P:Program}{main:Bool}{J:Goroutine→Mem→Prop}{b:Frame}{cs:List Frame}{n:Nat}{ds:List Deferred}{σ:Slots}{ro:RO}{own:List (Nat×Obj)}{k:List Item}{ops:Array Oper}{l:List Nat}{α:Type}{enc:α→List Value}{e:TypeId}{kk:Nat}{v:Value}{xs:List α}{tail:List (Nat×Obj)}(hJ:Closed P main J)(hk:∀x,(enc x).length=kk)(hkp:0<kk)(hb:Buf e kk tail v (xs.flatMap enc) own)
  (h:∀ro':RO,ro.le ro'→Ls enc kk ro' v xs→R J b cs n ops l k ds σ ⟨ro',tail⟩):R J b cs n ops l k ds σ ⟨ro,own⟩:=fun hok=>X.finish hJ hk hkp hb fun ro' hl hls=>h ro' hl hls hok
end Go.Lg
namespace Go.Lg.B
open Go Go.Conc Go.Lg Go.Proofs Go.Proofs.Tryz
theorem rz_take(lo:Int):∀m,rz lo (m+1)=rz lo m++ [lo+m]
 |0=>by simp [rz]
 |m+1=>by
  have:=rz_take (lo+1) m
  rw [rz,this,rz]
  simp only [List.cons_append]
  congr 2
  rw [show lo+1+(m:Int)=lo+((m+1:Nat):Int) by omega]
theorem bit_cases(a n:Nat):(a>>>n &&& 1:Nat)=if a.testBit n then 1 else 0:=by
 rw [Nat.testBit_eq_decide_div_mod_eq,Nat.shiftRight_eq_div_pow,Nat.and_one_is_mod]
 have:a/2^n%2<2:=Nat.mod_lt _ (by omega)
 by_cases h:a/2^n%2=1
 ·simp [h]
 ·have:a/2^n%2=0:=by omega
  simp [this]
theorem b_shr8{P:Program}{t:TypeId}{k':IntKind}{a:Nat}{n:Int}(h0:0≤n)(h1:n≤8):∀M K,K (.int .u8 ((a>>>n.toNat:Nat):Int)) M→Sm P M (binOp .shr t (.int .u8 (a:Int)) (.int k' n)) K:=fun M K h=>by
 have e:((a>>>n.toNat:Nat):Int)=(a:Int) /2^n.toNat:=by rw [Nat.shiftRight_eq_div_pow];simp
 rw [e] at h
 exact b_shr h0 (by simp [IntKind.bits];omega) (by omega) M K h
theorem bits_and8{a:Nat}(ha:a<256):(Op.intBits .and .u8 (a:Int) 1:Sem Value)=Pure.pure (.int .u8 ((a &&& 1:Nat):Int)):=by
 have h:∀a:Nat,a<256→IntKind.u8.wrap ((BitVec.ofInt 8 (a:Int) &&& BitVec.ofInt 8 1).toNat:Int)=((a &&& 1:Nat):Int):=by
  intro a ha
  have:((List.range 256).all fun a=>IntKind.u8.wrap ((BitVec.ofInt 8 ((a:Nat):Int) &&& BitVec.ofInt 8 1).toNat:Int)==((a &&& 1:Nat):Int))=true:=by kernel_rfl
  have:=List.all_eq_true.1 this a (List.mem_range.2 ha)
  simpa using this
 show(Pure.pure (Value.int IntKind.u8 (IntKind.u8.wrap ((BitVec.ofInt 8 (a:Int) &&& BitVec.ofInt 8 1).toNat:Int))):Sem Value)=_
 rw [h a ha]
theorem b_and8{P:Program}{t:TypeId}{a:Nat}(ha:a<256):∀M K,K (.int .u8 ((a &&& 1:Nat):Int)) M→Sm P M (binOp .and t (.int .u8 (a:Int)) (.int .u8 1)) K:=fun M K h=>by
 unfold binOp;simp only [ne_eq,not_true_eq_false,if_false,bits_and8 ha];exact Sm.pure h
def someL(o n:Nat):List Int:=(rz 0 n).filter fun k=>o.testBit k.toNat
theorem some_succ(o i:Nat):someL o (i+1)=someL o i++(if o.testBit i=true then [(i:Int)] else []):=by
 unfold someL
 rw [rz_take,List.filter_append,Int.zero_add]
 congr 1
 by_cases h:o.testBit i=true
 ·rw [if_pos h,List.filter_cons_of_pos (by simpa using h),List.filter_nil]
 ·rw [if_neg h,List.filter_cons_of_neg (by simpa using h),List.filter_nil]
theorem some_len(o n:Nat):(someL o n).length≤n:=by
 have:=List.length_filter_le (fun k:Int=>o.testBit k.toNat) (rz 0 n)
 rwa [rz_len] at this
theorem erase_take(l:List Int)(j:Nat){i:Nat}(h:i<l.length):(l.take (i+1)).eraseIdx j=(l.take i).eraseIdx j++(if i≠j then [l[i]] else []):=by
 rw [List.take_succ_eq_append_getElem h]
 have hlen:(l.take i).length=i:=by rw [List.length_take];omega
 by_cases hj:j<i
 ·rw [List.eraseIdx_append_of_lt_length (by omega),if_pos (by omega)]
 ·rw [List.eraseIdx_append_of_length_le (by omega),hlen,List.eraseIdx_of_length_le (show(l.take i).length≤j by omega)]
  by_cases e:i=j
  ·subst e;simp
  ·rw [if_pos e,List.eraseIdx_of_length_le (by simp;omega)]
section
variable {main:Bool}{J:Goroutine→Mem→Prop}(hJ:Closed prog main J)
include hJ
theorem someR_c{o n:Nat}(ho:o<256)(hn:n≤5){ro:RO}:CallR prog J (fnv 64) [.int .u8 (o:Int), .int .i64 (n:Int)] ro (fun w ro'=>LsI ro' w (someL o n)):=by
 refine CallR.intro hJ (by kernel_rfl) fun c cs tail hret=>enter_X (n:=22) func64 U U (Nl U) ?_
 have C:Ctx prog main J (bf 64 .normal):=⟨hJ,by decide⟩
 refine Xr C U U<|Ad C U U<|Xr C U U<|Ad C U U<|Xs C<|Xr C U U<|Ad C U U<|X.block C.1<|X.loopI (ι:=Nat×Value×List (Nat×Obj)) C.1 (fun s=>s.1≤n∧Buf 3 1 [] s.2.1 ((someL o s.1).flatMap ic) s.2.2) (fun s=> [(0, .int .u8 (o:Int)),(1, .int .i64 (n:Int)),(5,s.2.1),(6, .int .i64 (s.1:Int))])
  (fun s=>⟨ro,s.2.2++tail⟩) (fun s=>n-s.1) (0, .slice none 0 0, []) ⟨Nat.zero_le _, .nil⟩ rfl ⟨U,U,U,U,trivial⟩ fun s hs hnext=>?_
 obtain⟨i,v2,own2⟩:=s
 obtain⟨hi,hb2⟩:=hs
 simp only at hi hb2 hnext⊢
 have hol:=some_len o i
 have hfl:((someL o i).flatMap ic).length≤i:=by rw [flat_len];exact hol
 have hstep:=some_succ o i
 have hsh:o>>>i<256:=Nat.lt_of_le_of_lt (Nat.shiftRight_le _ _) ho
 refine Xs C<|Xr C U U<|Rm C U U<|Rm C U U<|R.int C U U U U b_lss<|R.done C<|Xk C U (fun hlt=>?_) (fun hlt=>?_)
 ·have hi':i<n:=by omega
  refine X.skip C.1<|Xs C<|X.block C.1<|Xr C U U<|Rm C U U<|Rm C U U<|R.shift C U U U U (b_shr8 (by omega) (by omega))<|R.int C U U U U (b_and8 hsh)<|R.int C U U U U b_eql<|R.done C<|X.cond C.1 U (fun hq=>?_) (fun hq=>?_)
  ·have hq':o.testBit i=true:=by
    simp only [Int.toNat_natCast] at hq
    rw [bit_cases] at hq
    by_cases h:o.testBit i=true
    ·exact h
    ·rw [if_neg h] at hq;cases hq
   rw [if_pos hq'] at hstep
   refine X.region C U U<|Rm C U U<|Rm C U U<|R.buildSlice C (vs:=_) U U (show pvals _ _=some (numbered 0 [_]) from rfl) U runUnderlying28 sizeOf3 zeroValue3 (by decide) (Cat.one U U) fun p19=>R.append1 (kk:=1) C U U U U runUnderlying28 runUnderlying28 (fun _=>nofun) (show prog.info? 3=some Tryz.t3 by kernel_rfl) U U U (by decide) (by decide) (hb2.app _) U U (by simp only [List.length_append,List.length_cons,List.length_nil];omega) fun v' own' hb'=>Ad C U U<|X.inBlock C.1<|X.region C U U<|Rm C U U<|Ra C U U U<|Ad C U U ?_
   obtain⟨own3,rfl,hb3⟩:=Buf.unapp (tail:= []) hb'
   have hcat:(someL o i).flatMap ic++ [Value.int .i64 (i:Int)]=(someL o (i+1)).flatMap ic:=by rw [hstep,List.flatMap_append];rfl
   rw [hcat] at hb3
   refine X.weaken ?_ (hnext (i+1,_,own3) ⟨hi',hb3⟩ (by omega))
   exact⟨rfl,rfl,rfl,by simp [look],trivial⟩
  ·have hq':¬o.testBit i=true:=by
    simp only [Int.toNat_natCast] at hq
    rw [bit_cases] at hq
    intro h
    rw [if_pos h] at hq;cases hq
   rw [if_neg hq',List.append_nil] at hstep
   refine X.skip C.1<|X.inBlock C.1<|X.region C U U<|Rm C U U<|Ra C U U U<|Ad C U U<|X.weaken ?_ (hnext (i+1,v2,own2) ⟨hi',by rw [hstep];exact hb2⟩ (by omega))
   exact⟨rfl,rfl,rfl,by simp [look],trivial⟩
 ·obtain rfl:i=n:=by omega
  refine X.exit C.1 U<|Xr C U U<|R.finish C.1 ic_len (by decide) (hb2.app _) fun ro4 hl4 hls4=>Rm C U U<|Ad C U U<|Xt C func64<|Hr hret hl4 ?_
  exact hls4
theorem dropR_c{l:List Int}{v:Value}{ro:RO}(hl:LsI ro v l)(hn:l.length≤1000)(j:Nat):CallR prog J (fnv 63) [v, .int .i64 (j:Int)] ro (fun w ro'=>LsI ro' w (l.eraseIdx j)):=by
 have hl0:=hl
 obtain⟨lb,lc,rfl⟩:=hl.form
 refine CallR.intro hJ (by kernel_rfl) fun c cs tail hret=>enter_X (n:=24) func63 U U (Nl U) ?_
 have C:Ctx prog main J (bf 63 .normal):=⟨hJ,by decide⟩
 refine Xr C U U<|Ad C U U<|Xr C U U<|Ad C U U<|Xs C<|Xr C U U<|Ad C U U<|X.block C.1<|X.loopI (ι:=Nat×Value×List (Nat×Obj)) C.1 (fun s=>s.1≤l.length∧Buf 3 1 [] s.2.1 (((l.take s.1).eraseIdx j).flatMap ic) s.2.2) (fun s=> [(0, .slice lb l.length lc),(1, .int .i64 (j:Int)),(5,s.2.1),(6, .int .i64 (s.1:Int))])
  (fun s=>⟨ro,s.2.2++tail⟩) (fun s=>l.length-s.1) (0, .slice none 0 0, []) ⟨Nat.zero_le _, .nil⟩ rfl ⟨U,U,U,U,trivial⟩ fun s hs hnext=>?_
 obtain⟨i,v2,own2⟩:=s
 obtain⟨hi,hb2⟩:=hs
 simp only at hi hb2 hnext⊢
 have hfl:(((l.take i).eraseIdx j).flatMap ic).length≤i:=by
  rw [flat_len]
  have:=(List.eraseIdx_sublist (l.take i) j).length_le
  rw [List.length_take] at this
  omega
 refine Xs C<|Xr C U U<|Rm C U U<|Rm C U U<|Rn C U U runUnderlying28<|R.int C U U U U b_lss<|R.done C<|Xk C U (fun hlt=>?_) (fun hlt=>?_)
 ·have hi':i<l.length:=by omega
  have hstep:=erase_take l j hi'
  obtain⟨pl,offl,capl,ll,tl,fql,hsll,hropl,hsubl⟩:=hl0.at ic_len (by omega)
  cases hsll
  have hx:=ic_at hsubl hi'
  generalize l[i]=x at hx hstep
  refine X.skip C.1<|Xs C<|X.block C.1<|Xr C U U<|Rm C U U<|Rm C U U<|R.int C U U U U b_neq<|R.done C<|X.cond C.1 U (fun hq=>?_) (fun hq=>?_)
  ·have hq':i≠j:=by simp at hq;omega
   rw [if_pos hq'] at hstep
   refine X.region C U U<|Rm C U U<|Rm C U U<|Rm C U U<|Rx C U U U runUnderlying28 sizeOf3<|R.loadOneRo C U U U isAgg3 hropl hx<|R.buildSlice C (vs:=_) U U (show pvals _ _=some (numbered 0 [_]) from rfl) U runUnderlying28 sizeOf3 zeroValue3 (by decide) (Cat.one U U) fun p21=>R.append1 (kk:=1) C U U U U runUnderlying28 runUnderlying28 (fun _=>nofun) (show prog.info? 3=some Tryz.t3 by kernel_rfl) U U U (by decide) (by decide) (hb2.app _) U U (by simp only [List.length_append,List.length_cons,List.length_nil];omega) fun v' own' hb'=>Ad C U U<|X.inBlock C.1<|X.region C U U<|Rm C U U<|Ra C U U U<|Ad C U U ?_
   obtain⟨own3,rfl,hb3⟩:=Buf.unapp (tail:= []) hb'
   have hcat:((l.take i).eraseIdx j).flatMap ic++ [Value.int .i64 x]=((l.take (i+1)).eraseIdx j).flatMap ic:=by rw [hstep,List.flatMap_append];rfl
   rw [hcat] at hb3
   refine X.weaken ?_ (hnext (i+1,_,own3) ⟨hi',hb3⟩ (by omega))
   exact⟨rfl,rfl,rfl,by simp [look],trivial⟩
  ·have hq':¬i≠j:=by simp at hq;omega
   rw [if_neg hq',List.append_nil] at hstep
   refine X.skip C.1<|X.inBlock C.1<|X.region C U U<|Rm C U U<|Ra C U U U<|Ad C U U<|X.weaken ?_ (hnext (i+1,v2,own2) ⟨hi',by rw [hstep];exact hb2⟩ (by omega))
   exact⟨rfl,rfl,rfl,by simp [look],trivial⟩
 ·obtain rfl:i=l.length:=by omega
  rw [List.take_length] at hb2
  refine X.exit C.1 U<|Xr C U U<|R.finish C.1 ic_len (by decide) (hb2.app _) fun ro4 hl4 hls4=>Rm C U U<|Ad C U U<|Xt C func63<|Hr hret hl4 ?_
  exact hls4
theorem smallerR_c{va vb:Value}{ro:RO}{a d:List Int}(ha:LsI ro va a)(hc:LsI ro vb d)(h1:a.length≤1000000)(h2:d.length≤1000000):CallP prog J (fnv 65) [va,vb] ro (.bool (smaller a d)):=by
 have ha0:=ha
 have hc0:=hc
 obtain⟨ab,ac,rfl⟩:=ha.form
 obtain⟨db,dc,rfl⟩:=hc.form
 have hsm:smaller a d=(decide ((a.length:Int)<d.length)||(((a.length:Int)==d.length) && earlier a d)):=by
  unfold smaller earlier
  congr 1
  ·rw [decide_eq_decide];omega
  ·congr 1
   rw [Bool.eq_iff_iff];simp
   omega
 rw [hsm]
 refine CallP.intro hJ (by kernel_rfl) fun c cs tail hret=>enter_X (n:=22) func65 U U (Nl U) ?_
 have C:Ctx prog main J (bf 65 .normal):=⟨hJ,by decide⟩
 refine Xr C U U<|Ad C U U<|Xr C U U<|Rm C U U<|Rn C U U runUnderlying28<|Rm C U U<|Rn C U U runUnderlying28<|R.int C U U U U b_lss<|Rm C U U<|R.fix (t:=10) U (fun q1=>?_) (fun q1=>?_)
 ·refine R.pass C U U<|R.pass C U U<|R.pass C U U<|R.pass C U U<|R.pass C U U<|R.pass C U U<|R.pass C U U<|R.pass C U U<|R.pass C U U<|R.pass C U U<|R.pickT C U U U U<|Ad C U U<|Xt C func65<|Hp hret ?_
  first|(simp_all [retVal];done)
 ·refine Rm C U U<|Rn C U U runUnderlying28<|Rm C U U<|Rn C U U runUnderlying28<|R.int C U U U U b_eql<|Rm C U U<|R.fix (t:=16) U (fun q2=>?_) (fun q2=>?_)
  ·refine Rm C U U<|Rm C U U<|R.callP C U U U U (earlier_c hJ ha0 hc0 h1 h2)<|R.pickT C U U U U<|R.pickF C U U U U<|Ad C U U<|Xt C func65<|Hp hret ?_
   first|(simp_all [retVal];done)
  ·refine R.pass C U U<|R.pass C U U<|R.pass C U U<|R.pickF C U U U U<|R.pickF C U U U U<|Ad C U U<|Xt C func65<|Hp hret ?_
   first|(simp_all [retVal];done)
end
end Go.Lg.B
namespace Go.Lg.B
open Go Go.Conc Go.Lg Go.Proofs Go.Proofs.Tryz
def liftsOne(b:Bk)(l:List Int)(p:Nat):Bool:=l.any fun g=>may b g p==1
def liftedL(b:Bk)(l:List Int):Bool:=(List.range b.cs.length).all (liftsOne b l)
theorem bitsFrom_mem(mask:Nat)(x:Int):∀ (m i:Nat),x∈bitsFrom mask i m↔ ∃j:Nat,i≤j∧j<i+m∧mask.testBit j=true∧x=j
 |0,i=>by
  simp only [bitsFrom,List.not_mem_nil,false_iff]
  rintro⟨j,h1,h2,_⟩;omega
 |m+1,i=>by
  have ih:=bitsFrom_mem mask x m (i+1)
  rw [bitsFrom]
  split
  ·rename_i h
   rw [List.mem_cons,ih]
   constructor
   ·rintro(rfl|⟨j,h1,h2,h3,h4⟩)
    ·exact⟨i,by omega,by omega,h,rfl⟩
    ·exact⟨j,by omega,by omega,h3,h4⟩
   ·rintro⟨j,h1,h2,h3,h4⟩
    by_cases e:j=i
    ·subst e;exact .inl h4
    ·exact .inr ⟨j,by omega,by omega,h3,h4⟩
  ·rename_i h
   rw [ih]
   constructor
   ·rintro⟨j,h1,h2,h3,h4⟩;exact⟨j,by omega,by omega,h3,h4⟩
   ·rintro⟨j,h1,h2,h3,h4⟩
    by_cases e:j=i
    ·subst e;exact absurd h3 h
    ·exact⟨j,by omega,by omega,h3,h4⟩
theorem bitsFrom_asc(mask:Nat):∀ (m i:Nat),(bitsFrom mask i m).Pairwise (· < ·)
 |0,_=> .nil
 |m+1,i=>by
  rw [bitsFrom]
  split
  ·refine List.pairwise_cons.2 ⟨fun x hx=>?_,bitsFrom_asc mask m (i+1)⟩
   obtain⟨j,h1,_,_,rfl⟩:=(bitsFrom_mem mask x m (i+1)).1 hx
   omega
  ·exact bitsFrom_asc mask m (i+1)
theorem listOf_mem{n mask:Nat}{x:Int}:x∈listOf n mask↔ ∃j:Nat,j<n∧mask.testBit j=true∧x=j:=by
 rw [listOf,bitsFrom_mem]
 constructor
 ·rintro⟨j,_,h2,h3,h4⟩;exact⟨j,by omega,h3,h4⟩
 ·rintro⟨j,h2,h3,h4⟩;exact⟨j,by omega,by omega,h3,h4⟩
theorem listOf_asc(n mask:Nat):(listOf n mask).Pairwise (· < ·):=bitsFrom_asc mask n 0
def maskL:List Int→Nat
 | []=>0
 |k::l=>2^k.toNat|||maskL l
theorem maskL_bit(i:Nat):∀ {l:List Int},(∀k∈l,0≤k)→((maskL l).testBit i=true↔(i:Int)∈l)
 | [],_=>by simp [maskL]
 |k::l,h=>by
  have hk:=h k (by simp)
  rw [maskL,Nat.testBit_or,Bool.or_eq_true,maskL_bit i (fun x hx=>h x (by simp [hx])),Nat.testBit_two_pow,decide_eq_true_eq,List.mem_cons]
  constructor
  ·rintro(h1|h1)
   ·exact .inl (by omega)
   ·exact .inr h1
  ·rintro(h1|h1)
   ·exact .inl (by omega)
   ·exact .inr h1
theorem maskL_lt{n:Nat}:∀ {l:List Int},(∀k∈l,0≤k∧k<n)→maskL l<2^n
 | [],_=>Nat.two_pow_pos n
 |k::l,h=>by
  have hk:=h k (by simp)
  exact Nat.or_lt_two_pow (Nat.pow_lt_pow_right (by omega) (by omega)) (maskL_lt fun x hx=>h x (by simp [hx]))
theorem listOf_mask{n:Nat}{l:List Int}(ha:l.Pairwise (· < ·))(h:∀k∈l,0≤k∧k<n):listOf n (maskL l)=l:=by
 refine asc_unique (listOf_asc _ _) ha fun x=>?_
 rw [listOf_mem]
 constructor
 ·rintro⟨j,_,h2,rfl⟩
  exact(maskL_bit j fun k hk=>(h k hk).1).1 h2
 ·intro hx
  have:=h x hx
  exact⟨x.toNat,by omega,(maskL_bit x.toNat fun k hk=>(h k hk).1).2 (by rw [show((x.toNat:Nat):Int)=x by omega];exact hx),by omega⟩
theorem smaller_iff{a c:List Int}:smaller a c=true↔a.length<c.length∨a.length=c.length∧cmpL a c<0:=by simp [smaller]
theorem cmpL_trans:∀ {a c e:List Int},cmpL a c<0→cmpL c e<0→cmpL a e<0
 | [], [],_,h,_=>by simp [cmpL] at h
 | [],_::_, [],_,h=>by simp [cmpL] at h
 | [],_::_,_::_,_,_=>by simp [cmpL]
 |_::_, [],_,h,_=>by simp [cmpL] at h
 |_::_,_::_, [],_,h=>by simp [cmpL] at h
 |x::xs,y::ys,z::zs,h1,h2=>by
  simp only [cmpL] at h1 h2⊢
  by_cases e1:cmpI x y=0
  ·rw [if_neg (by simp [e1])] at h1
   have:=cmpI_zero.1 e1
   subst this
   by_cases e2:cmpI x z=0
   ·rw [if_neg (by simp [e2])] at h2⊢
    exact cmpL_trans h1 h2
   ·rw [if_pos e2] at h2⊢;exact h2
  ·rw [if_pos e1] at h1
   have h3:=cmpI_neg.1 h1
   by_cases e2:cmpI y z=0
   ·have:=cmpI_zero.1 e2
    subst this
    rw [if_pos e1];exact h1
   ·rw [if_pos e2] at h2
    have h4:=cmpI_neg.1 h2
    have h5:cmpI x z<0:=cmpI_neg.2 (by omega)
    rw [if_pos (by omega)];exact h5
theorem smaller_trans{a c e:List Int}(h1:smaller a c=true)(h2:smaller c e=true):smaller a e=true:=by
 rw [smaller_iff] at*
 rcases h1 with h1|⟨h1,h1'⟩
 ·rcases h2 with h2|⟨h2,_⟩<;>exact .inl (by omega)
 ·rcases h2 with h2|⟨h2,h2'⟩
  ·exact .inl (by omega)
  ·exact .inr ⟨by omega,cmpL_trans h1' h2'⟩
theorem smaller_irr(a:List Int):¬smaller a a=true:=by rw [smaller_iff,cmpL_refl];omega
theorem smaller_total{a c:List Int}(h1:¬smaller a c=true)(h2:¬smaller c a=true):a=c:=by
 rw [smaller_iff] at*
 have h3:=cmpL_flip a c
 refine cmpL_zero ?_
 have e1:a.length=c.length:=by omega
 have e2:¬cmpL a c<0:=fun h=>h1 (.inr ⟨e1,h⟩)
 have e3:¬cmpL c a<0:=fun h=>h2 (.inr ⟨e1.symm,h⟩)
 omega
theorem offer_least:∀ (l:List (List Int)) (o:List Int),∃y,l.foldl offer (some o)=some y∧(y=o∨y∈l)∧(∀x,x=o∨x∈l→¬smaller x y=true)
 | [],o=>⟨o,rfl, .inl rfl,fun x hx=>by
  rcases hx with rfl|hx
  ·exact smaller_irr _
  ·cases hx⟩
 |x::l,o=>by
  rw [List.foldl_cons,offer]
  by_cases h:smaller x o=true
  ·rw [if_pos h]
   obtain⟨y,h1,h2,h3⟩:=offer_least l x
   refine⟨y,h1, ?_,fun z hz=>?_⟩
   ·rcases h2 with rfl|h2
    ·exact .inr (by simp)
    ·exact .inr (by simp [h2])
   ·rcases hz with rfl|hz
    ·exact fun hz=>h3 x (.inl rfl) (smaller_trans h hz)
    ·rcases List.mem_cons.1 hz with rfl|hz
     ·exact h3 _ (.inl rfl)
     ·exact h3 z (.inr hz)
  ·rw [if_neg h]
   obtain⟨y,h1,h2,h3⟩:=offer_least l o
   refine⟨y,h1, ?_,fun z hz=>?_⟩
   ·rcases h2 with rfl|h2
    ·exact .inl rfl
    ·exact .inr (by simp [h2])
   ·rcases hz with rfl|hz
    ·exact h3 _ (.inl rfl)
    ·rcases List.mem_cons.1 hz with rfl|hz
     ·intro hz
      have h4:=h3 o (.inl rfl)
      by_cases h5:smaller o z=true
      ·exact h4 (smaller_trans h5 hz)
      ·rw [smaller_total h h5] at hz
       exact h4 hz
     ·exact h3 z (.inr hz)
theorem fewestOf_none{n:Nat}{is:Nat→Bool}(h:∀m,m<2^n→is m=false):fewestOf n is=none:=by
 have:(List.range (2^n)).filter is= []:=by
  rw [List.filter_eq_nil_iff]
  intro m hm
  rw [h m (List.mem_range.1 hm)];simp
 rw [fewestOf,this];rfl
theorem fewestOf_some{n:Nat}{is:Nat→Bool}{m:Nat}(hm:m<2^n)(h:is m=true):∃y,fewestOf n is=some y∧(∃m',m'<2^n∧is m'=true∧y=listOf n m')∧∀m',m'<2^n→is m'=true→¬smaller (listOf n m') y=true:=by
 have hmem:m∈(List.range (2^n)).filter is:=List.mem_filter.2 ⟨List.mem_range.2 hm,h⟩
 have hall:∀m',m'∈(List.range (2^n)).filter is↔m'<2^n∧is m'=true:=fun m'=>by rw [List.mem_filter,List.mem_range]
 unfold fewestOf
 generalize(List.range (2^n)).filter is=L at hmem hall
 cases L with
 |nil=>cases hmem
 |cons k L=>
  obtain⟨y,h1,h2,h3⟩:=offer_least (L.map (listOf n)) (listOf n k)
  refine⟨y,by simpa [offer] using h1, ?_,fun m' hm' his=>?_⟩
  ·rcases h2 with rfl|h2
   ·have:=(hall k).1 (by simp)
    exact⟨k,this.1,this.2,rfl⟩
   ·obtain⟨m',hm',rfl⟩:=List.mem_map.1 h2
    have:=(hall m').1 (by simp [hm'])
    exact⟨m',this.1,this.2,rfl⟩
  ·have:=(hall m').2 ⟨hm',his⟩
   rcases List.mem_cons.1 this with rfl|this
   ·exact h3 _ (.inl rfl)
   ·exact h3 _ (.inr (List.mem_map_of_mem this))
theorem renew_zero(p:List Int):renew 0 p=p:=by
 have:∀ (l:List Int) (i:Nat),renewGo 0 i l=l:=fun l=>by
  induction l with
  |nil=>exact fun _=>rfl
  |cons x l ih=>exact fun i=>by simp [renewGo,ih]
 exact this p 0
theorem lifted_list{b:Bk}(hne:cases b≠ [])(m:Nat):lifted b (sureM b 0) m=liftedL b (listOf b.gs.length m):=by
 unfold lifted liftedL
 have key:∀p,p<b.cs.length→((List.range b.gs.length).any fun g=>m.testBit g && sureM b 0 g p)=liftsOne b (listOf b.gs.length m) p:=fun p hp=>by
  have e:∀g:Nat,sure b 0 g p=decide (may b g p=1):=fun g=>by
   rw [Bool.eq_iff_iff,decide_eq_true_eq,may,how_one (List.length_pos_iff.2 hne),filter_all]
   have:(fun t:Tn=>lifts b (renew 0 (pad 4 t.1)) g (nth t.2 p))=fun t=>lifts b t.1 g (nth t.2 p):=by
    funext t;rw [renew_zero,lifts_pad]
   rw [sure,this]
  unfold liftsOne
  rw [Bool.eq_iff_iff,List.any_eq_true,List.any_eq_true]
  constructor
  ·rintro⟨g,h1,h2⟩
   simp only [sureM,Bool.and_eq_true,decide_eq_true_eq,e] at h2
   exact⟨(g:Int),listOf_mem.2 ⟨g,List.mem_range.1 h1,h2.1,rfl⟩,by simpa using h2.2.2.2⟩
  ·rintro⟨x,h1,h2⟩
   obtain⟨g,h3,h4,rfl⟩:=listOf_mem.1 h1
   refine⟨g,List.mem_range.2 h3, ?_⟩
   simp only [sureM,Bool.and_eq_true,decide_eq_true_eq,e]
   exact⟨h4,h3,hp,by simpa using h2⟩
 rw [Bool.eq_iff_iff,List.all_eq_true,List.all_eq_true]
 exact⟨fun h p hp=>by rw [←key p (List.mem_range.1 hp)];exact h p hp,fun h p hp=>by rw [key p (List.mem_range.1 hp)];exact h p hp⟩
theorem liftedL_mono{b:Bk}{a c:List Int}(h:∀x∈a,x∈c)(hl:liftedL b a=true):liftedL b c=true:=by
 unfold liftedL liftsOne at*
 rw [List.all_eq_true] at hl⊢
 intro p hp
 have:=hl p hp
 rw [List.any_eq_true] at this⊢
 obtain⟨g,h1,h2⟩:=this
 exact⟨g,h g h1,h2⟩
theorem fewest_law{b:Bk}(hne:cases b≠ []):
  (fewestOf b.gs.length (lifted b (sureM b 0))=none∧∀x:List Int,x.Pairwise (· < ·)→(∀k∈x,0≤k∧k<(b.gs.length:Int))→liftedL b x=false)∨
  ∃y,fewestOf b.gs.length (lifted b (sureM b 0))=some y∧y.Pairwise (· < ·)∧(∀k∈y,0≤k∧k<(b.gs.length:Int))∧liftedL b y=true∧∀x:List Int,x.Pairwise (· < ·)→(∀k∈x,0≤k∧k<(b.gs.length:Int))→liftedL b x=true→¬smaller x y=true:=by
 have hm:∀x:List Int,x.Pairwise (· < ·)→(∀k∈x,0≤k∧k<(b.gs.length:Int))→maskL x<2^b.gs.length∧listOf b.gs.length (maskL x)=x∧lifted b (sureM b 0) (maskL x)=liftedL b x:=fun x h1 h2=>by
  have h3:=listOf_mask h1 h2
  exact⟨maskL_lt h2,h3,by rw [lifted_list hne,h3]⟩
 by_cases h:∃m,m<2^b.gs.length∧lifted b (sureM b 0) m=true
 ·obtain⟨m,h1,h2⟩:=h
  obtain⟨y,h3,⟨m',h4,h5,rfl⟩,h6⟩:=fewestOf_some h1 h2
  refine .inr ⟨_,h3,listOf_asc _ _,fun k hk=>?_,by rw [←lifted_list hne];exact h5,fun x hx1 hx2 hx3=>?_⟩
  ·obtain⟨j,h7,_,rfl⟩:=listOf_mem.1 hk;omega
  ·obtain⟨k1,k2,k3⟩:=hm x hx1 hx2
   have:=h6 _ k1 (by rw [k3];exact hx3)
   rwa [k2] at this
 ·refine .inl ⟨fewestOf_none fun m hm=>?_,fun x hx1 hx2=>?_⟩
  ·cases e:lifted b (sureM b 0) m
   ·rfl
   ·exact absurd ⟨m,hm,e⟩ h
  ·obtain⟨k1,k2,k3⟩:=hm x hx1 hx2
   cases e:liftedL b x
   ·rfl
   ·exact absurd ⟨_,k1,k3.trans e⟩ h
theorem rz_asc:∀ (m:Nat) (n:Int),(rz n m).Pairwise (· < ·)
 |0,_=> .nil
 |m+1,n=>List.pairwise_cons.2 ⟨fun x hx=>by have:=mem_rz.1 hx;omega,rz_asc m (n+1)⟩
section
variable {main:Bool}{J:Goroutine→Mem→Prop}(hJ:Closed prog main J)
include hJ
end
theorem some_asc(o n:Nat):(someL o n).Pairwise (· < ·):=(rz_asc n 0).filter _
theorem some_bd(o n:Nat):∀k∈someL o n,0≤k∧k<(n:Int):=fun k hk=>by
 have:=mem_rz.1 (List.mem_filter.1 hk).1;omega
theorem erase_smaller{l:List Int}{i:Nat}(h:i<l.length):smaller (l.eraseIdx i) l=true:=by
 rw [smaller_iff,List.length_eraseIdx_of_lt h];omega
end Go.Lg.B
namespace Go.Lg.B
open Go Go.Conc Go.Lg Go.Proofs Go.Proofs.Tryz
theorem fewestOf_law{n:Nat}{is:Nat→Bool}{P:List Int→Bool}(h:∀m,m<2^n→is m=P (listOf n m)):
  (fewestOf n is=none∧∀x:List Int,x.Pairwise (· < ·)→(∀k∈x,0≤k∧k<(n:Int))→P x=false)∨
  ∃y,fewestOf n is=some y∧y.Pairwise (· < ·)∧(∀k∈y,0≤k∧k<(n:Int))∧P y=true∧∀x:List Int,x.Pairwise (· < ·)→(∀k∈x,0≤k∧k<(n:Int))→P x=true→¬smaller x y=true:=by
 have hm:∀x:List Int,x.Pairwise (· < ·)→(∀k∈x,0≤k∧k<(n:Int))→maskL x<2^n∧listOf n (maskL x)=x∧is (maskL x)=P x:=fun x h1 h2=>by
  have h3:=listOf_mask h1 h2
  exact⟨maskL_lt h2,h3,by rw [h _ (maskL_lt h2),h3]⟩
 by_cases hq:∃m,m<2^n∧is m=true
 ·obtain⟨m,h1,h2⟩:=hq
  obtain⟨y,h3,⟨m',h4,h5,rfl⟩,h6⟩:=fewestOf_some h1 h2
  refine .inr ⟨_,h3,listOf_asc _ _,fun k hk=>?_,by rw [←h _ h4];exact h5,fun x hx1 hx2 hx3=>?_⟩
  ·obtain⟨j,h7,_,rfl⟩:=listOf_mem.1 hk;omega
  ·obtain⟨k1,k2,k3⟩:=hm x hx1 hx2
   have:=h6 _ k1 (by rw [k3];exact hx3)
   rwa [k2] at this
 ·refine .inl ⟨fewestOf_none fun m hm=>?_,fun x hx1 hx2=>?_⟩
  ·cases e:is m
   ·rfl
   ·exact absurd ⟨m,hm,e⟩ hq
  ·obtain⟨k1,k2,k3⟩:=hm x hx1 hx2
   cases e:P x
   ·rfl
   ·exact absurd ⟨_,k1,k3.trans e⟩ hq
theorem spread_ne{rs:List Rc}(h:∀r∈rs,r.lo≤r.hi):spread rs≠ []:=by
 have:rs.map (fun r=>r.lo)∈spread rs:=mem_spread.2 ⟨by simp,fun i r hr=>⟨r.lo,by simp [hr],Int.le_refl _,h r (List.mem_of_getElem? hr)⟩⟩
 intro e;rw [e] at this;cases this
theorem weightsL_ne{b:Bk}(hb:b.good):weightsL b≠ []:=spread_ne fun r hr=>by
 obtain⟨c,hc,rfl⟩:=List.mem_map.1 hr
 have:=hb.cs c hc
 unfold Pc.fine at this;omega
theorem cases_nil{b:Bk}(hb:b.good):cases b= []↔bearsL b= []:=by
 constructor
 ·intro h
  rw [List.eq_nil_iff_forall_not_mem] at h⊢
  intro p hp
  cases hw:weightsL b with
  |nil=>exact weightsL_ne hb hw
  |cons w ws=>exact h (p,w) (mem_cases.2 ⟨hp,by rw [hw];simp⟩)
 ·intro h
  unfold cases
  rw [h];rfl
theorem bare_cases{b:Bk}(hb:b.good)(ht:b.ts= []):cases b≠ []:=by
 rw [Ne,cases_nil hb]
 have hr:∀p,right b p=true:=fun p=>by unfold right;rw [ht];rfl
 have h1:spread (b.ps.map Pt.r)≠ []:=spread_ne fun r hr=>by
  obtain⟨c,hc,rfl⟩:=List.mem_map.1 hr
  have:=hb.ps c hc
  unfold Pt.fine at this;omega
 unfold bearsL
 rw [List.filter_eq_self.2 (fun p _=>hr p)]
 exact h1
theorem pullsGo_alike{b c:Bk}(h:∀x,b.sheaves x=c.sheaves x):∀ (q:List Int) (n:Int),pullsGo b n q=pullsGo c n q
 | [],_=>rfl
 |x::q,n=>by rw [pullsGo,pullsGo,h,pullsGo_alike h q]
theorem gives_alike{b c:Bk}(hw:b.w=c.w)(hg:b.gs=c.gs)(h:∀x,b.sheaves x=c.sheaves x)(p:List Int)(g n:Int):gives b p g n=gives c p g n:=by
 have e:∀g,b.gear g=c.gear g:=fun g=>by unfold Bk.gear;rw [hg]
 unfold gives pulls
 rw [hw,e,pullsGo_alike h]
theorem lifts_alike{b c:Bk}(hw:b.w=c.w)(hg:b.gs=c.gs)(h:∀x,b.sheaves x=c.sheaves x)(p:List Int)(g n:Int):lifts b p g n=lifts c p g n:=by
 unfold lifts;rw [gives_alike hw hg h]
theorem gives_congr{b:Bk}(hb:b.good){p q:List Int}(h:∀i:Nat,i<b.ps.length→nth p i=nth q i){g:Int}(h0:0≤g)(h1:g<b.gs.length)(n:Int):gives b p g n=gives b q g n:=by
 unfold gives
 congr 2
 refine List.filter_congr fun i hi=>?_
 have hi:=List.mem_range.1 hi
 have hgm:=(hb.gear h0 h1).2.1
 generalize b.gear g=L at hi hgm⊢
 have e:L.getD i 0=L[i]:=by simp [List.getD_eq_getElem?_getD,hi]
 have hx:=hgm _ (List.getElem_mem hi)
 unfold givesP
 rw [e]
 have:=h (L[i]).toNat (by omega)
 rw [show(((L[i]).toNat:Nat):Int)=L[i] by omega] at this
 rw [this]
theorem lifts_congr{b:Bk}(hb:b.good){p q:List Int}(h:∀i:Nat,i<b.ps.length→nth p i=nth q i){g:Int}(h0:0≤g)(h1:g<b.gs.length)(n:Int):lifts b p g n=lifts b q g n:=by
 unfold lifts;rw [gives_congr hb h h0 h1]
theorem nth_nat(l:List Int)(i:Nat):nth l i=l.getD i 0:=rfl
theorem renewGo_get(m:Nat):∀ (l:List Int) (s i:Nat),(renewGo m s l)[i]? =l[i]?.map fun x=>if m.testBit (s+i) then 99 else x
 | [],_,_=>by simp [renewGo]
 |x::l,s,0=>by simp [renewGo]
 |x::l,s,i+1=>by
  rw [renewGo,List.getElem?_cons_succ,renewGo_get m l (s+1) i,List.getElem?_cons_succ,show s+1+i=s+(i+1) by omega]
theorem nth_renew(m:Nat)(l:List Int){i:Nat}(h:i<l.length):nth (renew m l) i=if m.testBit i then 99 else nth l i:=by
 rw [nth_nat,nth_nat,List.getD_eq_getElem?_getD,renew,renewGo_get,Nat.zero_add,List.getD_eq_getElem?_getD,List.getElem?_eq_getElem h]
 rfl
theorem parts_borne:∀ {l:List Pt} {before:List (List UInt8)} {i:Nat} {r:Rc},isNarrow r 0=true→partsGo before l=0→partsGo before (l.modify i fun p=>{p with r:=r})=0
 | [],_,i,_,_,_=>by simp [partsGo]
 |x::l,before,i,r,hr,h=>by
  simp only [partsGo] at h
  obtain⟨h1,h⟩:=ite_same h
  obtain⟨h2,h⟩:=ite_zero (by decide) h
  simp only [Bool.or_eq_true,Bool.not_eq_true',not_or,Bool.not_eq_false] at h2
  cases i with
  |zero=>
   rw [List.modify_zero_cons]
   simp only [partsGo]
   rw [if_neg (by simp [h1]),if_neg (by simp [h2.1,hr])]
   exact h
  |succ i=>
   rw [List.modify_succ_cons]
   simp only [partsGo]
   rw [if_neg (by simp [h1]),if_neg (by simp [h2.1,h2.2])]
   exact parts_borne hr h
theorem check_borne{b:Bk}(hch:checkBook b=0)(i:Nat){r:Rc}(hr:isNarrow r 0=true):checkBook (b.borne i r)=0:=by
 obtain⟨w,p,g,c,t⟩:=check_parts hch
 have hlen:(b.borne i r).ps.length=b.ps.length:=List.length_modify ..
 have hp:(b.borne i r).partsH=0:=by
  unfold Bk.partsH at p⊢
  obtain⟨p1,p2⟩:=ite_zero (by decide) p
  rw [hlen,if_neg p1]
  exact parts_borne hr p2
 have hg:(b.borne i r).gearsH=0:=by
  unfold Bk.gearsH at g⊢
  rw [hlen];exact g
 have hw:(b.borne i r).winchH=0:=w
 have hc:(b.borne i r).piecesH=0:=c
 have ht:(b.borne i r).testsH=0:=t
 unfold checkBook
 rw [hw,hp,hg,hc,ht];rfl
theorem borne_sheaves(b:Bk)(i:Nat)(r:Rc)(x:Int):(b.borne i r).sheaves x=b.sheaves x:=by
 unfold Bk.sheaves Bk.borne
 simp only [List.getD_eq_getElem?_getD,List.getElem?_modify]
 cases b.ps[x.toNat]? with
 |none=>rfl
 |some q=>by_cases e:i=x.toNat<;>simp [e]
def Bk.noTests(b:Bk):Bk:={b with ts:= [] }
def Bk.renL(b:Bk)(l:List Int):Bk:=l.foldl (fun o k=>o.borne k.toNat ⟨99,99⟩) b
structure RenOk(b c:Bk)(l:List Int):Prop where
 w:c.w=b.w
 gs:c.gs=b.gs
 cs:c.cs=b.cs
 ts:c.ts=b.ts
 np:c.ps.length=b.ps.length
 sh:∀x,c.sheaves x=b.sheaves x
 ps:∀i:Nat,c.ps[i]? =b.ps[i]?.map fun p=>if(i:Int)∈l then {p with r:=⟨99,99⟩ } else p
 ch:checkBook b=0→checkBook c=0
theorem renL_ok:∀ (l:List Int) (b:Bk),(∀k∈l,0≤k)→RenOk b (b.renL l) l
 | [],b,_=>⟨rfl,rfl,rfl,rfl,rfl,fun _=>rfl,fun i=>by simp [Bk.renL],fun h=>h⟩
 |k::l,b,h=>by
  have hk:=h k (by simp)
  have ih:=renL_ok l (b.borne k.toNat ⟨99,99⟩) fun x hx=>h x (by simp [hx])
  have e:b.renL (k::l)=(b.borne k.toNat ⟨99,99⟩).renL l:=rfl
  rw [e]
  refine⟨ih.w,ih.gs,ih.cs,ih.ts,ih.np.trans (List.length_modify ..),fun x=>(ih.sh x).trans (borne_sheaves ..),fun i=>?_,fun hc=>ih.ch (check_borne hc _ (by decide))⟩
  rw [ih.ps]
  have e2:(b.borne k.toNat ⟨99,99⟩).ps[i]? =b.ps[i]?.map fun p=>if k.toNat=i then {p with r:=⟨99,99⟩ } else p:=by
   unfold Bk.borne
   simp only [List.getElem?_modify]
   by_cases e:k.toNat=i<;>cases b.ps[i]? <;>simp [e]
  rw [e2,Option.map_map]
  congr 1
  funext p
  simp only [Function.comp,List.mem_cons]
  by_cases e:k.toNat=i
  ·have:(i:Int)=k:=by omega
   simp [e,this]
  ·have:¬(i:Int)=k:=by omega
   simp [e,this]
theorem mem_bare{b:Bk}(ht:b.ts= []){p:List Int}:p∈bearsL b↔p∈spread (b.ps.map Pt.r):=by
 have hr:∀p,right b p=true:=fun p=>by unfold right;rw [ht];rfl
 unfold bearsL
 rw [List.filter_eq_self.2 (fun p _=>hr p)]
theorem nth_in{p:List Int}{i:Nat}{x:Int}(h:p[i]? =some x):nth p i=x:=by
 rw [nth_nat,List.getD_eq_getElem?_getD,h];rfl
theorem sure_ren{b c:Bk}{l:List Int}(hb:b.good)(ht:b.ts= [])(hc:RenOk b c l){m:Nat}(hm:∀i:Nat,i<b.ps.length→(m.testBit i=true↔(i:Int)∈l)){g p:Nat}(hg:g<b.gs.length):sure b m g p=(cases c).all fun t=>lifts c t.1 g (nth t.2 p):=by
 have hg0:0≤(g:Int):=by omega
 have hg1:(g:Int)<b.gs.length:=by omega
 have hl:∀q n,lifts c q g n=lifts b q g n:=fun q n=>lifts_alike hc.w hc.gs hc.sh q g n
 have hw:weightsL c=weightsL b:=by unfold weightsL;rw [hc.cs]
 have hct:c.ts= []:=hc.ts.trans ht
 have hnp:=hb.np
 unfold sure
 rw [Bool.eq_iff_iff,List.all_eq_true,List.all_eq_true]
 constructor
 ·intro h t h1
  obtain⟨h2,h3⟩:=mem_cases.1 h1
  rw [hw] at h3
  obtain⟨h4,h5⟩:=mem_spread.1 ((mem_bare hct).1 h2)
  have hlen:t.1.length=b.ps.length:=by rw [h4,List.length_map,hc.np]
  let q:List Int:=(b.ps.zipIdx).map fun z=>if(z.2:Int)∈l then z.1.r.lo else nth t.1 z.2
  have hqg:∀i (hi:i<b.ps.length),q[i]? =some (if(i:Int)∈l then(b.ps[i]).r.lo else nth t.1 i):=fun i hi=>by
   show(List.map _ _)[i]? =_
   rw [List.getElem?_map,List.getElem?_zipIdx,List.getElem?_eq_getElem hi]
   simp
  have hql:q.length=b.ps.length:=by show(List.map _ _).length=_;simp
  have hq:q∈spread (b.ps.map Pt.r):=mem_spread.2 ⟨by simpa using hql,fun i r hr=>by
   rw [List.getElem?_map] at hr
   obtain⟨x,hx,rfl⟩:=Option.map_eq_some_iff.1 hr
   obtain⟨hi,hxe⟩:=List.getElem?_eq_some_iff.1 hx
   refine⟨_,hqg i hi, ?_⟩
   have hf:=hb.ps x (List.mem_of_getElem? hx)
   unfold Pt.fine at hf
   by_cases e:(i:Int)∈l
   ·rw [if_pos e,hxe];omega
   ·rw [if_neg e]
    obtain⟨y,hy,h6⟩:=h5 i x.r (by rw [List.getElem?_map,hc.ps,hx];simp [e])
    rw [nth_in hy];exact h6⟩
  have:=h (q,t.2) (mem_cases.2 ⟨(mem_bare ht).2 hq,h3⟩)
  rw [hl, ←lifts_congr hb (p:=renew m (pad 4 q)) (fun i hi=>?_) hg0 hg1]
  ·exact this
  ·rw [nth_renew _ _ (by rw [pad_len (by omega)];omega),nth_pad,nth_in (hqg i hi)]
   by_cases e:(i:Int)∈l
   ·rw [if_pos ((hm i hi).2 e)]
    obtain⟨y,hy,h6⟩:=h5 i ⟨99,99⟩ (by rw [List.getElem?_map,hc.ps,List.getElem?_eq_getElem hi];simp [e])
    rw [nth_in hy];simp only at h6;omega
   ·rw [if_neg (fun h=>e ((hm i hi).1 h)),if_neg e]
 ·intro h t h1
  obtain⟨h2,h3⟩:=mem_cases.1 h1
  obtain⟨h4,h5⟩:=mem_spread.1 ((mem_bare ht).1 h2)
  have hlen:t.1.length=b.ps.length:=by rw [h4,List.length_map]
  let q:List Int:=(b.ps.zipIdx).map fun z=>if(z.2:Int)∈l then 99 else nth t.1 z.2
  have hqg:∀i (hi:i<b.ps.length),q[i]? =some (if(i:Int)∈l then 99 else nth t.1 i):=fun i hi=>by
   show(List.map _ _)[i]? =_
   rw [List.getElem?_map,List.getElem?_zipIdx,List.getElem?_eq_getElem hi]
   simp
  have hql:q.length=b.ps.length:=by show(List.map _ _).length=_;simp
  have hq:q∈spread (c.ps.map Pt.r):=mem_spread.2 ⟨by simpa [hc.np] using hql,fun i r hr=>by
   rw [List.getElem?_map,hc.ps] at hr
   obtain⟨x',hx',rfl⟩:=Option.map_eq_some_iff.1 hr
   obtain⟨x,hx,rfl⟩:=Option.map_eq_some_iff.1 hx'
   obtain⟨hi,hxe⟩:=List.getElem?_eq_some_iff.1 hx
   refine⟨_,hqg i hi, ?_⟩
   by_cases e:(i:Int)∈l
   ·rw [if_pos e,if_pos e];exact⟨Int.le_refl _,Int.le_refl _⟩
   ·rw [if_neg e,if_neg e]
    obtain⟨y,hy,h6⟩:=h5 i x.r (by rw [List.getElem?_map,hx];rfl)
    rw [nth_in hy];exact h6⟩
  have:=h (q,t.2) (mem_cases.2 ⟨(mem_bare hct).2 hq,by rw [hw];exact h3⟩)
  rw [hl] at this
  rw [lifts_congr hb (q:=q) (fun i hi=>?_) hg0 hg1]
  ·exact this
  ·rw [nth_renew _ _ (by rw [pad_len (by omega)];omega),nth_pad,nth_in (hqg i hi)]
   by_cases e:(i:Int)∈l
   ·rw [if_pos ((hm i hi).2 e),if_pos e]
   ·rw [if_neg (fun h=>e ((hm i hi).1 h)),if_neg e]
theorem may_all{b:Bk}(hne:cases b≠ []){g p:Nat}:may b g p=1↔((cases b).all fun t=>lifts b t.1 g (nth t.2 p))=true:=by
 rw [may,how_one (List.length_pos_iff.2 hne),filter_all]
def allGears(b:Bk):Bool:=liftedL b (rz 0 b.gs.length)
theorem fewest_found{b:Bk}(hne:cases b≠ []):(fewestOf b.gs.length (lifted b (sureM b 0))).isSome=allGears b:=by
 have hrb:∀k∈rz 0 b.gs.length,0≤k∧k<(b.gs.length:Int):=fun k hk=>by have:=mem_rz.1 hk;omega
 rcases fewest_law hne with⟨h,h1⟩|⟨y,h,h1,h2,h3,h4⟩
 ·rw [h];exact(h1 _ (rz_asc _ _) hrb).symm
 ·rw [h]
  exact(liftedL_mono (fun x hx=>mem_rz.2 (by have:=h2 x hx;omega)) h3).symm
def renOk(b:Bk)(l:List Int):Bool:=allGears (b.renL l)
theorem lifted_ren{b:Bk}(hch:checkBook b=0)(ht:b.ts= [])(m:Nat):lifted b (sureM b m) (2^b.gs.length-1)=renOk b (listOf b.ps.length m):=by
 have hb:=good_of hch
 have hc:=renL_ok (listOf b.ps.length m) b (fun k hk=>by obtain⟨j,_,_,rfl⟩:=listOf_mem.1 hk;omega)
 have hcg:=good_of (hc.ch hch)
 have hne:cases (b.renL (listOf b.ps.length m))≠ []:=bare_cases hcg (hc.ts.trans ht)
 unfold renOk
 generalize b.renL (listOf b.ps.length m)=c at hc hcg hne
 have hm:∀i:Nat,i<b.ps.length→(m.testBit i=true↔(i:Int)∈listOf b.ps.length m):=fun i hi=>by
  rw [listOf_mem]
  exact⟨fun h=>⟨i,hi,h,rfl⟩,fun⟨j,_,h,e⟩=>by rw [show i=j by omega];exact h⟩
 unfold allGears lifted liftedL liftsOne
 rw [hc.cs,hc.gs]
 have key:∀p,p<b.cs.length→(((List.range b.gs.length).any fun g=>(2^b.gs.length-1).testBit g && sureM b m g p)=true↔((rz 0 b.gs.length).any fun g=>may c g p==1)=true):=fun p hp=>by
  rw [List.any_eq_true,List.any_eq_true]
  constructor
  ·rintro⟨g,h1,h2⟩
   have hg:=List.mem_range.1 h1
   simp only [sureM,Bool.and_eq_true,decide_eq_true_eq] at h2
   refine⟨(g:Int),mem_rz.2 (by omega), ?_⟩
   rw [beq_iff_eq,may_all hne, ←sure_ren hb ht hc hm hg]
   exact h2.2.2.2
  ·rintro⟨x,h1,h2⟩
   have hx:=mem_rz.1 h1
   obtain⟨g,rfl⟩:=Int.eq_ofNat_of_zero_le hx.1
   have hg:g<b.gs.length:=by omega
   rw [beq_iff_eq,may_all hne, ←sure_ren hb ht hc hm hg] at h2
   refine⟨g,List.mem_range.2 hg, ?_⟩
   simp only [sureM,Bool.and_eq_true,decide_eq_true_eq,Nat.testBit_two_pow_sub_one]
   exact⟨hg,hg,hp,h2⟩
 rw [Bool.eq_iff_iff,List.all_eq_true,List.all_eq_true]
 exact⟨fun h p hp=>(key p (List.mem_range.1 hp)).1 (h p hp),fun h p hp=>(key p (List.mem_range.1 hp)).2 (h p hp)⟩
theorem renew_law{b:Bk}(hch:checkBook b=0)(ht:b.ts= []):
  ((renewR b).1=none∧∀x:List Int,x.Pairwise (· < ·)→(∀k∈x,0≤k∧k<(b.ps.length:Int))→renOk b x=false)∨
  ∃y,(renewR b).1=some y∧y.Pairwise (· < ·)∧(∀k∈y,0≤k∧k<(b.ps.length:Int))∧renOk b y=true∧∀x:List Int,x.Pairwise (· < ·)→(∀k∈x,0≤k∧k<(b.ps.length:Int))→renOk b x=true→¬smaller x y=true:=by
 have hop:=open_zero hch (bare_cases (good_of hch) ht)
 have e:(renewR b).1=fewestOf b.ps.length (fun mask=>lifted b (sureM b mask) (2^b.gs.length-1)):=by rw [renewR,hop];rfl
 rw [e]
 exact fewestOf_law fun m _=>lifted_ren hch ht m
theorem fewestR_found{b:Bk}(hch:checkBook b=0)(hne:cases b≠ []):(fewestR b).1.isSome=allGears b∧(fewestR b).2=0:=by
 have hop:=open_zero hch hne
 rw [fewestR,hop]
 exact⟨fewest_found hne,rfl⟩
theorem ones_ps(xs:List Pt):ones (xs.flatMap Pt.cells)=true:=ones_flat (fun _=>rfl) xs
section
variable {main:Bool}{J:Goroutine→Mem→Prop}(hJ:Closed prog main J)
include hJ
theorem borneR_c{b:Bk}{v:Value}{ro:RO}(hv:BkV ro v b)(hn:b.ps.length≤1000){i:Int}(hi:0≤i∧i<b.ps.length)(r:Rc):CallR prog J (fnv 75) [v, .int .i64 i,r.val] ro (fun w ro'=>BkV ro' w (b.borne i.toNat r)):=by
 obtain⟨vp,vg,vc,vt,rfl,hv⟩:=hv
 obtain⟨pb,pcap,rfl⟩:=hv.1.form
 obtain⟨gb,gcap,rfl⟩:=hv.2.1.form
 obtain⟨cb,ccap,rfl⟩:=hv.2.2.1.form
 obtain⟨tb,tcap,rfl⟩:=hv.2.2.2.form
 have hil:i.toNat<b.ps.length:=by omega
 have hfl:=flatMap_len Pt.len b.ps
 refine CallR.intro hJ (by kernel_rfl) fun c cs tail hret=>enter_X (n:=19) func75 U U (Nl U) ?_
 have C:Ctx prog main J (bf 75 .normal):=⟨hJ,by decide⟩
 refine Xr C U U<|R.box C U U U U fun p3=>R.box C U U U U fun p5=>R.alloc C U U zeroValue27 U fun p6=>R.done C<|Xr C U U<|R.buildSlice C (vs:=_) U U (show pvals _ _=some (numbered 0 []) from rfl) U runUnderlying22 sizeOf67 zeroValue67 (by decide) (.nil) fun p7=>Rf C 1 U U runUnderlying27 U sizeOf22<|Rl C U U isAgg22 (by repeat constructor) U<|R.append (kk:=4) C U U U U runUnderlying22 runUnderlying22 (fun _=>nofun) (show prog.info? 67=some Tryz.t67 by kernel_rfl) U U U (by decide) (by decide) (Buf.blk (cells:= []) (spare:= []) (len:=0) (cap:=0) U U (Nat.le_refl _)) (hv.1.rd Pt.len) (ones_ps b.ps) (by simp only [List.length_nil];omega) fun v' own' hb'=>Rf C 1 U U runUnderlying27 U sizeOf22 ?_
 obtain⟨own1,rfl,hb1⟩:=hb'.unapp (tail:= [])
 rw [List.nil_append] at hb1
 obtain⟨p9,cap9,sp9,rfl,hcap9,rfl⟩:=blk_of Pt.len (by decide) hb1 (by intro h;rw [h] at hil;exact absurd hil (Nat.not_lt_zero _))
 refine R.store C U U U U sizeOf22 U U U (by repeat constructor) (.skip (.here .nil)) ?_
 have hmf:=modify_flat (enc:=Pt.cells) (k:=4) Pt.len (fun p=>{p with r:=r}) b.ps i.toNat sp9 2 [.int .i64 r.lo, .int .i64 r.hi] hil (fun x _=> .skip (.skip Ph2))
 have hml:(b.ps.modify i.toNat fun p=>{p with r:=r}).length=b.ps.length:=by simp
 have eo:0+i.toNat*4+2=i.toNat*4+2:=by omega
 rw [←eo] at hmf
 refine R.done C<|Xr C U U<|Rf C 1 U U runUnderlying27 U sizeOf22<|Rl C U U isAgg22 (by repeat constructor) U<|Rm C U U<|R5 C U U isAgg65 sizeOf65 (by repeat constructor) Tk2<|Rx C U U U runUnderlying22 sizeOf67<|R.fieldAddr C U U U runUnderlying67 U sizeOf65 U<|R.store C U U U U sizeOf65 U U U (by repeat constructor) hmf<|R.done C<|Xs C<|X.persist C.1 fun ro4 hl4 h9=>?_
 have hls:Ls Pt.cells 4 ro4 (.slice (some ⟨p9,0,none⟩) b.ps.length cap9) (b.ps.modify i.toNat fun p=>{p with r:=r}):=⟨_,_,by rw [hml], .inr ⟨p9,0,_,_,_,rfl,h9,by rw [←flatMap_len Pt.len];exact Sub.front _ _⟩⟩
 have hv4:=hv.mono hl4
 refine X.region C U U<|R5 C U U isAgg27 sizeOf27 (by repeat constructor) Tk5<|R.store C U U U U sizeOf27 U U U (by repeat constructor) Ph5<|R.done C<|X.ret C U U func75 U (by exact(.agg U isAgg27 sizeOf27 (by repeat constructor) Tk5 .nil))<|Hr hret hl4 ?_
 exact⟨_,_,_,_,rfl,hls,hv4.2.1,hv4.2.2.1,hv4.2.2.2⟩
theorem renewedR_c{b:Bk}{v vl:Value}{ro:RO}{l:List Int}(hv:BkV ro v b)(hl:LsI ro vl l)(hn:l.length≤1000)(hg:∀k∈l,0≤k∧k<(b.ps.length:Int))(hnp:b.ps.length≤1000):CallR prog J (fnv 74) [v,vl] ro (fun w ro'=>BkV ro' w (b.noTests.renL l)):=by
 obtain⟨vp,vg,vc,vt,rfl,hv⟩:=hv
 obtain⟨pb,pcap,rfl⟩:=hv.1.form
 obtain⟨gb,gcap,rfl⟩:=hv.2.1.form
 obtain⟨cb,ccap,rfl⟩:=hv.2.2.1.form
 obtain⟨tb,tcap,rfl⟩:=hv.2.2.2.form
 have hl0:=hl
 obtain⟨lb,lc,rfl⟩:=hl.form
 refine CallR.intro hJ (by kernel_rfl) fun c cs tail hret=>enter_X (n:=23) func74 U U (Nl U) ?_
 have C:Ctx prog main J (bf 74 .normal):=⟨hJ,by decide⟩
 refine Xr C U U<|R.box C U U U U fun p2=>R.alloc C U U zeroValue27 U fun p4=>R.done C<|Xr C U U<|R5 C U U isAgg27 sizeOf27 (by repeat constructor) Tk5<|R.alloc C U U zeroValue27 U fun p5=>R.store C U U U U sizeOf27 U U U (by repeat constructor) Ph5<|R.done C<|Xr C U U<|Rf C 4 U U runUnderlying27 U sizeOf25<|R.store C U U U U sizeOf25 U U U (by repeat constructor) (.skip (.skip (.skip (.skip (.here .nil)))))<|R.done C<|Xs C<|Xr C U U<|Ad C U U<|X.block C.1<|X.loopI (ι:=Nat×RO×Value×Value×Value×Value) C.1 (fun s=>s.1≤l.length∧ro.le s.2.1∧BkP s.2.1 (b.noTests.renL (l.take s.1)) s.2.2.1 s.2.2.2.1 s.2.2.2.2.1 s.2.2.2.2.2)
  (fun s=> [(1, .slice lb l.length lc),(2, .pointer (some ⟨p2,0,none⟩)),(4, .pointer (some ⟨p4,0,none⟩)),(5, .pointer (some ⟨p5,0,none⟩)),(6, .int .i64 (s.1:Int))])
  (fun s=>⟨s.2.1,(p5, .cells [.int .i64 b.w,s.2.2.1,s.2.2.2.1,s.2.2.2.2.1,s.2.2.2.2.2].toArray 27 (0,0))::(p4, .cells [.int .i64 0, .slice none 0 0, .slice none 0 0, .slice none 0 0, .slice none 0 0].toArray 27 (0,0))::(p2, .cells [.int .i64 b.w, .slice pb b.ps.length pcap, .slice gb b.gs.length gcap, .slice cb b.cs.length ccap, .slice tb b.ts.length tcap].toArray 27 (0,0))::tail⟩) (fun s=>l.length-s.1) (0,ro,_,_,_, .slice none 0 0) ⟨Nat.zero_le _,RO.le_refl _,hv.1,hv.2.1,hv.2.2.1, .nil⟩ rfl ⟨U,U,U,U,U,trivial⟩ fun s hs' hnext=>?_
 obtain⟨i,ro1,vp1,vg1,vc1,vt1⟩:=s
 obtain⟨hi,hle,hb1⟩:=hs'
 simp only at hi hle hb1 hnext⊢
 have hro:=renL_ok (l.take i) b.noTests (fun k hk=>(hg k (List.mem_of_mem_take hk)).1)
 have hw1:(b.noTests.renL (l.take i)).w=b.w:=hro.w
 have hnp1:(b.noTests.renL (l.take i)).ps.length=b.ps.length:=hro.np
 obtain⟨pb1,pc1,rfl⟩:=hb1.1.form
 obtain⟨gb1,gc1,rfl⟩:=hb1.2.1.form
 obtain⟨cb1,cc1,rfl⟩:=hb1.2.2.1.form
 obtain⟨tb1,tc1,rfl⟩:=hb1.2.2.2.form
 refine Xs C<|Xr C U U<|Rm C U U<|Rm C U U<|Rn C U U runUnderlying28<|R.int C U U U U b_lss<|R.done C<|Xk C U (fun hlt=>?_) (fun hlt=>?_)
 ·have hi':i<l.length:=by omega
  obtain⟨pl,offl,capl,ll,tl,fql,hsll,hropl,hsubl⟩:=(hl0.mono hle).at ic_len (by omega)
  cases hsll
  have hat:=ic_at hsubl hi'
  have hgi:=hg _ (List.getElem_mem hi')
  have hstep:b.noTests.renL (l.take (i+1))=(b.noTests.renL (l.take i)).borne l[i].toNat ⟨99,99⟩:=by
   unfold Bk.renL
   rw [List.take_succ_eq_append_getElem hi',List.foldl_append];rfl
  generalize l[i]=z at hat hgi hstep
  generalize b.noTests.renL (l.take i)=c at hb1 hstep hw1 hnp1
  have hbc:BkV ro1 (.agg [.int .i64 b.w, .slice pb1 c.ps.length pc1, .slice gb1 c.gs.length gc1, .slice cb1 c.cs.length cc1, .slice tb1 c.ts.length tc1].toArray) c:=⟨_,_,_,_,by rw [hw1],hb1⟩
  refine X.skip C.1<|Xs C<|X.block C.1<|Xd C fun hok=>D5 C 0 hok U U isAgg27 sizeOf27 (by repeat constructor) Tk5<|Dm C 1 hok U U U<|Dm C 2 hok U U U<|Dx C 3 hok U U U runUnderlying28 sizeOf3<|D2 C 4 hok U U isAgg3 hropl hat<|De 5 (some 20) [true,true] hok (fun _ _ A hk=>?_)
  refine R.callP C U (A.w U U) (A.x U U) (A.s U U) (one_c hJ _ _) (hk _ _ ⟨(QFs.cons (QF.of U (fun _ _ A h=>R.loadOneRo C U (A.w U U) (A.x U U) isAgg3 hropl hat h)) (QFs.cons (QF.of U (fun _ _ A h=>R.loadAgg C U (A.w U U) (A.x U U) isAgg27 sizeOf27 (by repeat constructor) Tk5 h)) QFs.nil)), ?_⟩)
  refine De 6 (some 21) [false,false] hok (fun _ _ A hk=>?_)
  refine R.callR C U (A.w U U) (A.x U U) (A.s U U) (borneR_c hJ hbc (by omega) (by omega) ⟨99,99⟩) fun v3 ro3 hl3 hq3=>hk _ _ ⟨QFs.nil, ?_⟩
  refine De 7 none [] hok (fun _ _ A hk=>?_)
  obtain⟨vp3,vg3,vc3,vt3,rfl,hv3⟩:=hq3
  have hw3:(c.borne z.toNat ⟨99,99⟩).w=b.w:=hw1
  rw [←hstep] at hv3
  obtain⟨_,_,rfl⟩:=hv3.1.form
  obtain⟨_,_,rfl⟩:=hv3.2.1.form
  obtain⟨_,_,rfl⟩:=hv3.2.2.1.form
  obtain⟨_,_,rfl⟩:=hv3.2.2.2.form
  rw [hw3] at A hk
  refine R.store C U (A.w U U) (A.x U U) (A.x U U) sizeOf27 U U U (by repeat constructor) Ph5 (hk undef _ ⟨QFs.nil, ?_⟩)
  refine D.done C hok (by kernel_rfl)<|X.inBlock C.1<|X.region C U U<|Rm C U U<|Ra C U U U<|Ad C U U<|X.weaken ?_ (hnext (i+1,ro3,_,_,_,_) ⟨hi',RO.le_trans hle hl3,hv3⟩ (by simp only;omega))
  exact⟨rfl,rfl,rfl,rfl,by simp [look],trivial⟩
 ·obtain rfl:i=l.length:=by omega
  refine X.exit C.1 U<|Xr C U U<|R5 C U U isAgg27 sizeOf27 (by repeat constructor) Tk5<|R.store C U U U U sizeOf27 U U U (by repeat constructor) Ph5<|R.done C<|X.ret C U U func74 U (by exact(.agg U isAgg27 sizeOf27 (by repeat constructor) Tk5 .nil))<|Hr hret hle ?_
  rw [List.take_length] at hb1 hw1⊢
  exact⟨_,_,_,_,by rw [hw1];rfl,hb1⟩
end
theorem renewed_root{b:Bk}{vb:Value}{o:Nat}(ho:o<256){ro:RO}(he:Env ro)(hv:BkV ro vb b):Root prog 14 [vb, .int .u8 (o:Int)] ro (fun w _=>w= .bool true):=by
 intro Post hret
 have hJ:Closed prog true (JM prog (Go.Conc.Good prog Post)):=JM.closed
 obtain⟨vp,vg,vc,vt,rfl,hp,hg,hc,ht⟩:=hv
 obtain⟨pb,pc,rfl⟩:=hp.form
 obtain⟨gb,gc,rfl⟩:=hg.form
 obtain⟨cb,cc,rfl⟩:=hc.form
 obtain⟨tb,tc,rfl⟩:=ht.form
 have hvv:BkV ro (.agg [.int .i64 b.w, .slice pb b.ps.length pc, .slice gb b.gs.length gc, .slice cb b.cs.length cc, .slice none 0 0].toArray) b.noTests:=⟨_,_,_,_,rfl,hp,hg,hc, .nil⟩
 let main:=true
 let J:=JM prog (Go.Conc.Good prog Post)
 refine enter_X (n:=143) func14 U U (Nl U) ?_
 have C:Ctx prog main J (bf 14 .normal):=⟨hJ,by decide⟩
 refine Xr C U U<|R.box C U U U U fun p2=>Ad C U U<|Xr C U U<|Rf C 4 U U runUnderlying27 U sizeOf25<|R.store C U U U U sizeOf25 U U U (by repeat constructor) (.skip (.skip (.skip (.skip (.here .nil)))))<|R.done C<|Xs C<|Xr C U U<|R5 C U U isAgg27 sizeOf27 (by repeat constructor) Tk5<|R.callP C U U U U (fitR_c hJ hvv)<|R.not C U U U<|R.done C<|X.cond C.1 U (fun hfit=>?_) (fun hfit=>?_)
 ·refine Xr C U U<|R.callR C U U U U ((hoisted_c _ he)) fun v9 ro9 hl9 hq9=>Ad C U U<|X.ret0 C (by kernel_rfl) U U func14 U (by exact(.tmp U .nil)) fun w9 hs9=>hret _ _ _ hl9 ?_ w9 hs9
  exact hq9
 ·have hch:checkBook b.noTests=0:=by simpa using hfit
  have hb:=good_of hch
  have hsh:=short_of (not_great hch)
  have hnp:1≤b.ps.length∧b.ps.length≤4:=hb.np
  have hne:cases b.noTests≠ []:=bare_cases hb rfl
  refine X.skip C.1<|Xr C U U<|R5 C U U isAgg27 sizeOf27 (by repeat constructor) Tk5<|R.callR C U U U U ((renew_c he hvv hsh)) fun v1 ro1 hl1 hq1=>?_
  obtain⟨w1,y1,rfl⟩:=hq1
  refine Rm C U U<|R.ext C U U U U<|R.ext C U U U U<|R.ext C U U U U<|R.asg C U U U<|R.asg C U U U<|Ad C U U<|Xr C U U<|R5 C U U isAgg27 sizeOf27 (by repeat constructor) Tk5<|R.callR C U U U U ((fewestG_c (he.mono hl1) (hvv.mono hl1) hsh)) fun v2 ro2 hl2 hq2=>?_
  obtain⟨w2,y2,rfl⟩:=hq2
  obtain⟨_,_,rfl⟩:=y2.form
  have k2:=RO.le_trans hl1 hl2
  obtain⟨hf1,hf2⟩:=fewestR_found hch hne
  have hr2:(renewR b.noTests).2=0:=by rw [renewR,open_zero hch hne];rfl
  have fr:∀x:List Int,(∀k∈x,0≤k∧k<(b.ps.length:Int))→checkBook (b.noTests.renL x)=0∧(fewestR (b.noTests.renL x)).1.isSome=renOk b.noTests x∧(fewestR (b.noTests.renL x)).2=0:=fun x hx=>by
   have hro:=renL_ok x b.noTests (fun k hk=>(hx k hk).1)
   have hc3:=hro.ch hch
   have hne3:cases (b.noTests.renL x)≠ []:=bare_cases (good_of hc3) hro.ts
   obtain⟨q1,q2⟩:=fewestR_found hc3 hne3
   exact⟨hc3,q1,q2⟩
  rw [hf1,hf2,hr2]
  have hlaw:=renew_law hch rfl
  rcases hlaw with⟨hf,hno⟩|⟨y,hf,hasc,hbd,hly,hmin⟩
  ·rw [hf] at y1⊢
   have y1:LsI ro1 w1 []:=y1
   have hnil:([]:List Int).length=0:=rfl
   obtain⟨kb,kc,rfl⟩:=y1.form
   have hall:allGears b.noTests=false:=hno [] List.Pairwise.nil (fun _ h=>by cases h)
   rw [hall]
   have h48:climbsH (b.ps.length:Int) none ([]:List Int)=0:=rfl
   refine Rm C U U<|R.ext C U U U U<|R.ext C U U U U<|R.ext C U U U U<|R.asg C U U U<|R.asg C U U U<|Ad C U U<|Xs C<|Xr C U U<|Rm C U U<|R.int C U U U U b_neq<|R.fixv (t:=37) (v':= .bool false) U (by rfl)<|Rm C U U<|Rm C U U<|R.int C U U U U b_neq<|R.fixv (t:=40) (v':= .bool false) U (by rfl)<|R.pickF C U U U U<|Rm C U U<|Rm C U U<|Rf C 1 U U runUnderlying27 U sizeOf22<|Rl C U U isAgg22 (by repeat constructor) U<|Rn C U U runUnderlying22<|R.callP C U U U U (climbsR_c hJ (y1.mono hl2) (by simp) (by omega))<|R.int C U U U U b_neq<|R.fixv (t:=48) (v':= .bool false) U (by(rw [h48];rfl))<|R.pickF C U U U U<|Rm C U U<|Rm C U U<|R.fixv (t:=51) (v':= .bool false) U (by rfl)<|Rm C U U<|R.pass C U U<|R.pass C U U<|R.pickF C U U U U<|R.pickF C U U U U<|Rm C U U<|Rm C U U<|R.fixv (t:=58) (v':= .bool false) U (by rfl)<|Rm C U U<|R.pass C U U<|R.pass C U U ?_;refine R.pass C U U<|R.pass C U U<|R.pass C U U<|R.pickF C U U U U<|R.pickF C U U U U<|Rm C U U<|Rm C U U<|R.not C U U U<|R.fixv (t:=69) (v':= .bool true) U (by rfl)<|Rm C U U<|Rm C U U<|Rn C U U runUnderlying28<|R.int C U U U U b_gtr<|R.fixv (t:=73) (v':= .bool false) U (by rfl)<|R.pickT C U U U U<|R.pickF C U U U U<|R.done C<|X.cond C.1 U (fun h=>nomatch h) (fun _=>?_)
   refine X.skip C.1<|Xs C<|Xr C U U<|Rm C U U<|R.fixv (t:=76) (v':= .bool false) U (by rfl)<|R.done C<|X.cond C.1 U (fun h=>nomatch h) (fun _=>?_)
   refine X.skip C.1<|Xs C<|Xr C U U<|Ad C U U<|X.block C.1<|X.loopI (ι:=Nat) C.1 (fun i=>i=0) (fun i=> [(14, .int .i64 (i:Int)),(5, .slice kb ([]:List Int).length kc),(6, .bool false),(1, .int .u8 (o:Int)),(2, .pointer (some ⟨p2,0,none⟩))])
    (fun _=>⟨ro2,(p2, .cells [.int .i64 b.w, .slice pb b.ps.length pc, .slice gb b.gs.length gc, .slice cb b.cs.length cc, .slice none 0 0].toArray 27 (0,0)):: []⟩) (fun i=>0) 0 rfl rfl ⟨U,U,U,U,U,trivial⟩ fun i hi hnext=>?_
   refine Xs C<|Xr C U U<|Rm C U U<|Rm C U U<|Rn C U U runUnderlying28<|R.int C U U U U b_lss<|R.done C<|X.cond C.1 U (fun hlt=>?_) (fun hlt=>?_)
   ·rw [hi] at hlt;simp at hlt
   ·have hsb:=some_bd o b.ps.length
    obtain⟨q1,q2,q3⟩:=fr _ hsb
    refine X.exit C.1 U<|Xr C U U<|Rm C U U<|Rf C 1 U U runUnderlying27 U sizeOf22<|Rl C U U isAgg22 (by repeat constructor) U<|Rn C U U runUnderlying22<|R.callR C U U U U (someR_c hJ ho (by omega)) fun v5 ro5 hl5 hq5=>Ad C U U<|Xr C U U<|R5 C U U isAgg27 sizeOf27 (by repeat constructor) Tk5<|Rm C U U ?_
    have k5:=RO.le_trans k2 hl5
    refine R.callR C U U U U (renewedR_c hJ (hvv.mono k5) hq5 (by have:=some_len o b.ps.length;omega) hsb (show b.ps.length≤1000 by omega)) fun v6 ro6 hl6 hq6=>?_
    have k6:=RO.le_trans k5 hl6
    refine R.callR C U U U U ((fewestG_c (he.mono k6) hq6 (short_of (not_great q1)))) fun v7 ro7 hl7 hq7=>?_
    obtain⟨w7,y7,rfl⟩:=hq7
    obtain⟨_,_,rfl⟩:=y7.form
    have k7:=RO.le_trans k6 hl7
    have q4:renOk b.noTests (someL o b.ps.length)=false:=hno _ (some_asc _ _) hsb
    have e:b.noTests.noTests=b.noTests:=rfl
    rw [e,q2,q3,q4]
    refine Rm C U U<|R.ext C U U U U<|R.ext C U U U U<|R.ext C U U U U<|R.asg C U U U<|Ad C U U<|Xr C U U<|Rm C U U<|R.int C U U U U b_eql<|R.fixv (t:=126) (v':= .bool true) U (by rfl)<|Rm C U U<|Rm C U U<|R.not C U U U<|R.fixv (t:=129) (v':= .bool true) U (by rfl)<|Rm C U U<|R.pass C U U<|R.pass C U U<|R.pass C U U<|R.pass C U U<|R.pass C U U<|R.pass C U U<|R.pass C U U<|R.pickT C U U U U<|R.pickT C U U U U<|Rm C U U<|R.callR C U U U U ((hoisted_c _ (he.mono k7))) fun v9 ro9 hl9 hq9=>R.pickT C U U U U<|Ad C U U<|X.ret0 C (by kernel_rfl) U U func14 U (by exact(.tmp U .nil)) fun w9 hs9=>hret _ _ _ (RO.le_trans k7 hl9) ?_ w9 hs9
    exact hq9
  ·rw [hf] at y1⊢
   have y1:LsI ro1 w1 y:=y1
   have hyn:y.length≤b.ps.length:=nodup_len (hasc.imp fun h=>by omega) hbd
   obtain⟨kb,kc,rfl⟩:=y1.form
   have hbd:∀k∈y,0≤k∧k<(b.ps.length:Int):=hbd
   have h48:climbsH (b.ps.length:Int) none y=0:=climbs_asc hasc hbd (fun _ h=>by cases h)
   have hall:allGears b.noTests=true↔y.length=0:=by
    rw [List.length_eq_zero_iff]
    constructor
    ·intro h
     have:=hmin [] List.Pairwise.nil (fun _ h=>by cases h) h
     rw [smaller_iff] at this
     cases hy:y with
     |nil=>rfl
     |cons a t=>rw [hy] at this;simp at this
    ·intro h
     rw [h] at hly;exact hly
   generalize allGears b.noTests=al at hall⊢
   refine Rm C U U<|R.ext C U U U U<|R.ext C U U U U<|R.ext C U U U U<|R.asg C U U U<|R.asg C U U U<|Ad C U U<|Xs C<|Xs C<|X.afterI (ι:=Unit) (fun _=>True) (fun _=> [(75, .bool false),(1, .int .u8 (o:Int)),(2, .pointer (some ⟨p2,0,none⟩)),(5, .slice kb y.length kc),(6, .bool true)])
    (fun _=>⟨ro2,(p2, .cells [.int .i64 b.w, .slice pb b.ps.length pc, .slice gb b.gs.length gc, .slice cb b.cs.length cc, .slice none 0 0].toArray 27 (0,0)):: []⟩) (fun s _=>?_) (fun hcont=>?_)
   rotate_left
   ·cases al
    ·have hyl:y.length≠0:=fun h=>by have:=hall.2 h;cases this
     refine X.region C U U<|Rm C U U<|R.int C U U U U b_neq<|R.fixv (t:=37) (v':= .bool false) U (by rfl)<|Rm C U U<|Rm C U U<|R.int C U U U U b_neq<|R.fixv (t:=40) (v':= .bool false) U (by rfl)<|R.pickF C U U U U<|Rm C U U<|Rm C U U<|Rf C 1 U U runUnderlying27 U sizeOf22<|Rl C U U isAgg22 (by repeat constructor) U<|Rn C U U runUnderlying22<|R.callP C U U U U (climbsR_c hJ (y1.mono hl2) (by omega) (by omega))<|R.int C U U U U b_neq<|R.fixv (t:=48) (v':= .bool false) U (by(rw [h48];rfl))<|R.pickF C U U U U<|Rm C U U<|Rm C U U<|R.fixv (t:=51) (v':= .bool false) U (by rfl)<|Rm C U U<|R.pass C U U<|R.pass C U U<|R.pickF C U U U U<|R.pickF C U U U U<|Rm C U U<|Rm C U U<|R.fixv (t:=58) (v':= .bool true) U (by rfl)<|Rm C U U<|Rm C U U<|Rn C U U runUnderlying28<|R.int C U U U U b_eql<|R.fixv (t:=62) (v':= .bool false) U (by(refine congrArg Value.bool ?_;rw [beq_eq_false_iff_ne];omega)) ?_;refine Rm C U U<|R.neBool C U U U U runUnderlying4<|R.fixv (t:=64) (v':= .bool false) U (by rfl)<|R.pickT C U U U U<|R.pickF C U U U U<|Rm C U U<|Rm C U U<|R.not C U U U<|R.fixv (t:=69) (v':= .bool false) U (by rfl)<|Rm C U U<|R.pass C U U<|R.pass C U U<|R.pass C U U<|R.pickF C U U U U<|R.pickF C U U U U<|R.done C<|X.weaken ?_ (hcont () trivial)
     exact⟨U,U,U,U,U,trivial⟩
    ·have hyl:y.length=0:=hall.1 rfl
     refine X.region C U U<|Rm C U U<|R.int C U U U U b_neq<|R.fixv (t:=37) (v':= .bool false) U (by rfl)<|Rm C U U<|Rm C U U<|R.int C U U U U b_neq<|R.fixv (t:=40) (v':= .bool false) U (by rfl)<|R.pickF C U U U U<|Rm C U U<|Rm C U U<|Rf C 1 U U runUnderlying27 U sizeOf22<|Rl C U U isAgg22 (by repeat constructor) U<|Rn C U U runUnderlying22<|R.callP C U U U U (climbsR_c hJ (y1.mono hl2) (by omega) (by omega))<|R.int C U U U U b_neq<|R.fixv (t:=48) (v':= .bool false) U (by(rw [h48];rfl))<|R.pickF C U U U U<|Rm C U U<|Rm C U U<|R.fixv (t:=51) (v':= .bool true) U (by rfl)<|Rm C U U<|Rm C U U<|R.not C U U U<|R.fixv (t:=54) (v':= .bool false) U (by rfl)<|R.pickT C U U U U<|R.pickF C U U U U<|Rm C U U<|Rm C U U<|R.fixv (t:=58) (v':= .bool true) U (by rfl)<|Rm C U U<|Rm C U U<|Rn C U U runUnderlying28<|R.int C U U U U b_eql<|R.fixv (t:=62) (v':= .bool true) U (by(refine congrArg Value.bool ?_;rw [beq_iff_eq];omega)) ?_;refine Rm C U U<|R.neBool C U U U U runUnderlying4<|R.fixv (t:=64) (v':= .bool false) U (by rfl)<|R.pickT C U U U U<|R.pickF C U U U U<|Rm C U U<|Rm C U U<|R.not C U U U<|R.fixv (t:=69) (v':= .bool false) U (by rfl)<|Rm C U U<|R.pass C U U<|R.pass C U U<|R.pass C U U<|R.pickF C U U U U<|R.pickF C U U U U<|R.done C<|X.weaken ?_ (hcont () trivial)
     exact⟨U,U,U,U,U,trivial⟩
   obtain⟨q1,q2,q3⟩:=fr _ hbd
   refine X.cond C.1 U (fun h=>nomatch h) (fun _=>?_)
   refine X.skip C.1<|Xs C<|Xr C U U<|Rm C U U<|R.fixv (t:=76) (v':= .bool true) U (by rfl)<|R.done C<|X.cond C.1 U (fun _=>?_) (fun h=>nomatch h)
   refine Xr C U U<|R5 C U U isAgg27 sizeOf27 (by repeat constructor) Tk5<|Rm C U U<|R.callR C U U U U (renewedR_c hJ (hvv.mono k2) (y1.mono hl2) (by omega) hbd (show b.ps.length≤1000 by omega)) fun v3 ro3 hl3 hq3=>?_
   have k3:=RO.le_trans k2 hl3
   refine R.callR C U U U U ((fewestG_c (he.mono k3) hq3 (short_of (not_great q1)))) fun v4 ro4 hl4 hq4=>?_
   obtain⟨w4,y4,rfl⟩:=hq4
   obtain⟨_,_,rfl⟩:=y4.form
   have k4:=RO.le_trans k3 hl4
   have e:b.noTests.noTests=b.noTests:=rfl
   rw [e,q2,q3,hly]
   refine Rm C U U<|R.ext C U U U U<|R.ext C U U U U<|R.ext C U U U U<|R.asg C U U U<|R.asg C U U U<|Ad C U U<|Xr C U U<|Rm C U U<|R.int C U U U U b_neq<|R.fixv (t:=86) (v':= .bool false) U (by rfl)<|Rm C U U<|Rm C U U<|R.not C U U U<|R.fixv (t:=89) (v':= .bool false) U (by rfl)<|R.pickF C U U U U<|R.done C<|X.cond C.1 U (fun h=>nomatch h) (fun _=>?_)
   refine X.skip C.1<|Xs C<|Xr C U U<|Ad C U U<|X.block C.1<|X.loopI (ι:=Nat×RO) C.1 (fun s=>s.1≤y.length∧ro4.le s.2) (fun s=> [(14, .int .i64 (s.1:Int)),(5, .slice kb y.length kc),(6, .bool true),(1, .int .u8 (o:Int)),(2, .pointer (some ⟨p2,0,none⟩))])
    (fun s=>⟨s.2,(p2, .cells [.int .i64 b.w, .slice pb b.ps.length pc, .slice gb b.gs.length gc, .slice cb b.cs.length cc, .slice none 0 0].toArray 27 (0,0)):: []⟩) (fun s=>y.length-s.1) (0,ro4) ⟨Nat.zero_le _,RO.le_refl _⟩ rfl ⟨U,U,U,U,U,trivial⟩ fun s hs hnext=>?_
   obtain⟨i,ro5⟩:=s
   obtain⟨hi,hle⟩:=hs
   simp only at hi hle hnext⊢
   have k5:=RO.le_trans k4 hle
   have y5:LsI ro5 (.slice kb y.length kc) y:=y1.mono (RO.le_trans hl2 (RO.le_trans hl3 (RO.le_trans hl4 hle)))
   refine Xs C<|Xr C U U<|Rm C U U<|Rm C U U<|Rn C U U runUnderlying28<|R.int C U U U U b_lss<|R.done C<|Xk C U (fun hlt=>?_) (fun hlt=>?_)
   ·have hi':i<y.length:=by omega
    have hsub:=List.eraseIdx_sublist y i
    have hsl:=hsub.length_le
    have hbd2:∀k∈y.eraseIdx i,0≤k∧k<(b.ps.length:Int):=fun k hk=>hbd k (hsub.subset hk)
    have hno:renOk b.noTests (y.eraseIdx i)=false:=by
     cases e:renOk b.noTests (y.eraseIdx i)
     ·rfl
     ·exact absurd (erase_smaller hi') (hmin _ (hasc.sublist hsub) hbd2 e)
    obtain⟨q1,q2,q3⟩:=fr _ hbd2
    refine X.skip C.1<|Xs C<|X.block C.1<|Xs C<|Xd C fun hok=>D5 C 0 hok U U isAgg27 sizeOf27 (by repeat constructor) Tk5<|Dm C 1 hok U U U<|Dm C 2 hok U U U<|De 3 (some 101) [true] hok (fun _ _ A hk=>?_)
    refine R.callR C U (A.w U U) (A.x U U) (A.s U U) (dropR_c hJ y5 (by omega) i) fun v7 ro7 hl7 hq7=>hk _ _ ⟨(QFs.cons (QF.of U (fun _ _ A h=>R.loadAgg C U (A.w U U) (A.x U U) isAgg27 sizeOf27 (by repeat constructor) Tk5 h)) QFs.nil), ?_⟩
    refine De 4 (some 102) [false] hok (fun _ _ A hk=>?_)
    have k7:=RO.le_trans k5 hl7
    refine R.callR C U (A.w U U) (A.x U U) (A.s U U) (renewedR_c hJ (hvv.mono k7) hq7 (by omega) hbd2 (show b.ps.length≤1000 by omega)) fun v8 ro8 hl8 hq8=>hk _ _ ⟨QFs.nil, ?_⟩
    refine De 5 (some 103) [] hok (fun _ _ A hk=>?_)
    have k8:=RO.le_trans k7 hl8
    refine R.callR C U (A.w U U) (A.x U U) (A.s U U) ((fewestG_c (he.mono k8) hq8 (short_of (not_great q1)))) fun v10 ro10 hl10 hq10=>hk _ _ ⟨QFs.nil, ?_⟩
    obtain⟨w10,y10,rfl⟩:=hq10
    obtain⟨_,_,rfl⟩:=y10.form
    rw [e,q2,q3,hno]
    refine Dm C 6 hok U U U<|Dp 7 hok (fun _ _ _ A h=>R.ext C U (A.w U U) (A.x U U) U h)<|Dp 8 hok (fun _ _ _ A h=>R.ext C U (A.w U U) (A.x U U) U h)<|Dp 9 hok (fun _ _ _ A h=>R.ext C U (A.w U U) (A.x U U) U h)<|Da C 10 hok U U<|Da C 11 hok U U<|Da C 12 hok U U<|D.done C hok (by kernel_rfl)<|Xr C U U<|Rm C U U<|R.int C U U U U b_neq<|R.fixv (t:=108) (v':= .bool false) U (by rfl)<|Rm C U U<|Rm C U U<|R.fixv (t:=110) (v':= .bool false) U (by rfl)<|R.pickF C U U U U<|R.done C<|X.cond C.1 U (fun h=>nomatch h) (fun _=>?_)
    refine X.skip C.1<|X.inBlock C.1<|X.region C U U<|Rm C U U<|Ra C U U U<|Ad C U U<|X.weaken ?_ (hnext (i+1,ro10) ⟨hi',RO.le_trans hle (RO.le_trans hl7 (RO.le_trans hl8 hl10))⟩ (by simp only;omega))
    exact⟨by simp [look],rfl,rfl,rfl,rfl,trivial⟩
   ·have hsb:=some_bd o b.ps.length
    have hsl:=some_len o b.ps.length
    obtain⟨q1,q2,q3⟩:=fr _ hsb
    refine X.exit C.1 U<|Xr C U U<|Rm C U U<|Rf C 1 U U runUnderlying27 U sizeOf22<|Rl C U U isAgg22 (by repeat constructor) U<|Rn C U U runUnderlying22<|R.callR C U U U U (someR_c hJ ho (by omega)) fun v11 ro11 hl11 hq11=>Ad C U U<|Xr C U U<|R5 C U U isAgg27 sizeOf27 (by repeat constructor) Tk5<|Rm C U U ?_
    have k11:=RO.le_trans k5 hl11
    refine R.callR C U U U U (renewedR_c hJ (hvv.mono k11) hq11 (by omega) hsb (show b.ps.length≤1000 by omega)) fun v12 ro12 hl12 hq12=>?_
    have k12:=RO.le_trans k11 hl12
    refine R.callR C U U U U ((fewestG_c (he.mono k12) hq12 (short_of (not_great q1)))) fun v13 ro13 hl13 hq13=>?_
    obtain⟨w13,y13,rfl⟩:=hq13
    obtain⟨_,_,rfl⟩:=y13.form
    have k13:=RO.le_trans k12 hl13
    have hmx:=hmin _ (some_asc o b.ps.length) hsb
    rw [e,q2,q3]
    generalize renOk b.noTests (someL o b.ps.length)=q at hmx⊢
    cases q
    ·have _:=hlt
     refine Rm C U U<|R.ext C U U U U<|R.ext C U U U U<|R.ext C U U U U<|R.asg C U U U<|Ad C U U<|Xr C U U<|Rm C U U<|R.int C U U U U b_eql<|R.fixv (t:=126) (v':= .bool true) U (by rfl)<|Rm C U U<|Rm C U U<|R.not C U U U<|R.fixv (t:=129) (v':= .bool true) U (by rfl)<|Rm C U U<|R.pass C U U<|R.pass C U U<|R.pass C U U<|R.pass C U U<|R.pass C U U<|R.pass C U U<|R.pass C U U<|R.pickT C U U U U<|R.pickT C U U U U<|Rm C U U<|R.callR C U U U U ((hoisted_c _ (he.mono k13))) fun v9 ro9 hl9 hq9=>R.pickT C U U U U<|Ad C U U<|X.ret0 C (by kernel_rfl) U U func14 U (by exact(.tmp U .nil)) fun w9 hs9=>hret _ _ _ (RO.le_trans k13 hl9) ?_ w9 hs9
     exact hq9
    ·have hms:smaller (someL o b.ps.length) y=false:=by simpa using hmx rfl
     refine Rm C U U<|R.ext C U U U U<|R.ext C U U U U<|R.ext C U U U U<|R.asg C U U U<|Ad C U U<|Xr C U U<|Rm C U U<|R.int C U U U U b_eql<|R.fixv (t:=126) (v':= .bool true) U (by rfl)<|Rm C U U<|Rm C U U<|R.not C U U U<|R.fixv (t:=129) (v':= .bool false) U (by rfl)<|Rm C U U<|Rm C U U<|R.fixv (t:=131) (v':= .bool true) U (by rfl)<|Rm C U U<|Rm C U U<|Rm C U U<|R.callP C U U U U (smallerR_c hJ (hq11.mono (RO.le_trans hl12 hl13)) (y5.mono (RO.le_trans hl11 (RO.le_trans hl12 hl13))) (by omega) (by omega))<|R.not C U U U<|R.fixv (t:=136) (v':= .bool true) U (by(rw [hms];rfl))<|R.pickT C U U U U<|R.pickF C U U U U<|R.pickT C U U U U<|Rm C U U<|R.callR C U U U U ((hoisted_c _ (he.mono k13))) fun v9 ro9 hl9 hq9=>R.pickT C U U U U<|Ad C U U<|X.ret0 C (by kernel_rfl) U U func14 U (by exact(.tmp U .nil)) fun w9 hs9=>hret _ _ _ (RO.le_trans k13 hl9) ?_ w9 hs9
     exact hq9
end Go.Lg.B
namespace Go.Lg.B
open Go Go.Proofs Go.Proofs.YtchjgmkeemdhlaaGreatDoor Go.Proofs.Tryz
theorem renewed_k1:(Rows.tackleRenewedRow.inPlace==prog.inPlace 14)=true:=by kernel_rfl
theorem renewed_k2:(Rows.tackleRenewedRow.unfollowed==prog.unfollowed 14)=true:=by kernel_rfl
theorem renewed_k3:(Rows.tackleRenewedRow.recurses==prog.recurses 14)=true:=by kernel_rfl
theorem renewed_k4:(Rows.tackleRenewedRow.named==prog.varsNamed 14)=true:=by kernel_rfl
theorem renewed_name:prog.funcNamed "lagan/laganlaw07.TackleRenewed" =some 14:=by kernel_rfl
theorem renewed_goes:true=Rows.tackleRenewedRow.goesBy prog:=by kernel_rfl
theorem renewed_wf:Rows.tackleRenewedRow.wfByText (OpenSpec.ofChange Rows.tackleRenewedSpec)=true:=by kernel_rfl
theorem renewed_facts:joinedFacts prog 14 Tryz.f14 Rows.tackleRenewedSpec Rows.tackleRenewedRow=true:=by
 unfold joinedFacts
 exact(and_mk (and_mk (and_mk (and_mk (and_mk (and_mk (and_mk (and_mk (and_mk (and_mk (and_mk (and_mk (and_mk (and_mk (and_mk (and_mk (and_mk (and_mk (and_mk (and_mk (and_mk (and_mk (and_mk (and_mk (and_mk (and_mk (and_mk (and_mk (and_mk (and_mk (and_mk (by as_aux_lemma=>kernel_rfl)
  k_lo)
  k_mr)
  (by as_aux_lemma=>kernel_rfl))
  (by as_aux_lemma=>kernel_rfl))
  (by as_aux_lemma=>kernel_rfl))
  k_stops)
  (by as_aux_lemma=>kernel_rfl))
  k_knobs)
  renewed_k1)
  renewed_k2)
  renewed_k3)
  renewed_k4)
  (by as_aux_lemma=>kernel_rfl))
  (by as_aux_lemma=>kernel_rfl))
  (by as_aux_lemma=>kernel_rfl))
  (by as_aux_lemma=>kernel_rfl))
  (by as_aux_lemma=>kernel_rfl))
  (by as_aux_lemma=>kernel_rfl))
  (by as_aux_lemma=>kernel_rfl))
  (by as_aux_lemma=>kernel_rfl))
  (by as_aux_lemma=>kernel_rfl))
  (beq_iff_eq.2 k_pk.symm))
  (by as_aux_lemma=>kernel_rfl))
  k_heard)
  k_may)
  (beq_iff_eq.2 k_lift.symm))
  (beq_iff_eq.2 k_make))
  (by as_aux_lemma=>kernel_rfl))
  (by as_aux_lemma=>kernel_rfl))
  (by as_aux_lemma=>kernel_rfl))
  (by as_aux_lemma=>kernel_rfl))
end Go.Lg.B
namespace Go.Proofs.YtchjgmkeemdhlaaGreatDoor
open Go Go.Conc Go.Lg Go.Lg.B Go.ChangeShapes Go.RowKit Go.WideShapes
theorem renewed_lifted(os:Os)(started:os.Started)(H:Type)(enc:TypeId×Value→H):
  ReturnsInLeavingWide {} Tryz.checked os 14 .any (fun w args=>(Rows.tackleRenewedSpec.pre enc Tryz.prog Tryz.f14 [] false w args∧laidMetH Tryz.prog laid1 w)∧sizedMet enc Tryz.prog Tryz.f14 (OpenSpec.ofChange Rows.tackleRenewedSpec) false w args)
   (Rows.tackleRenewedSpec.post enc Tryz.prog Tryz.f14 false true false false):=by
 refine leaving_of_root (C:=Tryz.checked) (tb:=4) (X:=fun w _=>laidMetH Tryz.prog laid1 w) (fun _ _ _ hh h=>h.of_heap hh) own0 started Tryz.func14 laid0 (by
   intro t ht
   rw [Tryz.params14] at ht
   have hm:t∈ [27,5]:=ht
   have hall:([27,5].all fun u=>Tryz.prog.readableRec u && decide (u<Tryz.prog.types.size))=true:=by kernel_rfl
   have:=List.all_eq_true.1 hall t hm
   rw [Bool.and_eq_true,decide_eq_true_eq] at this
   exact this) rfl (by kernel_rfl) Tryz.underlying4
  (ChangeSpec.witness_shaped (enc:=enc) (C:=Tryz.checked) (os:=os) (X:=fun w _=>laidMetH Tryz.prog laid1 w) false (World.doorLaid Tryz.prog 89 os) #[.agg #[.int .i64 0, .slice none 0 0, .slice none 0 0, .slice none 0 0, .slice none 0 0], .int .u8 0] 8 rfl (door_shaped os _) (by kernel_rfl) (by kernel_rfl) (by kernel_rfl) (door_met os _)) ?_
 intro W base args ds gs before hval hW _ _ hL
 obtain⟨p,q,hA,hV,rfl,_,_⟩:=hW
 obtain⟨rfl,rfl⟩:=trodVars_none hV
 have hA:DataW.TrodAll enc Tryz.prog W 0 (fun _=>true) true Tryz.f14.params.toList args.toList ds p:=hA
 have hval:∀ (j:Nat) t v,Tryz.f14.params[j]? =some t→args[j]? =some v→Value.okWide Tryz.prog W .any base t v:=hval
 rw [Tryz.params14] at hA hval
 obtain⟨v1,l1,d1,k1,p1,q1,e1,rfl,rfl,h1,hA⟩:=trodAll_cons hA
 obtain⟨v2,l2,d2,k2,p2,q2,rfl,rfl,rfl,h2,hA⟩:=trodAll_cons hA
 obtain⟨rfl,rfl,rfl⟩:=trodAll_nil hA
 have ea:args= #[v1,v2]:=Array.toList_inj.1 e1
 subst ea
 obtain⟨b,b1⟩:=argBk (hval 0 27 v1 rfl rfl) h1
 obtain⟨g,rfl,o1⟩:=argU8 (hval 1 5 v2 rfl rfl) h2
 exact⟨rfl,by obtain⟨m,rfl⟩:=Int.eq_ofNat_of_zero_le o1.1;exact renewed_root (by omega) (env_of_laid hL) b1⟩
theorem renewed_row:Rows.TackleRenewedSaid:=
 OpenClaim.holds_of_wide_leaving 14 Tryz.f14 rfl rfl rfl rfl rfl rfl rfl ⟨rfl,rfl,rfl,rfl,rfl⟩ rfl rfl rfl rfl rfl renewed_name Tryz.func14 renewed_facts
  (of_decide_eq_true (by kernel_rfl)) (by unfold Func.isWrapper;first|(rw [if_pos (by decide+kernel)];kernel_rfl)|(rw [if_neg (by decide+kernel)];exact⟨rfl,rfl⟩))
  (fun os started H enc _=>renewed_lifted os started H enc)
theorem renewed_holds:Rows.TackleRenewedCardSaid:=
 card_goes .later [.funcs] true (true, "6ec45924a9ef3528b91853e2f3d4ce9a8ac3f7423f5bdc8d9ecf7c969235976f") true
  renewed_row renewed_wf tackleRenewed_row_tie rfl ⟨rfl,rfl⟩ k_main rfl
  (fun f fn hf hfn=>by
   obtain rfl:f=14:=Option.some.inj (renewed_name.symm.trans hf)|>.symm
   obtain rfl:fn=Tryz.f14:=(Option.some.inj (Tryz.func14.symm.trans hfn)).symm
   exact⟨k_looks,fun j t ht=>by
    rw [Tryz.params14] at ht
    have hm:t∈ [27,5]:=by simpa using Array.mem_of_getElem? ht
    have hall:([27,5].all fun u=> !Tryz.prog.wantsStandIn u)=true:=by kernel_rfl
    exact(show Tryz.prog.wantsStandIn t=false by simpa using List.all_eq_true.1 hall t hm)⟩)
  renewed_goes
end Go.Proofs.YtchjgmkeemdhlaaGreatDoor
