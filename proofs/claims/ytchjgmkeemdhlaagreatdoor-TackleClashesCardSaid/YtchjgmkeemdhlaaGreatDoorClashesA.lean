/-
  It is proved that the given function answers true for every input, whatever is scheduled: the statement Clashes of the seat. Conditions: none but those of the given statement itself.
-/
import Derived.Test.YtchjgmkeemdhlaaGreatDoorKE
import Derived.Conc.Holds
set_option maxRecDepth 100000
set_option maxHeartbeats 2000000
set_option linter.all false
set_option linter.unusedVariables false
set_option linter.unusedSimpArgs false
set_option linter.unusedSectionVars false
namespace Go.Lg.B
open Go Go.Conc Go.Lg Go.Proofs Go.Proofs.Tryz
theorem cmpI_flip(x y:Int):cmpI y x= -cmpI x y:=by unfold cmpI;split<;>split<;>(try split)<;>omega
theorem cmpL_flip:∀a c:List Int,cmpL c a= -cmpL a c
 | [], []=>rfl
 | [],_::_=>rfl
 |_::_, []=>rfl
 |x::xs,y::ys=>by
  have h:=cmpI_flip x y
  have ih:=cmpL_flip xs ys
  simp only [cmpL]
  split<;>split<;>omega
theorem cmpL_zero:∀ {a c:List Int},cmpL a c=0→a=c
 | [], [],_=>rfl
 | [],_::_,h=>by simp [cmpL] at h
 |_::_, [],h=>by simp [cmpL] at h
 |x::xs,y::ys,h=>by
  simp only [cmpL] at h
  split at h
  ·contradiction
  ·rename_i hx
   simp only [ne_eq,Decidable.not_not] at hx
   rw [cmpI_zero.1 hx,cmpL_zero h]
theorem cmpL_refl:∀a:List Int,cmpL a a=0
 | []=>rfl
 |x::xs=>by
  have:cmpI x x=0:=cmpI_zero.2 rfl
  simp [cmpL,this,cmpL_refl xs]
inductive LeL:List Int→List Int→Prop
 |nil:LeL [] []
 |cons {x y:Int} {a c:List Int}:x≤y→LeL a c→LeL (x::a) (y::c)
theorem LeL.getD{a c:List Int}(h:LeL a c):∀i,a.getD i 0≤c.getD i 0:=by
 induction h with
 |nil=>intro i;simp
 |cons h _ ih=>
  intro i
  cases i with
  |zero=>simpa using h
  |succ i=>simpa using ih i
theorem climbs_asc{n:Int}:∀ {l:List Int} {q:Option Int},l.Pairwise (· < ·)→(∀x∈l,0≤x∧x<n)→(∀y,q=some y→∀x∈l,y<x)→climbsH n q l=0
 | [],_,_,_,_=>rfl
 |x::l,q,hp,hb,hq=>by
  rw [List.pairwise_cons] at hp
  have hx:=hb x (by simp)
  rw [climbsH,if_neg (by have:=between_iff.2 (show 0≤x∧x≤n-1 by omega);simp [this]),if_neg,climbs_asc hp.2 (fun y hy=>hb y (by simp [hy])) (fun y hy z hz=>by cases hy;exact hp.1 z hz)]
  cases q with
  |none=>simp
  |some y=>have:=hq y rfl x (by simp);simp;omega
end Go.Lg.B
namespace Go.Lg
open Go Go.Conc
theorem R.finish{P:Program}{main:Bool}{J:Goroutine→Mem→Prop}{b:Frame}{cs:List Frame}{n:Nat}{ds:List Deferred}{σ:Slots}{ro:RO}{own:List (Nat×Obj)}{k:List Item}{ops:Array Oper}{l:List Nat}{α:Type}{enc:α→List Value}{e:TypeId}{kk:Nat}{v:Value}{xs:List α}{tail:List (Nat×Obj)}(hJ:Closed P main J)(hk:∀x,(enc x).length=kk)(hkp:0<kk)(hb:Buf e kk tail v (xs.flatMap enc) own)
  (h:∀ro':RO,ro.le ro'→Ls enc kk ro' v xs→R J b cs n ops l k ds σ ⟨ro',tail⟩):R J b cs n ops l k ds σ ⟨ro,own⟩:=fun hok=>X.finish hJ hk hkp hb fun ro' hl hls=>h ro' hl hls hok
end Go.Lg
namespace Go.Lg.B
open Go Go.Conc Go.Lg Go.Proofs Go.Proofs.Tryz
theorem rz_take(lo:Int):∀m,rz lo (m+1)=rz lo m++ [lo+m]
 |0=>by simp [rz]
 |m+1=>by
  have:=rz_take (lo+1) m
  rw [rz,this,rz]
  simp only [List.cons_append]
  congr 2
  rw [show lo+1+(m:Int)=lo+((m+1:Nat):Int) by omega]
theorem bit_cases(a n:Nat):(a>>>n &&& 1:Nat)=if a.testBit n then 1 else 0:=by
 rw [Nat.testBit_eq_decide_div_mod_eq,Nat.shiftRight_eq_div_pow,Nat.and_one_is_mod]
 have:a/2^n%2<2:=Nat.mod_lt _ (by omega)
 by_cases h:a/2^n%2=1
 ·simp [h]
 ·have:a/2^n%2=0:=by omega
  simp [this]
theorem b_shr8{P:Program}{t:TypeId}{k':IntKind}{a:Nat}{n:Int}(h0:0≤n)(h1:n≤8):∀M K,K (.int .u8 ((a>>>n.toNat:Nat):Int)) M→Sm P M (binOp .shr t (.int .u8 (a:Int)) (.int k' n)) K:=fun M K h=>by
 have e:((a>>>n.toNat:Nat):Int)=(a:Int) /2^n.toNat:=by rw [Nat.shiftRight_eq_div_pow];simp
 rw [e] at h
 exact b_shr h0 (by simp [IntKind.bits];omega) (by omega) M K h
theorem bits_and8{a:Nat}(ha:a<256):(Op.intBits .and .u8 (a:Int) 1:Sem Value)=Pure.pure (.int .u8 ((a &&& 1:Nat):Int)):=by
 have h:∀a:Nat,a<256→IntKind.u8.wrap ((BitVec.ofInt 8 (a:Int) &&& BitVec.ofInt 8 1).toNat:Int)=((a &&& 1:Nat):Int):=by
  intro a ha
  have:((List.range 256).all fun a=>IntKind.u8.wrap ((BitVec.ofInt 8 ((a:Nat):Int) &&& BitVec.ofInt 8 1).toNat:Int)==((a &&& 1:Nat):Int))=true:=by kernel_rfl
  have:=List.all_eq_true.1 this a (List.mem_range.2 ha)
  simpa using this
 show(Pure.pure (Value.int IntKind.u8 (IntKind.u8.wrap ((BitVec.ofInt 8 (a:Int) &&& BitVec.ofInt 8 1).toNat:Int))):Sem Value)=_
 rw [h a ha]
theorem b_and8{P:Program}{t:TypeId}{a:Nat}(ha:a<256):∀M K,K (.int .u8 ((a &&& 1:Nat):Int)) M→Sm P M (binOp .and t (.int .u8 (a:Int)) (.int .u8 1)) K:=fun M K h=>by
 unfold binOp;simp only [ne_eq,not_true_eq_false,if_false,bits_and8 ha];exact Sm.pure h
def someL(o n:Nat):List Int:=(rz 0 n).filter fun k=>o.testBit k.toNat
theorem some_succ(o i:Nat):someL o (i+1)=someL o i++(if o.testBit i=true then [(i:Int)] else []):=by
 unfold someL
 rw [rz_take,List.filter_append,Int.zero_add]
 congr 1
 by_cases h:o.testBit i=true
 ·rw [if_pos h,List.filter_cons_of_pos (by simpa using h),List.filter_nil]
 ·rw [if_neg h,List.filter_cons_of_neg (by simpa using h),List.filter_nil]
theorem some_len(o n:Nat):(someL o n).length≤n:=by
 have:=List.length_filter_le (fun k:Int=>o.testBit k.toNat) (rz 0 n)
 rwa [rz_len] at this
theorem erase_take(l:List Int)(j:Nat){i:Nat}(h:i<l.length):(l.take (i+1)).eraseIdx j=(l.take i).eraseIdx j++(if i≠j then [l[i]] else []):=by
 rw [List.take_succ_eq_append_getElem h]
 have hlen:(l.take i).length=i:=by rw [List.length_take];omega
 by_cases hj:j<i
 ·rw [List.eraseIdx_append_of_lt_length (by omega),if_pos (by omega)]
 ·rw [List.eraseIdx_append_of_length_le (by omega),hlen,List.eraseIdx_of_length_le (show(l.take i).length≤j by omega)]
  by_cases e:i=j
  ·subst e;simp
  ·rw [if_pos e,List.eraseIdx_of_length_le (by simp;omega)]
section
variable {main:Bool}{J:Goroutine→Mem→Prop}(hJ:Closed prog main J)
include hJ
theorem someR_c{o n:Nat}(ho:o<256)(hn:n≤5){ro:RO}:CallR prog J (fnv 64) [.int .u8 (o:Int), .int .i64 (n:Int)] ro (fun w ro'=>LsI ro' w (someL o n)):=by
 refine CallR.intro hJ (by kernel_rfl) fun c cs tail hret=>enter_X (n:=22) func64 U U (Nl U) ?_
 have C:Ctx prog main J (bf 64 .normal):=⟨hJ,by decide⟩
 refine Xr C U U<|Ad C U U<|Xr C U U<|Ad C U U<|Xs C<|Xr C U U<|Ad C U U<|X.block C.1<|X.loopI (ι:=Nat×Value×List (Nat×Obj)) C.1 (fun s=>s.1≤n∧Buf 3 1 [] s.2.1 ((someL o s.1).flatMap ic) s.2.2) (fun s=> [(0, .int .u8 (o:Int)),(1, .int .i64 (n:Int)),(5,s.2.1),(6, .int .i64 (s.1:Int))])
  (fun s=>⟨ro,s.2.2++tail⟩) (fun s=>n-s.1) (0, .slice none 0 0, []) ⟨Nat.zero_le _, .nil⟩ rfl ⟨U,U,U,U,trivial⟩ fun s hs hnext=>?_
 obtain⟨i,v2,own2⟩:=s
 obtain⟨hi,hb2⟩:=hs
 simp only at hi hb2 hnext⊢
 have hol:=some_len o i
 have hfl:((someL o i).flatMap ic).length≤i:=by rw [flat_len];exact hol
 have hstep:=some_succ o i
 have hsh:o>>>i<256:=Nat.lt_of_le_of_lt (Nat.shiftRight_le _ _) ho
 refine Xs C<|Xr C U U<|Rm C U U<|Rm C U U<|R.int C U U U U b_lss<|R.done C<|Xk C U (fun hlt=>?_) (fun hlt=>?_)
 ·have hi':i<n:=by omega
  refine X.skip C.1<|Xs C<|X.block C.1<|Xr C U U<|Rm C U U<|Rm C U U<|R.shift C U U U U (b_shr8 (by omega) (by omega))<|R.int C U U U U (b_and8 hsh)<|R.int C U U U U b_eql<|R.done C<|X.cond C.1 U (fun hq=>?_) (fun hq=>?_)
  ·have hq':o.testBit i=true:=by
    simp only [Int.toNat_natCast] at hq
    rw [bit_cases] at hq
    by_cases h:o.testBit i=true
    ·exact h
    ·rw [if_neg h] at hq;cases hq
   rw [if_pos hq'] at hstep
   refine X.region C U U<|Rm C U U<|Rm C U U<|R.buildSlice C (vs:=_) U U (show pvals _ _=some (numbered 0 [_]) from rfl) U runUnderlying28 sizeOf3 zeroValue3 (by decide) (Cat.one U U) fun p19=>R.append1 (kk:=1) C U U U U runUnderlying28 runUnderlying28 (fun _=>nofun) (show prog.info? 3=some Tryz.t3 by kernel_rfl) U U U (by decide) (by decide) (hb2.app _) U U (by simp only [List.length_append,List.length_cons,List.length_nil];omega) fun v' own' hb'=>Ad C U U<|X.inBlock C.1<|X.region C U U<|Rm C U U<|Ra C U U U<|Ad C U U ?_
   obtain⟨own3,rfl,hb3⟩:=Buf.unapp (tail:= []) hb'
   have hcat:(someL o i).flatMap ic++ [Value.int .i64 (i:Int)]=(someL o (i+1)).flatMap ic:=by rw [hstep,List.flatMap_append];rfl
   rw [hcat] at hb3
   refine X.weaken ?_ (hnext (i+1,_,own3) ⟨hi',hb3⟩ (by omega))
   exact⟨rfl,rfl,rfl,by simp [look],trivial⟩
  ·have hq':¬o.testBit i=true:=by
    simp only [Int.toNat_natCast] at hq
    rw [bit_cases] at hq
    intro h
    rw [if_pos h] at hq;cases hq
   rw [if_neg hq',List.append_nil] at hstep
   refine X.skip C.1<|X.inBlock C.1<|X.region C U U<|Rm C U U<|Ra C U U U<|Ad C U U<|X.weaken ?_ (hnext (i+1,v2,own2) ⟨hi',by rw [hstep];exact hb2⟩ (by omega))
   exact⟨rfl,rfl,rfl,by simp [look],trivial⟩
 ·obtain rfl:i=n:=by omega
  refine X.exit C.1 U<|Xr C U U<|R.finish C.1 ic_len (by decide) (hb2.app _) fun ro4 hl4 hls4=>Rm C U U<|Ad C U U<|Xt C func64<|Hr hret hl4 ?_
  exact hls4
theorem dropR_c{l:List Int}{v:Value}{ro:RO}(hl:LsI ro v l)(hn:l.length≤1000)(j:Nat):CallR prog J (fnv 63) [v, .int .i64 (j:Int)] ro (fun w ro'=>LsI ro' w (l.eraseIdx j)):=by
 have hl0:=hl
 obtain⟨lb,lc,rfl⟩:=hl.form
 refine CallR.intro hJ (by kernel_rfl) fun c cs tail hret=>enter_X (n:=24) func63 U U (Nl U) ?_
 have C:Ctx prog main J (bf 63 .normal):=⟨hJ,by decide⟩
 refine Xr C U U<|Ad C U U<|Xr C U U<|Ad C U U<|Xs C<|Xr C U U<|Ad C U U<|X.block C.1<|X.loopI (ι:=Nat×Value×List (Nat×Obj)) C.1 (fun s=>s.1≤l.length∧Buf 3 1 [] s.2.1 (((l.take s.1).eraseIdx j).flatMap ic) s.2.2) (fun s=> [(0, .slice lb l.length lc),(1, .int .i64 (j:Int)),(5,s.2.1),(6, .int .i64 (s.1:Int))])
  (fun s=>⟨ro,s.2.2++tail⟩) (fun s=>l.length-s.1) (0, .slice none 0 0, []) ⟨Nat.zero_le _, .nil⟩ rfl ⟨U,U,U,U,trivial⟩ fun s hs hnext=>?_
 obtain⟨i,v2,own2⟩:=s
 obtain⟨hi,hb2⟩:=hs
 simp only at hi hb2 hnext⊢
 have hfl:(((l.take i).eraseIdx j).flatMap ic).length≤i:=by
  rw [flat_len]
  have:=(List.eraseIdx_sublist (l.take i) j).length_le
  rw [List.length_take] at this
  omega
 refine Xs C<|Xr C U U<|Rm C U U<|Rm C U U<|Rn C U U runUnderlying28<|R.int C U U U U b_lss<|R.done C<|Xk C U (fun hlt=>?_) (fun hlt=>?_)
 ·have hi':i<l.length:=by omega
  have hstep:=erase_take l j hi'
  obtain⟨pl,offl,capl,ll,tl,fql,hsll,hropl,hsubl⟩:=hl0.at ic_len (by omega)
  cases hsll
  have hx:=ic_at hsubl hi'
  generalize l[i]=x at hx hstep
  refine X.skip C.1<|Xs C<|X.block C.1<|Xr C U U<|Rm C U U<|Rm C U U<|R.int C U U U U b_neq<|R.done C<|X.cond C.1 U (fun hq=>?_) (fun hq=>?_)
  ·have hq':i≠j:=by simp at hq;omega
   rw [if_pos hq'] at hstep
   refine X.region C U U<|Rm C U U<|Rm C U U<|Rm C U U<|Rx C U U U runUnderlying28 sizeOf3<|R.loadOneRo C U U U isAgg3 hropl hx<|R.buildSlice C (vs:=_) U U (show pvals _ _=some (numbered 0 [_]) from rfl) U runUnderlying28 sizeOf3 zeroValue3 (by decide) (Cat.one U U) fun p21=>R.append1 (kk:=1) C U U U U runUnderlying28 runUnderlying28 (fun _=>nofun) (show prog.info? 3=some Tryz.t3 by kernel_rfl) U U U (by decide) (by decide) (hb2.app _) U U (by simp only [List.length_append,List.length_cons,List.length_nil];omega) fun v' own' hb'=>Ad C U U<|X.inBlock C.1<|X.region C U U<|Rm C U U<|Ra C U U U<|Ad C U U ?_
   obtain⟨own3,rfl,hb3⟩:=Buf.unapp (tail:= []) hb'
   have hcat:((l.take i).eraseIdx j).flatMap ic++ [Value.int .i64 x]=((l.take (i+1)).eraseIdx j).flatMap ic:=by rw [hstep,List.flatMap_append];rfl
   rw [hcat] at hb3
   refine X.weaken ?_ (hnext (i+1,_,own3) ⟨hi',hb3⟩ (by omega))
   exact⟨rfl,rfl,rfl,by simp [look],trivial⟩
  ·have hq':¬i≠j:=by simp at hq;omega
   rw [if_neg hq',List.append_nil] at hstep
   refine X.skip C.1<|X.inBlock C.1<|X.region C U U<|Rm C U U<|Ra C U U U<|Ad C U U<|X.weaken ?_ (hnext (i+1,v2,own2) ⟨hi',by rw [hstep];exact hb2⟩ (by omega))
   exact⟨rfl,rfl,rfl,by simp [look],trivial⟩
 ·obtain rfl:i=l.length:=by omega
  rw [List.take_length] at hb2
  refine X.exit C.1 U<|Xr C U U<|R.finish C.1 ic_len (by decide) (hb2.app _) fun ro4 hl4 hls4=>Rm C U U<|Ad C U U<|Xt C func63<|Hr hret hl4 ?_
  exact hls4
theorem smallerR_c{va vb:Value}{ro:RO}{a d:List Int}(ha:LsI ro va a)(hc:LsI ro vb d)(h1:a.length≤1000000)(h2:d.length≤1000000):CallP prog J (fnv 65) [va,vb] ro (.bool (smaller a d)):=by
 have ha0:=ha
 have hc0:=hc
 obtain⟨ab,ac,rfl⟩:=ha.form
 obtain⟨db,dc,rfl⟩:=hc.form
 have hsm:smaller a d=(decide ((a.length:Int)<d.length)||(((a.length:Int)==d.length) && earlier a d)):=by
  unfold smaller earlier
  congr 1
  ·rw [decide_eq_decide];omega
  ·congr 1
   rw [Bool.eq_iff_iff];simp
   omega
 rw [hsm]
 refine CallP.intro hJ (by kernel_rfl) fun c cs tail hret=>enter_X (n:=22) func65 U U (Nl U) ?_
 have C:Ctx prog main J (bf 65 .normal):=⟨hJ,by decide⟩
 refine Xr C U U<|Ad C U U<|Xr C U U<|Rm C U U<|Rn C U U runUnderlying28<|Rm C U U<|Rn C U U runUnderlying28<|R.int C U U U U b_lss<|Rm C U U<|R.fix (t:=10) U (fun q1=>?_) (fun q1=>?_)
 ·refine R.pass C U U<|R.pass C U U<|R.pass C U U<|R.pass C U U<|R.pass C U U<|R.pass C U U<|R.pass C U U<|R.pass C U U<|R.pass C U U<|R.pass C U U<|R.pickT C U U U U<|Ad C U U<|Xt C func65<|Hp hret ?_
  first|(simp_all [retVal];done)
 ·refine Rm C U U<|Rn C U U runUnderlying28<|Rm C U U<|Rn C U U runUnderlying28<|R.int C U U U U b_eql<|Rm C U U<|R.fix (t:=16) U (fun q2=>?_) (fun q2=>?_)
  ·refine Rm C U U<|Rm C U U<|R.callP C U U U U (earlier_c hJ ha0 hc0 h1 h2)<|R.pickT C U U U U<|R.pickF C U U U U<|Ad C U U<|Xt C func65<|Hp hret ?_
   first|(simp_all [retVal];done)
  ·refine R.pass C U U<|R.pass C U U<|R.pass C U U<|R.pickF C U U U U<|R.pickF C U U U U<|Ad C U U<|Xt C func65<|Hp hret ?_
   first|(simp_all [retVal];done)
end
end Go.Lg.B
namespace Go.Lg.B
open Go Go.Conc Go.Lg Go.Proofs Go.Proofs.Tryz
theorem bitsFrom_mem(mask:Nat)(x:Int):∀ (m i:Nat),x∈bitsFrom mask i m↔ ∃j:Nat,i≤j∧j<i+m∧mask.testBit j=true∧x=j
 |0,i=>by
  simp only [bitsFrom,List.not_mem_nil,false_iff]
  rintro⟨j,h1,h2,_⟩;omega
 |m+1,i=>by
  have ih:=bitsFrom_mem mask x m (i+1)
  rw [bitsFrom]
  split
  ·rename_i h
   rw [List.mem_cons,ih]
   constructor
   ·rintro(rfl|⟨j,h1,h2,h3,h4⟩)
    ·exact⟨i,by omega,by omega,h,rfl⟩
    ·exact⟨j,by omega,by omega,h3,h4⟩
   ·rintro⟨j,h1,h2,h3,h4⟩
    by_cases e:j=i
    ·subst e;exact .inl h4
    ·exact .inr ⟨j,by omega,by omega,h3,h4⟩
  ·rename_i h
   rw [ih]
   constructor
   ·rintro⟨j,h1,h2,h3,h4⟩;exact⟨j,by omega,by omega,h3,h4⟩
   ·rintro⟨j,h1,h2,h3,h4⟩
    by_cases e:j=i
    ·subst e;exact absurd h3 h
    ·exact⟨j,by omega,by omega,h3,h4⟩
theorem bitsFrom_asc(mask:Nat):∀ (m i:Nat),(bitsFrom mask i m).Pairwise (· < ·)
 |0,_=> .nil
 |m+1,i=>by
  rw [bitsFrom]
  split
  ·refine List.pairwise_cons.2 ⟨fun x hx=>?_,bitsFrom_asc mask m (i+1)⟩
   obtain⟨j,h1,_,_,rfl⟩:=(bitsFrom_mem mask x m (i+1)).1 hx
   omega
  ·exact bitsFrom_asc mask m (i+1)
theorem listOf_mem{n mask:Nat}{x:Int}:x∈listOf n mask↔ ∃j:Nat,j<n∧mask.testBit j=true∧x=j:=by
 rw [listOf,bitsFrom_mem]
 constructor
 ·rintro⟨j,_,h2,h3,h4⟩;exact⟨j,by omega,h3,h4⟩
 ·rintro⟨j,h2,h3,h4⟩;exact⟨j,by omega,by omega,h3,h4⟩
theorem listOf_asc(n mask:Nat):(listOf n mask).Pairwise (· < ·):=bitsFrom_asc mask n 0
def maskL:List Int→Nat
 | []=>0
 |k::l=>2^k.toNat|||maskL l
theorem maskL_bit(i:Nat):∀ {l:List Int},(∀k∈l,0≤k)→((maskL l).testBit i=true↔(i:Int)∈l)
 | [],_=>by simp [maskL]
 |k::l,h=>by
  have hk:=h k (by simp)
  rw [maskL,Nat.testBit_or,Bool.or_eq_true,maskL_bit i (fun x hx=>h x (by simp [hx])),Nat.testBit_two_pow,decide_eq_true_eq,List.mem_cons]
  constructor
  ·rintro(h1|h1)
   ·exact .inl (by omega)
   ·exact .inr h1
  ·rintro(h1|h1)
   ·exact .inl (by omega)
   ·exact .inr h1
theorem maskL_lt{n:Nat}:∀ {l:List Int},(∀k∈l,0≤k∧k<n)→maskL l<2^n
 | [],_=>Nat.two_pow_pos n
 |k::l,h=>by
  have hk:=h k (by simp)
  exact Nat.or_lt_two_pow (Nat.pow_lt_pow_right (by omega) (by omega)) (maskL_lt fun x hx=>h x (by simp [hx]))
theorem listOf_mask{n:Nat}{l:List Int}(ha:l.Pairwise (· < ·))(h:∀k∈l,0≤k∧k<n):listOf n (maskL l)=l:=by
 refine asc_unique (listOf_asc _ _) ha fun x=>?_
 rw [listOf_mem]
 constructor
 ·rintro⟨j,_,h2,rfl⟩
  exact(maskL_bit j fun k hk=>(h k hk).1).1 h2
 ·intro hx
  have:=h x hx
  exact⟨x.toNat,by omega,(maskL_bit x.toNat fun k hk=>(h k hk).1).2 (by rw [show((x.toNat:Nat):Int)=x by omega];exact hx),by omega⟩
theorem smaller_iff{a c:List Int}:smaller a c=true↔a.length<c.length∨a.length=c.length∧cmpL a c<0:=by simp [smaller]
theorem cmpL_trans:∀ {a c e:List Int},cmpL a c<0→cmpL c e<0→cmpL a e<0
 | [], [],_,h,_=>by simp [cmpL] at h
 | [],_::_, [],_,h=>by simp [cmpL] at h
 | [],_::_,_::_,_,_=>by simp [cmpL]
 |_::_, [],_,h,_=>by simp [cmpL] at h
 |_::_,_::_, [],_,h=>by simp [cmpL] at h
 |x::xs,y::ys,z::zs,h1,h2=>by
  simp only [cmpL] at h1 h2⊢
  by_cases e1:cmpI x y=0
  ·rw [if_neg (by simp [e1])] at h1
   have:=cmpI_zero.1 e1
   subst this
   by_cases e2:cmpI x z=0
   ·rw [if_neg (by simp [e2])] at h2⊢
    exact cmpL_trans h1 h2
   ·rw [if_pos e2] at h2⊢;exact h2
  ·rw [if_pos e1] at h1
   have h3:=cmpI_neg.1 h1
   by_cases e2:cmpI y z=0
   ·have:=cmpI_zero.1 e2
    subst this
    rw [if_pos e1];exact h1
   ·rw [if_pos e2] at h2
    have h4:=cmpI_neg.1 h2
    have h5:cmpI x z<0:=cmpI_neg.2 (by omega)
    rw [if_pos (by omega)];exact h5
theorem smaller_trans{a c e:List Int}(h1:smaller a c=true)(h2:smaller c e=true):smaller a e=true:=by
 rw [smaller_iff] at*
 rcases h1 with h1|⟨h1,h1'⟩
 ·rcases h2 with h2|⟨h2,_⟩<;>exact .inl (by omega)
 ·rcases h2 with h2|⟨h2,h2'⟩
  ·exact .inl (by omega)
  ·exact .inr ⟨by omega,cmpL_trans h1' h2'⟩
theorem smaller_irr(a:List Int):¬smaller a a=true:=by rw [smaller_iff,cmpL_refl];omega
theorem smaller_total{a c:List Int}(h1:¬smaller a c=true)(h2:¬smaller c a=true):a=c:=by
 rw [smaller_iff] at*
 have h3:=cmpL_flip a c
 refine cmpL_zero ?_
 have e1:a.length=c.length:=by omega
 have e2:¬cmpL a c<0:=fun h=>h1 (.inr ⟨e1,h⟩)
 have e3:¬cmpL c a<0:=fun h=>h2 (.inr ⟨e1.symm,h⟩)
 omega
theorem offer_least:∀ (l:List (List Int)) (o:List Int),∃y,l.foldl offer (some o)=some y∧(y=o∨y∈l)∧(∀x,x=o∨x∈l→¬smaller x y=true)
 | [],o=>⟨o,rfl, .inl rfl,fun x hx=>by
  rcases hx with rfl|hx
  ·exact smaller_irr _
  ·cases hx⟩
 |x::l,o=>by
  rw [List.foldl_cons,offer]
  by_cases h:smaller x o=true
  ·rw [if_pos h]
   obtain⟨y,h1,h2,h3⟩:=offer_least l x
   refine⟨y,h1, ?_,fun z hz=>?_⟩
   ·rcases h2 with rfl|h2
    ·exact .inr (by simp)
    ·exact .inr (by simp [h2])
   ·rcases hz with rfl|hz
    ·exact fun hz=>h3 x (.inl rfl) (smaller_trans h hz)
    ·rcases List.mem_cons.1 hz with rfl|hz
     ·exact h3 _ (.inl rfl)
     ·exact h3 z (.inr hz)
  ·rw [if_neg h]
   obtain⟨y,h1,h2,h3⟩:=offer_least l o
   refine⟨y,h1, ?_,fun z hz=>?_⟩
   ·rcases h2 with rfl|h2
    ·exact .inl rfl
    ·exact .inr (by simp [h2])
   ·rcases hz with rfl|hz
    ·exact h3 _ (.inl rfl)
    ·rcases List.mem_cons.1 hz with rfl|hz
     ·intro hz
      have h4:=h3 o (.inl rfl)
      by_cases h5:smaller o z=true
      ·exact h4 (smaller_trans h5 hz)
      ·rw [smaller_total h h5] at hz
       exact h4 hz
     ·exact h3 z (.inr hz)
theorem fewestOf_none{n:Nat}{is:Nat→Bool}(h:∀m,m<2^n→is m=false):fewestOf n is=none:=by
 have:(List.range (2^n)).filter is= []:=by
  rw [List.filter_eq_nil_iff]
  intro m hm
  rw [h m (List.mem_range.1 hm)];simp
 rw [fewestOf,this];rfl
theorem fewestOf_some{n:Nat}{is:Nat→Bool}{m:Nat}(hm:m<2^n)(h:is m=true):∃y,fewestOf n is=some y∧(∃m',m'<2^n∧is m'=true∧y=listOf n m')∧∀m',m'<2^n→is m'=true→¬smaller (listOf n m') y=true:=by
 have hmem:m∈(List.range (2^n)).filter is:=List.mem_filter.2 ⟨List.mem_range.2 hm,h⟩
 have hall:∀m',m'∈(List.range (2^n)).filter is↔m'<2^n∧is m'=true:=fun m'=>by rw [List.mem_filter,List.mem_range]
 unfold fewestOf
 generalize(List.range (2^n)).filter is=L at hmem hall
 cases L with
 |nil=>cases hmem
 |cons k L=>
  obtain⟨y,h1,h2,h3⟩:=offer_least (L.map (listOf n)) (listOf n k)
  refine⟨y,by simpa [offer] using h1, ?_,fun m' hm' his=>?_⟩
  ·rcases h2 with rfl|h2
   ·have:=(hall k).1 (by simp)
    exact⟨k,this.1,this.2,rfl⟩
   ·obtain⟨m',hm',rfl⟩:=List.mem_map.1 h2
    have:=(hall m').1 (by simp [hm'])
    exact⟨m',this.1,this.2,rfl⟩
  ·have:=(hall m').2 ⟨hm',his⟩
   rcases List.mem_cons.1 this with rfl|this
   ·exact h3 _ (.inl rfl)
   ·exact h3 _ (.inr (List.mem_map_of_mem this))
theorem rz_asc:∀ (m:Nat) (n:Int),(rz n m).Pairwise (· < ·)
 |0,_=> .nil
 |m+1,n=>List.pairwise_cons.2 ⟨fun x hx=>by have:=mem_rz.1 hx;omega,rz_asc m (n+1)⟩
section
variable {main:Bool}{J:Goroutine→Mem→Prop}(hJ:Closed prog main J)
include hJ
end
theorem some_asc(o n:Nat):(someL o n).Pairwise (· < ·):=(rz_asc n 0).filter _
theorem some_bd(o n:Nat):∀k∈someL o n,0≤k∧k<(n:Int):=fun k hk=>by
 have:=mem_rz.1 (List.mem_filter.1 hk).1;omega
theorem erase_smaller{l:List Int}{i:Nat}(h:i<l.length):smaller (l.eraseIdx i) l=true:=by
 rw [smaller_iff,List.length_eraseIdx_of_lt h];omega
end Go.Lg.B
namespace Go.Lg.B
open Go Go.Conc Go.Lg Go.Proofs Go.Proofs.Tryz
theorem fewestOf_law{n:Nat}{is:Nat→Bool}{P:List Int→Bool}(h:∀m,m<2^n→is m=P (listOf n m)):
  (fewestOf n is=none∧∀x:List Int,x.Pairwise (· < ·)→(∀k∈x,0≤k∧k<(n:Int))→P x=false)∨
  ∃y,fewestOf n is=some y∧y.Pairwise (· < ·)∧(∀k∈y,0≤k∧k<(n:Int))∧P y=true∧∀x:List Int,x.Pairwise (· < ·)→(∀k∈x,0≤k∧k<(n:Int))→P x=true→¬smaller x y=true:=by
 have hm:∀x:List Int,x.Pairwise (· < ·)→(∀k∈x,0≤k∧k<(n:Int))→maskL x<2^n∧listOf n (maskL x)=x∧is (maskL x)=P x:=fun x h1 h2=>by
  have h3:=listOf_mask h1 h2
  exact⟨maskL_lt h2,h3,by rw [h _ (maskL_lt h2),h3]⟩
 by_cases hq:∃m,m<2^n∧is m=true
 ·obtain⟨m,h1,h2⟩:=hq
  obtain⟨y,h3,⟨m',h4,h5,rfl⟩,h6⟩:=fewestOf_some h1 h2
  refine .inr ⟨_,h3,listOf_asc _ _,fun k hk=>?_,by rw [←h _ h4];exact h5,fun x hx1 hx2 hx3=>?_⟩
  ·obtain⟨j,h7,_,rfl⟩:=listOf_mem.1 hk;omega
  ·obtain⟨k1,k2,k3⟩:=hm x hx1 hx2
   have:=h6 _ k1 (by rw [k3];exact hx3)
   rwa [k2] at this
 ·refine .inl ⟨fewestOf_none fun m hm=>?_,fun x hx1 hx2=>?_⟩
  ·cases e:is m
   ·rfl
   ·exact absurd ⟨m,hm,e⟩ hq
  ·obtain⟨k1,k2,k3⟩:=hm x hx1 hx2
   cases e:P x
   ·rfl
   ·exact absurd ⟨_,k1,k3.trans e⟩ hq
theorem testsGo_of{m:Int}:∀ {l:List Ts},(∀t∈l,(0≤t.g∧t.g<m)∧1≤t.l∧t.l≤99)→testsGo m l=0
 | [],_=>rfl
 |t::l,h=>by
  have ht:=h t (by simp)
  rw [testsGo,if_neg (fun e=>e (there_zero.2 ht.1)),if_neg (fun e=>e (loadH_zero.2 ht.2))]
  exact testsGo_of fun x hx=>h x (by simp [hx])
theorem check_ts{b:Bk}(hch:checkBook b=0){l:List Ts}(hn:l.length≤3)(h:∀t∈l,(0≤t.g∧t.g<b.gs.length)∧1≤t.l∧t.l≤99):checkBook {b with ts:=l}=0:=by
 obtain⟨w,p,g,c,_⟩:=check_parts hch
 have hts:Bk.testsH {b with ts:=l}=0:=by
  unfold Bk.testsH
  rw [if_neg (by show¬l.length>3;omega)]
  exact testsGo_of h
 have hw:Bk.winchH {b with ts:=l}=0:=w
 have hp:Bk.partsH {b with ts:=l}=0:=p
 have hg:Bk.gearsH {b with ts:=l}=0:=g
 have hc:Bk.piecesH {b with ts:=l}=0:=c
 unfold checkBook
 rw [hw,hp,hg,hc,hts];rfl
def Bk.onlyL(b:Bk)(l:List Int):Bk:={b with ts:=l.map fun k=>b.ts.getD k.toNat default}
def noneL(b:Bk)(l:List Int):Bool:=decide (cases (b.onlyL l)= [])
theorem selK_list{mask:Nat}{l:List Ts}:∀k,k≤l.length→selK mask l k=(bitsFrom mask 0 k).map fun i=>l.getD i.toNat default
 |0,_=>by simp [selK,bitsFrom]
 |k+1,h=>by
  rw [selK_succ (by omega),bitsFrom_snoc,selK_list k (by omega)]
  simp only [Nat.zero_add]
  have hk:k<l.length:=by omega
  split
  ·simp [List.getD_eq_getElem?_getD,hk]
  ·simp
theorem only_list(b:Bk)(m:Nat):b.only m=b.onlyL (listOf b.ts.length m):=by
 unfold Bk.only Bk.onlyL selT
 rw [selK_list _ (Nat.le_refl _)];rfl
theorem noneLeft_list(b:Bk)(m:Nat):noneLeft b m=noneL b (listOf b.ts.length m):=by
 unfold noneLeft noneL
 rw [only_list];simp
theorem onlyL_check{b:Bk}(hch:checkBook b=0){l:List Int}(hn:l.length≤3)(hl:∀k∈l,0≤k∧k<(b.ts.length:Int)):checkBook (b.onlyL l)=0:=by
 refine check_ts hch (by simpa using hn) fun t ht=>?_
 obtain⟨k,hk,rfl⟩:=List.mem_map.1 ht
 have:=hl k hk
 have hk':k.toNat<b.ts.length:=by omega
 rw [show b.ts.getD k.toNat default=b.ts[k.toNat] by simp [List.getD_eq_getElem?_getD,hk']]
 exact(good_of hch).ts _ (List.getElem_mem hk')
theorem spread_ne{rs:List Rc}(h:∀r∈rs,r.lo≤r.hi):spread rs≠ []:=by
 have:rs.map (fun r=>r.lo)∈spread rs:=mem_spread.2 ⟨by simp,fun i r hr=>⟨r.lo,by simp [hr],Int.le_refl _,h r (List.mem_of_getElem? hr)⟩⟩
 intro e;rw [e] at this;cases this
theorem weightsL_ne{b:Bk}(hb:b.good):weightsL b≠ []:=spread_ne fun r hr=>by
 obtain⟨c,hc,rfl⟩:=List.mem_map.1 hr
 have:=hb.cs c hc
 unfold Pc.fine at this;omega
theorem cases_nil{b:Bk}(hb:b.good):cases b= []↔bearsL b= []:=by
 constructor
 ·intro h
  rw [List.eq_nil_iff_forall_not_mem] at h⊢
  intro p hp
  cases hw:weightsL b with
  |nil=>exact weightsL_ne hb hw
  |cons w ws=>exact h (p,w) (mem_cases.2 ⟨hp,by rw [hw];simp⟩)
 ·intro h
  unfold cases
  rw [h];rfl
theorem bare_cases{b:Bk}(hb:b.good)(ht:b.ts= []):cases b≠ []:=by
 rw [Ne,cases_nil hb]
 have hr:∀p,right b p=true:=fun p=>by unfold right;rw [ht];rfl
 have h1:spread (b.ps.map Pt.r)≠ []:=spread_ne fun r hr=>by
  obtain⟨c,hc,rfl⟩:=List.mem_map.1 hr
  have:=hb.ps c hc
  unfold Pt.fine at this;omega
 unfold bearsL
 rw [List.filter_eq_self.2 (fun p _=>hr p)]
 exact h1
theorem rz_getD:∀ (l pre:List Ts),(rz pre.length l.length).map (fun k=>(pre++l).getD k.toNat default)=l
 | [],_=>rfl
 |t::l,pre=>by
  have ih:=rz_getD l (pre++ [t])
  rw [List.length_append,List.length_singleton,List.append_assoc,List.singleton_append] at ih
  rw [List.length_cons,rz,List.map_cons,show((pre.length:Int)+1)=((pre.length+1:Nat):Int) by omega,ih]
  simp [List.getD_eq_getElem?_getD]
theorem onlyL_all(b:Bk):b.onlyL (rz 0 b.ts.length)=b:=by
 have:=rz_getD b.ts []
 unfold Bk.onlyL
 rw [List.nil_append] at this
 rw [show(rz 0 b.ts.length).map (fun k=>b.ts.getD k.toNat default)=b.ts from this]
theorem clash_law{b:Bk}(hb:b.good)(hL:cases b= []):∃y,fewestOf b.ts.length (noneLeft b)=some y∧y.Pairwise (· < ·)∧(∀k∈y,0≤k∧k<(b.ts.length:Int))∧noneL b y=true∧(∀x:List Int,x.Pairwise (· < ·)→(∀k∈x,0≤k∧k<(b.ts.length:Int))→noneL b x=true→¬smaller x y=true)∧y≠ []:=by
 rcases fewestOf_law (n:=b.ts.length) (is:=noneLeft b) (P:=noneL b) (fun m _=>noneLeft_list b m) with⟨_,h⟩|⟨y,h1,h2,h3,h4,h5⟩
 ·have:=h (rz 0 b.ts.length) (rz_asc _ _) (fun k hk=>by have:=mem_rz.1 hk;omega)
  unfold noneL at this
  rw [onlyL_all,hL] at this
  simp at this
 ·refine⟨y,h1,h2,h3,h4,h5,fun e=>?_⟩
  subst e
  have hg:(b.onlyL []).good:=⟨hb.w,hb.np,hb.ps,hb.ng,hb.gs,hb.nc,hb.cs,by simp [Bk.onlyL],fun t ht=>by simp [Bk.onlyL] at ht⟩
  exact bare_cases hg rfl (by simpa [noneL] using h4)
section
variable {main:Bool}{J:Goroutine→Mem→Prop}(hJ:Closed prog main J)
include hJ
theorem onlyR_c{b:Bk}{v vl:Value}{ro:RO}{l:List Int}(hv:BkV ro v b)(hl:LsI ro vl l)(hn:l.length≤1000)(hg:∀k∈l,0≤k∧k<(b.ts.length:Int))(hnt:b.ts.length≤1000):CallR prog J (fnv 62) [v,vl] ro (fun w ro'=>BkV ro' w (b.onlyL l)):=by
 obtain⟨vp,vg,vc,vt,rfl,hv⟩:=hv
 obtain⟨pb,pcap,rfl⟩:=hv.1.form
 obtain⟨gb,gcap,rfl⟩:=hv.2.1.form
 obtain⟨cb,ccap,rfl⟩:=hv.2.2.1.form
 obtain⟨tb,tcap,rfl⟩:=hv.2.2.2.form
 have hl0:=hl
 obtain⟨lb,lc,rfl⟩:=hl.form
 refine CallR.intro hJ (by kernel_rfl) fun c cs tail hret=>enter_X (n:=29) func62 U U (Nl U) ?_
 have C:Ctx prog main J (bf 62 .normal):=⟨hJ,by decide⟩
 refine Xr C U U<|R.box C U U U U fun p2=>R.alloc C U U zeroValue27 U fun p4=>R.done C<|Xr C U U<|R5 C U U isAgg27 sizeOf27 (by repeat constructor) Tk5<|R.alloc C U U zeroValue27 U fun p5=>R.store C U U U U sizeOf27 U U U (by repeat constructor) Ph5<|R.done C<|Xr C U U<|Rf C 4 U U runUnderlying27 U sizeOf25<|R.store C U U U U sizeOf25 U U U (by repeat constructor) (.skip (.skip (.skip (.skip (.here .nil)))))<|R.done C<|Xs C<|Xr C U U<|Ad C U U<|X.block C.1<|X.loopI (ι:=Nat×Value×List (Nat×Obj)) C.1 (fun s=>s.1≤l.length∧Buf 92 3 [] s.2.1 ((b.onlyL (l.take s.1)).ts.flatMap Ts.cells) s.2.2)
  (fun s=> [(1, .slice lb l.length lc),(2, .pointer (some ⟨p2,0,none⟩)),(4, .pointer (some ⟨p4,0,none⟩)),(5, .pointer (some ⟨p5,0,none⟩)),(6, .int .i64 (s.1:Int))])
  (fun s=>⟨ro,(p5, .cells [.int .i64 b.w,_,_,_,s.2.1].toArray 27 (0,0))::(s.2.2++((p4, .cells [.int .i64 0, .slice none 0 0, .slice none 0 0, .slice none 0 0, .slice none 0 0].toArray 27 (0,0))::(p2, .cells [.int .i64 b.w, .slice pb b.ps.length pcap, .slice gb b.gs.length gcap, .slice cb b.cs.length ccap, .slice tb b.ts.length tcap].toArray 27 (0,0))::tail))⟩) (fun s=>l.length-s.1) (0, .slice none 0 0, []) ⟨Nat.zero_le _, .nil⟩ rfl ⟨U,U,U,U,U,trivial⟩ fun s hs' hnext=>?_
 obtain⟨i,v0,own0⟩:=s
 obtain⟨hi,hbuf⟩:=hs'
 simp only at hi hbuf hnext⊢
 obtain⟨bs0,cap0,rfl⟩:=hbuf.form (by decide)
 refine Xs C<|Xr C U U<|Rm C U U<|Rm C U U<|Rn C U U runUnderlying28<|R.int C U U U U b_lss<|R.done C<|Xk C U (fun hlt=>?_) (fun hlt=>?_)
 ·have hi':i<l.length:=by omega
  obtain⟨pl,offl,capl,ll,tl,fql,hsll,hropl,hsubl⟩:=hl0.at ic_len (by omega)
  cases hsll
  have hat:=ic_at hsubl hi'
  have hgi:=hg _ (List.getElem_mem hi')
  have hk:l[i].toNat<b.ts.length:=by omega
  obtain⟨pp,off,cap,lt,t,fq,hsl,hrop,hsub⟩:=hv.2.2.2.at Ts.len (by omega)
  cases hsl
  have hsi:=hsub l[i].toNat hk
  have hstep:(b.onlyL (l.take (i+1))).ts=(b.onlyL (l.take i)).ts++ [b.ts[l[i].toNat]]:=by
   unfold Bk.onlyL
   rw [List.take_succ_eq_append_getElem hi',List.map_append]
   simp [List.getD_eq_getElem?_getD,hk]
  have hfl:((b.onlyL (l.take i)).ts.flatMap Ts.cells).length=i*3:=by
   rw [flatMap_len Ts.len]
   simp [Bk.onlyL,List.length_take,Nat.min_eq_left hi]
  generalize b.ts[l[i].toNat]=co at hsi hstep
  have hcl:co.cells.length=3:=rfl
  generalize l[i]=z at hat hgi hk hsi
  refine X.skip C.1<|Xs C<|X.block C.1<|Xd C fun hok=>Df (off':=4) C 0 hok U U U runUnderlying27 U sizeOf25 U<|Dl 1 hok (fun _ _ A h=>R.loadOne C U (A.w U U) (A.x U U) isAgg25 (by repeat (first|exact Mh|apply Mt|apply List.mem_append_right)) U h)<|Df (off':=4) C 2 hok U U U runUnderlying27 U sizeOf25 U<|Dl 3 hok (fun _ _ A h=>R.loadOne C U (A.w U U) (A.x U U) isAgg25 (by repeat (first|exact Mh|apply Mt|apply List.mem_append_right)) U h)<|Dm C 4 hok U U U<|Dm C 5 hok U U U<|Dx C 6 hok U U U runUnderlying28 sizeOf3<|D2 C 7 hok U U isAgg3 hropl hat<|Dx C 8 hok U U U runUnderlying25 sizeOf92<|Dl 9 hok (fun _ _ A h=>R.loadAggRo C U (A.w U U) (A.x U U) isAgg92 sizeOf92 hrop hsi h)<|De 10 (some 25) [false,false,false,true] hok (fun _ _ A hk=>?_)
  refine R.buildSlice C (vs:=_) U (A.w U U) (show pvals _ _=some (numbered 0 [_]) from(A.p U U)) U runUnderlying25 sizeOf92 zeroValue92 (by decide) (Cat.one U U) fun p25=>hk _ _ ⟨(QFs.cons (QF.of U (fun _ _ A h=>R.loadOne C U (A.w U U) (A.x U U) isAgg25 (by repeat (first|exact Mh|apply Mt|apply List.mem_append_right)) U h)) QFs.nil), ?_⟩
  refine De 11 (some 26) [false] hok (fun _ _ A hk=>?_)
  refine R.append2 (kk:=3) C [_] U (A.w U U) (A.x U U) (A.x U U) runUnderlying25 runUnderlying25 (fun _=>nofun) (show prog.info? 92=some Tryz.t92 by kernel_rfl) U U U (by decide) (by decide) (hbuf.app _) U U (by(try simp only [List.length_append,List.length_cons,List.length_nil]);omega) fun v' own' hb'=>hk _ _ ⟨QFs.nil, ?_⟩
  refine Df (off':=4) C 12 hok U U U runUnderlying27 U sizeOf25 U<|De 13 none [] hok (fun _ _ A hk=>?_)
  obtain⟨own1,rfl,hb1⟩:=hb'.unapp (tail:= [])
  refine R.store C U (A.w U U) (A.x U U) (A.x U U) sizeOf25 hb'.cells1 U hb'.ones1 (by repeat (first|exact Uh|apply Ut|apply Upd.app)) (.skip (.skip (.skip (.skip (.here .nil))))) (hk undef _ ⟨QFs.nil, ?_⟩)
  refine D.done C hok (by kernel_rfl)<|X.inBlock C.1<|X.region C U U<|Rm C U U<|Ra C U U U<|Ad C U U<|X.weaken ?_ (hnext (i+1,v',own1) ⟨hi', ?_⟩ (by simp only;omega))
  ·exact⟨rfl,rfl,rfl,rfl,by simp [look],trivial⟩
  ·rw [hstep,List.flatMap_append];exact hb1
 ·obtain rfl:i=l.length:=by omega
  refine X.exit C.1 U<|Xs C<|X.finishA [_] C.1 Ts.len (by decide) (hbuf.app _) fun ro2 hl2 hls=>X.region C U U<|R5 C U U isAgg27 sizeOf27 (by repeat constructor) Tk5<|R.store C U U U U sizeOf27 U U U (by repeat constructor) Ph5<|R.done C<|X.ret C U U func62 U (by exact(.agg U isAgg27 sizeOf27 (by repeat constructor) Tk5 .nil))<|Hr hret hl2 ?_
  exact⟨_,_,_,_,rfl,hv.1.mono hl2,hv.2.1.mono hl2,hv.2.2.1.mono hl2,by rw [List.take_length] at hls⊢;exact hls⟩
end
theorem clashes_root{b:Bk}{vb:Value}{o:Nat}(ho:o<256){ro:RO}(he:Env ro)(hv:BkV ro vb b):Root prog 9 [vb, .int .u8 (o:Int)] ro (fun w _=>w= .bool true):=by
 intro Post hret
 have hJ:Closed prog true (JM prog (Go.Conc.Good prog Post)):=JM.closed
 have hvv:=hv
 obtain⟨vp,vg,vc,vt,rfl,hp,hg,hc,ht⟩:=hv
 obtain⟨pb,pc,rfl⟩:=hp.form
 obtain⟨gb,gc,rfl⟩:=hg.form
 obtain⟨cb,cc,rfl⟩:=hc.form
 obtain⟨tb,tc,rfl⟩:=ht.form
 let main:=true
 let J:=JM prog (Go.Conc.Good prog Post)
 refine enter_X (n:=117) func9 U U (Nl U) ?_
 have C:Ctx prog main J (bf 9 .normal):=⟨hJ,by decide⟩
 refine Xr C U U<|R.box C U U U U fun p2=>Ad C U U<|Xs C<|Xr C U U<|R5 C U U isAgg27 sizeOf27 (by repeat constructor) Tk5<|R.callP C U U U U (fitR_c hJ hvv)<|R.not C U U U<|R.done C<|X.cond C.1 U (fun hfit=>?_) (fun hfit=>?_)
 ·refine Xr C U U<|R.callR C U U U U ((hoisted_c _ he)) fun v9 ro9 hl9 hq9=>Ad C U U<|X.ret0 C (by kernel_rfl) U U func9 U (by exact(.tmp U .nil)) fun w9 hs9=>hret _ _ _ hl9 ?_ w9 hs9
  exact hq9
 ·have hch:checkBook b=0:=by simpa using hfit
  have hb:=good_of hch
  have hsh:=short_of (not_great hch)
  have hnt:=hb.nt
  refine X.skip C.1<|Xr C U U<|R5 C U U isAgg27 sizeOf27 (by repeat constructor) Tk5<|R.callR C U U U U (clash_c hJ he hvv hsh) fun v1 ro1 hl1 hq1=>?_
  obtain⟨w1,y1,rfl⟩:=hq1
  refine Rm C U U<|R.ext C U U U U<|R.ext C U U U U<|R.asg C U U U<|Ad C U U<|Xr C U U<|R5 C U U isAgg27 sizeOf27 (by repeat constructor) Tk5<|R.callR C U U U U (casesN_c hJ (he.mono hl1) (hvv.mono hl1) hsh) fun v2 ro2 hl2 hq2=>?_
  subst hq2
  have k2:=RO.le_trans hl1 hl2
  rw [show casesOf b=(((cases b).length:Int),0) by rw [casesOf,if_neg (fun h=>h hch)]]
  by_cases hL:cases b= []
  ·obtain⟨y,hf,hasc,hbd,hny,hmin,hne⟩:=clash_law hb hL
   have e1:clashR b=(y,0):=by rw [clashR,if_neg (fun h=>h hch),if_neg (by simp [hL]),hf];rfl
   rw [e1] at y1⊢
   have y1:LsI ro1 w1 y:=y1
   rw [hL]
   obtain⟨kb,kc,rfl⟩:=y1.form
   have hyn:y.length≤b.ts.length:=nodup_len (hasc.imp fun h=>by omega) hbd
   have hy0:0<y.length:=List.length_pos_iff.2 hne
   have h48:climbsH (b.ts.length:Int) none y=0:=climbs_asc hasc hbd (fun _ h=>by cases h)
   have hnil:([]:List Tn).length=0:=rfl
   refine Rm C U U<|R.ext C U U U U<|R.ext C U U U U<|R.asg C U U U<|Ad C U U<|Xs C<|Xr C U U<|Rm C U U<|R.int C U U U U b_neq<|R.fixv (t:=32) (v':= .bool false) U (by rfl)<|Rm C U U<|Rm C U U<|R.int C U U U U b_neq<|R.fixv (t:=35) (v':= .bool false) U (by rfl)<|R.pickF C U U U U<|Rm C U U<|Rm C U U<|Rf C 4 U U runUnderlying27 U sizeOf25<|Rl C U U isAgg25 (by repeat constructor) U<|Rn C U U runUnderlying25<|R.callP C U U U U (climbsR_c hJ (y1.mono hl2) (by omega) (by omega))<|R.int C U U U U b_neq<|R.fixv (t:=43) (v':= .bool false) U (by(rw [h48];rfl))<|R.pickF C U U U U<|Rm C U U<|Rm C U U<|R.int C U U U U b_eql<|Rm C U U<|Rn C U U runUnderlying28<|R.int C U U U U b_gtr<|R.neBool C U U U U runUnderlying4<|R.fixv (t:=51) (v':= .bool false) U (by(refine congrArg Value.bool ?_;simp [hy0])) ?_;refine R.pickF C U U U U<|R.done C<|X.cond C.1 U (fun h=>nomatch h) (fun _=>?_)
   refine X.skip C.1<|Xs C<|Xr C U U<|Rm C U U<|R.int C U U U U b_gtr<|R.fixv (t:=54) (v':= .bool false) U (by rfl)<|R.done C<|X.cond C.1 U (fun h=>nomatch h) (fun _=>?_)
   refine X.skip C.1<|Xs C<|Xr C U U<|R5 C U U isAgg27 sizeOf27 (by repeat constructor) Tk5<|Rm C U U<|R.callR C U U U U (onlyR_c hJ (hvv.mono k2) (y1.mono hl2) (by omega) hbd (by omega)) fun v3 ro3 hl3 hq3=>?_
   have k3:=RO.le_trans k2 hl3
   have hch3:=onlyL_check hch (by omega) hbd
   refine R.callR C U U U U (casesN_c hJ (he.mono k3) hq3 (short_of (not_great hch3))) fun v4 ro4 hl4 hq4=>?_
   subst hq4
   have k4:=RO.le_trans k3 hl4
   have hn3:cases (b.onlyL y)= []:=by simpa [noneL] using hny
   rw [show casesOf (b.onlyL y)=(0,0) by rw [casesOf,if_neg (fun h=>h hch3),hn3];rfl]
   refine Rm C U U<|R.ext C U U U U<|R.ext C U U U U<|R.asg C U U U<|Ad C U U<|Xr C U U<|Rm C U U<|R.int C U U U U b_neq<|R.fixv (t:=64) (v':= .bool false) U (by rfl)<|Rm C U U<|Rm C U U<|R.int C U U U U b_neq<|R.fixv (t:=67) (v':= .bool false) U (by rfl)<|R.pickF C U U U U<|R.done C<|X.cond C.1 U (fun h=>nomatch h) (fun _=>?_)
   refine X.skip C.1<|Xs C<|Xr C U U<|Ad C U U<|X.block C.1<|X.loopI (ι:=Nat×RO) C.1 (fun s=>s.1≤y.length∧ro4.le s.2) (fun s=> [(11, .int .i64 (s.1:Int)),(5, .slice kb y.length kc),(1, .int .u8 (o:Int)),(2, .pointer (some ⟨p2,0,none⟩))])
    (fun s=>⟨s.2,(p2, .cells [.int .i64 b.w, .slice pb b.ps.length pc, .slice gb b.gs.length gc, .slice cb b.cs.length cc, .slice tb b.ts.length tc].toArray 27 (0,0)):: []⟩) (fun s=>y.length-s.1) (0,ro4) ⟨Nat.zero_le _,RO.le_refl _⟩ rfl ⟨U,U,U,U,trivial⟩ fun s hs hnext=>?_
   obtain⟨i,ro5⟩:=s
   obtain⟨hi,hle⟩:=hs
   simp only at hi hle hnext⊢
   have k5:=RO.le_trans k4 hle
   have y5:LsI ro5 (.slice kb y.length kc) y:=y1.mono (RO.le_trans hl2 (RO.le_trans hl3 (RO.le_trans hl4 hle)))
   refine Xs C<|Xr C U U<|Rm C U U<|Rm C U U<|Rn C U U runUnderlying28<|R.int C U U U U b_lss<|R.done C<|Xk C U (fun hlt=>?_) (fun hlt=>?_)
   ·have hi':i<y.length:=by omega
    have hsub:=List.eraseIdx_sublist y i
    have hsl:=hsub.length_le
    have hbd2:∀k∈y.eraseIdx i,0≤k∧k<(b.ts.length:Int):=fun k hk=>hbd k (hsub.subset hk)
    have hno:noneL b (y.eraseIdx i)=false:=by
     cases e:noneL b (y.eraseIdx i)
     ·rfl
     ·exact absurd (erase_smaller hi') (hmin _ (hasc.sublist hsub) hbd2 e)
    have hch6:=onlyL_check hch (by omega) hbd2
    have hn6:0<(cases (b.onlyL (y.eraseIdx i))).length:=List.length_pos_iff.2 (by simpa [noneL] using hno)
    refine X.skip C.1<|Xs C<|X.block C.1<|Xs C<|Xd C fun hok=>D5 C 0 hok U U isAgg27 sizeOf27 (by repeat constructor) Tk5<|Dm C 1 hok U U U<|Dm C 2 hok U U U<|De 3 (some 79) [true] hok (fun _ _ A hk=>?_)
    refine R.callR C U (A.w U U) (A.x U U) (A.s U U) (dropR_c hJ y5 (by omega) i) fun v7 ro7 hl7 hq7=>hk _ _ ⟨(QFs.cons (QF.of U (fun _ _ A h=>R.loadAgg C U (A.w U U) (A.x U U) isAgg27 sizeOf27 (by repeat constructor) Tk5 h)) QFs.nil), ?_⟩
    refine De 4 (some 80) [false] hok (fun _ _ A hk=>?_)
    have k7:=RO.le_trans k5 hl7
    refine R.callR C U (A.w U U) (A.x U U) (A.s U U) (onlyR_c hJ (hvv.mono k7) hq7 (by omega) hbd2 (by omega)) fun v8 ro8 hl8 hq8=>hk _ _ ⟨QFs.nil, ?_⟩
    refine De 5 (some 81) [] hok (fun _ _ A hk=>?_)
    have k8:=RO.le_trans k7 hl8
    refine R.callR C U (A.w U U) (A.x U U) (A.s U U) (casesN_c hJ (he.mono k8) hq8 (short_of (not_great hch6))) fun v10 ro10 hl10 hq10=>hk _ _ ⟨QFs.nil, ?_⟩
    subst hq10
    rw [show casesOf (b.onlyL (y.eraseIdx i))=(((cases (b.onlyL (y.eraseIdx i))).length:Int),0) by rw [casesOf,if_neg (fun h=>h hch6)]]
    refine Dm C 6 hok U U U<|Dp 7 hok (fun _ _ _ A h=>R.ext C U (A.w U U) (A.x U U) U h)<|Dp 8 hok (fun _ _ _ A h=>R.ext C U (A.w U U) (A.x U U) U h)<|Da C 9 hok U U<|Da C 10 hok U U<|D.done C hok (by kernel_rfl)<|Xr C U U<|Rm C U U<|R.int C U U U U b_neq<|R.fixv (t:=85) (v':= .bool false) U (by rfl)<|Rm C U U<|Rm C U U<|R.int C U U U U b_eql<|R.fixv (t:=88) (v':= .bool false) U (by(refine congrArg Value.bool ?_;rw [beq_eq_false_iff_ne];omega)) ?_;refine R.pickF C U U U U<|R.done C<|X.cond C.1 U (fun h=>nomatch h) (fun _=>?_)
    refine X.skip C.1<|X.inBlock C.1<|X.region C U U<|Rm C U U<|Ra C U U U<|Ad C U U<|X.weaken ?_ (hnext (i+1,ro10) ⟨hi',RO.le_trans hle (RO.le_trans hl7 (RO.le_trans hl8 hl10))⟩ (by simp only;omega))
    exact⟨by simp [look],rfl,rfl,rfl,trivial⟩
   ·have hsb:=some_bd o b.ts.length
    have hsl:=some_len o b.ts.length
    have hch6:=onlyL_check hch (by omega) hsb
    refine X.exit C.1 U<|Xr C U U<|Rm C U U<|Rf C 4 U U runUnderlying27 U sizeOf25<|Rl C U U isAgg25 (by repeat constructor) U<|Rn C U U runUnderlying25<|R.callR C U U U U (someR_c hJ ho (by omega)) fun v11 ro11 hl11 hq11=>Ad C U U<|Xr C U U<|R5 C U U isAgg27 sizeOf27 (by repeat constructor) Tk5<|Rm C U U ?_
    have k11:=RO.le_trans k5 hl11
    refine R.callR C U U U U (onlyR_c hJ (hvv.mono k11) hq11 (by omega) hsb (by omega)) fun v12 ro12 hl12 hq12=>?_
    have k12:=RO.le_trans k11 hl12
    refine R.callR C U U U U (casesN_c hJ (he.mono k12) hq12 (short_of (not_great hch6))) fun v13 ro13 hl13 hq13=>?_
    subst hq13
    have k13:=RO.le_trans k12 hl13
    have hmx:=hmin _ (some_asc o b.ts.length) hsb
    rw [show casesOf (b.onlyL (someL o b.ts.length))=(((cases (b.onlyL (someL o b.ts.length))).length:Int),0) by rw [casesOf,if_neg (fun h=>h hch6)]]
    by_cases hq:cases (b.onlyL (someL o b.ts.length))= []
    ·have hms:smaller (someL o b.ts.length) y=false:=by simpa using hmx (by simp [noneL,hq])
     rw [hq]
     refine Rm C U U<|R.ext C U U U U<|R.ext C U U U U<|R.asg C U U U<|Ad C U U<|Xr C U U<|Rm C U U<|R.int C U U U U b_eql<|R.fixv (t:=103) (v':= .bool true) U (by rfl)<|Rm C U U<|Rm C U U<|R.int C U U U U b_gtr<|R.fixv (t:=106) (v':= .bool false) U (by rfl)<|Rm C U U<|Rm C U U<|Rm C U U<|R.callP C U U U U (smallerR_c hJ (hq11.mono (RO.le_trans hl12 hl13)) (y5.mono (RO.le_trans hl11 (RO.le_trans hl12 hl13))) (by omega) (by omega))<|R.not C U U U<|R.fixv (t:=111) (v':= .bool true) U (by(rw [hms];rfl))<|R.pickF C U U U U<|R.pickT C U U U U<|Rm C U U<|R.callR C U U U U ((hoisted_c _ (he.mono k13))) fun v9 ro9 hl9 hq9=>R.pickT C U U U U<|Ad C U U<|X.ret0 C (by kernel_rfl) U U func9 U (by exact(.tmp U .nil)) fun w9 hs9=>hret _ _ _ (RO.le_trans k13 hl9) ?_ w9 hs9
     exact hq9
    ·have hpos:=List.length_pos_iff.2 hq
     refine Rm C U U<|R.ext C U U U U<|R.ext C U U U U<|R.asg C U U U<|Ad C U U<|Xr C U U<|Rm C U U<|R.int C U U U U b_eql<|R.fixv (t:=103) (v':= .bool true) U (by rfl)<|Rm C U U<|Rm C U U<|R.int C U U U U b_gtr<|R.fixv (t:=106) (v':= .bool true) U (by(refine congrArg Value.bool ?_;simp;omega)) ?_;refine Rm C U U<|R.pass C U U<|R.pass C U U<|R.pass C U U<|R.pass C U U<|R.pickT C U U U U<|R.pickT C U U U U<|Rm C U U<|R.callR C U U U U ((hoisted_c _ (he.mono k13))) fun v9 ro9 hl9 hq9=>R.pickT C U U U U<|Ad C U U<|X.ret0 C (by kernel_rfl) U U func9 U (by exact(.tmp U .nil)) fun w9 hs9=>hret _ _ _ (RO.le_trans k13 hl9) ?_ w9 hs9
     exact hq9
  ·have e1:clashR b=([],0):=by rw [clashR,if_neg (fun h=>h hch),if_pos hL]
   have hpos:=List.length_pos_iff.2 hL
   rw [e1] at y1⊢
   have y1:LsI ro1 w1 []:=y1
   have hnil:([]:List Int).length=0:=rfl
   obtain⟨kb,kc,rfl⟩:=y1.form
   have h48:climbsH (b.ts.length:Int) none ([]:List Int)=0:=rfl
   refine Rm C U U<|R.ext C U U U U<|R.ext C U U U U<|R.asg C U U U<|Ad C U U<|Xs C<|Xr C U U<|Rm C U U<|R.int C U U U U b_neq<|R.fixv (t:=32) (v':= .bool false) U (by rfl)<|Rm C U U<|Rm C U U<|R.int C U U U U b_neq<|R.fixv (t:=35) (v':= .bool false) U (by rfl)<|R.pickF C U U U U<|Rm C U U<|Rm C U U<|Rf C 4 U U runUnderlying27 U sizeOf25<|Rl C U U isAgg25 (by repeat constructor) U<|Rn C U U runUnderlying25<|R.callP C U U U U (climbsR_c hJ (y1.mono hl2) (by simp) (by omega))<|R.int C U U U U b_neq<|R.fixv (t:=43) (v':= .bool false) U (by(rw [h48];rfl))<|R.pickF C U U U U<|Rm C U U<|Rm C U U<|R.int C U U U U b_eql<|Rm C U U<|Rn C U U runUnderlying28<|R.int C U U U U b_gtr<|R.neBool C U U U U runUnderlying4<|R.fixv (t:=51) (v':= .bool false) U (by(refine congrArg Value.bool ?_;simp;omega)) ?_;refine R.pickF C U U U U<|R.done C<|X.cond C.1 U (fun h=>nomatch h) (fun _=>?_)
   refine X.skip C.1<|Xs C<|Xr C U U<|Rm C U U<|R.int C U U U U b_gtr<|R.fixv (t:=54) (v':= .bool true) U (by(refine congrArg Value.bool ?_;simp;omega)) ?_;refine R.done C<|X.cond C.1 U (fun _=>?_) (fun h=>nomatch h)
   refine Xr C U U<|R.callR C U U U U ((hoisted_c _ (he.mono k2))) fun v9 ro9 hl9 hq9=>Ad C U U<|X.ret0 C (by kernel_rfl) U U func9 U (by exact(.tmp U .nil)) fun w9 hs9=>hret _ _ _ (RO.le_trans k2 hl9) ?_ w9 hs9
   exact hq9
end Go.Lg.B
namespace Go.Lg.B
open Go Go.Proofs Go.Proofs.YtchjgmkeemdhlaaGreatDoor Go.Proofs.Tryz
theorem clashes_k1:(Rows.tackleClashesRow.inPlace==prog.inPlace 9)=true:=by kernel_rfl
theorem clashes_k2:(Rows.tackleClashesRow.unfollowed==prog.unfollowed 9)=true:=by kernel_rfl
theorem clashes_k3:(Rows.tackleClashesRow.recurses==prog.recurses 9)=true:=by kernel_rfl
theorem clashes_k4:(Rows.tackleClashesRow.named==prog.varsNamed 9)=true:=by kernel_rfl
theorem clashes_name:prog.funcNamed "lagan/laganlaw07.TackleClashes" =some 9:=by kernel_rfl
theorem clashes_goes:true=Rows.tackleClashesRow.goesBy prog:=by kernel_rfl
theorem clashes_wf:Rows.tackleClashesRow.wfByText (OpenSpec.ofChange Rows.tackleClashesSpec)=true:=by kernel_rfl
theorem clashes_facts:joinedFacts prog 9 Tryz.f9 Rows.tackleClashesSpec Rows.tackleClashesRow=true:=by
 unfold joinedFacts
 exact(and_mk (and_mk (and_mk (and_mk (and_mk (and_mk (and_mk (and_mk (and_mk (and_mk (and_mk (and_mk (and_mk (and_mk (and_mk (and_mk (and_mk (and_mk (and_mk (and_mk (and_mk (and_mk (and_mk (and_mk (and_mk (and_mk (and_mk (and_mk (and_mk (and_mk (and_mk (by as_aux_lemma=>kernel_rfl)
  k_lo)
  k_mr)
  (by as_aux_lemma=>kernel_rfl))
  (by as_aux_lemma=>kernel_rfl))
  (by as_aux_lemma=>kernel_rfl))
  k_stops)
  (by as_aux_lemma=>kernel_rfl))
  k_knobs)
  clashes_k1)
  clashes_k2)
  clashes_k3)
  clashes_k4)
  (by as_aux_lemma=>kernel_rfl))
  (by as_aux_lemma=>kernel_rfl))
  (by as_aux_lemma=>kernel_rfl))
  (by as_aux_lemma=>kernel_rfl))
  (by as_aux_lemma=>kernel_rfl))
  (by as_aux_lemma=>kernel_rfl))
  (by as_aux_lemma=>kernel_rfl))
  (by as_aux_lemma=>kernel_rfl))
  (by as_aux_lemma=>kernel_rfl))
  (beq_iff_eq.2 k_pk.symm))
  (by as_aux_lemma=>kernel_rfl))
  k_heard)
  k_may)
  (beq_iff_eq.2 k_lift.symm))
  (beq_iff_eq.2 k_make))
  (by as_aux_lemma=>kernel_rfl))
  (by as_aux_lemma=>kernel_rfl))
  (by as_aux_lemma=>kernel_rfl))
  (by as_aux_lemma=>kernel_rfl))
end Go.Lg.B
namespace Go.Proofs.YtchjgmkeemdhlaaGreatDoor
open Go Go.Conc Go.Lg Go.Lg.B Go.ChangeShapes Go.RowKit Go.WideShapes
theorem clashes_lifted(os:Os)(started:os.Started)(H:Type)(enc:TypeId×Value→H):
  ReturnsInLeavingWide {} Tryz.checked os 9 .any (fun w args=>(Rows.tackleClashesSpec.pre enc Tryz.prog Tryz.f9 [] false w args∧laidMetH Tryz.prog laid1 w)∧sizedMet enc Tryz.prog Tryz.f9 (OpenSpec.ofChange Rows.tackleClashesSpec) false w args)
   (Rows.tackleClashesSpec.post enc Tryz.prog Tryz.f9 false true false false):=by
 refine leaving_of_root (C:=Tryz.checked) (tb:=4) (X:=fun w _=>laidMetH Tryz.prog laid1 w) (fun _ _ _ hh h=>h.of_heap hh) own0 started Tryz.func9 laid0 (by
   intro t ht
   rw [Tryz.params9] at ht
   have hm:t∈ [27,5]:=ht
   have hall:([27,5].all fun u=>Tryz.prog.readableRec u && decide (u<Tryz.prog.types.size))=true:=by kernel_rfl
   have:=List.all_eq_true.1 hall t hm
   rw [Bool.and_eq_true,decide_eq_true_eq] at this
   exact this) rfl (by kernel_rfl) Tryz.underlying4
  (ChangeSpec.witness_shaped (enc:=enc) (C:=Tryz.checked) (os:=os) (X:=fun w _=>laidMetH Tryz.prog laid1 w) false (World.doorLaid Tryz.prog 89 os) #[.agg #[.int .i64 0, .slice none 0 0, .slice none 0 0, .slice none 0 0, .slice none 0 0], .int .u8 0] 8 rfl (door_shaped os _) (by kernel_rfl) (by kernel_rfl) (by kernel_rfl) (door_met os _)) ?_
 intro W base args ds gs before hval hW _ _ hL
 obtain⟨p,q,hA,hV,rfl,_,_⟩:=hW
 obtain⟨rfl,rfl⟩:=trodVars_none hV
 have hA:DataW.TrodAll enc Tryz.prog W 0 (fun _=>true) true Tryz.f9.params.toList args.toList ds p:=hA
 have hval:∀ (j:Nat) t v,Tryz.f9.params[j]? =some t→args[j]? =some v→Value.okWide Tryz.prog W .any base t v:=hval
 rw [Tryz.params9] at hA hval
 obtain⟨v1,l1,d1,k1,p1,q1,e1,rfl,rfl,h1,hA⟩:=trodAll_cons hA
 obtain⟨v2,l2,d2,k2,p2,q2,rfl,rfl,rfl,h2,hA⟩:=trodAll_cons hA
 obtain⟨rfl,rfl,rfl⟩:=trodAll_nil hA
 have ea:args= #[v1,v2]:=Array.toList_inj.1 e1
 subst ea
 obtain⟨b,b1⟩:=argBk (hval 0 27 v1 rfl rfl) h1
 obtain⟨g,rfl,o1⟩:=argU8 (hval 1 5 v2 rfl rfl) h2
 exact⟨rfl,by obtain⟨m,rfl⟩:=Int.eq_ofNat_of_zero_le o1.1;exact clashes_root (by omega) (env_of_laid hL) b1⟩
theorem clashes_row:Rows.TackleClashesSaid:=
 OpenClaim.holds_of_wide_leaving 9 Tryz.f9 rfl rfl rfl rfl rfl rfl rfl ⟨rfl,rfl,rfl,rfl,rfl⟩ rfl rfl rfl rfl rfl clashes_name Tryz.func9 clashes_facts
  (of_decide_eq_true (by kernel_rfl)) (by unfold Func.isWrapper;first|(rw [if_pos (by decide+kernel)];kernel_rfl)|(rw [if_neg (by decide+kernel)];exact⟨rfl,rfl⟩))
  (fun os started H enc _=>clashes_lifted os started H enc)
theorem clashes_holds:Rows.TackleClashesCardSaid:=
 card_goes .later [.funcs] true (true, "6ec45924a9ef3528b91853e2f3d4ce9a8ac3f7423f5bdc8d9ecf7c969235976f") true
  clashes_row clashes_wf tackleClashes_row_tie rfl ⟨rfl,rfl⟩ k_main rfl
  (fun f fn hf hfn=>by
   obtain rfl:f=9:=Option.some.inj (clashes_name.symm.trans hf)|>.symm
   obtain rfl:fn=Tryz.f9:=(Option.some.inj (Tryz.func9.symm.trans hfn)).symm
   exact⟨k_looks,fun j t ht=>by
    rw [Tryz.params9] at ht
    have hm:t∈ [27,5]:=by simpa using Array.mem_of_getElem? ht
    have hall:([27,5].all fun u=> !Tryz.prog.wantsStandIn u)=true:=by kernel_rfl
    exact(show Tryz.prog.wantsStandIn t=false by simpa using List.all_eq_true.1 hall t hm)⟩)
  clashes_goes
end Go.Proofs.YtchjgmkeemdhlaaGreatDoor
