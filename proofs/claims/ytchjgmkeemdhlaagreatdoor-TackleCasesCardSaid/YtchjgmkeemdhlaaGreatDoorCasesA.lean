/-
  It is proved that the given function answers true for every input, whatever is scheduled: the statement Cases of the seat. Conditions: none but those of the given statement itself.
-/
import Derived.Test.YtchjgmkeemdhlaaGreatDoorKE
import Derived.WideShapes
import Derived.ChangeShapes
import Derived.Conc.Holds
set_option maxRecDepth 100000
set_option maxHeartbeats 2000000
set_option linter.all false
namespace Go.Lg
open Go
theorem Bv{a c:Bool}(h:a=c):Value.bool a=Value.bool c:=congrArg _ h
end Go.Lg
namespace Go.Lg.B
open Go Go.Conc Go.Lg
theorem pulls_bd{b:Bk}(hb:b.good){g l:Int}(h0:0≤g)(h1:g<b.gs.length)(hl:0≤l):∀y∈pulls b g l,0≤y∧y≤l:=fun y hy=>by
 simp only [pulls,List.mem_cons] at hy
 rcases hy with rfl|hy
 ·omega
 ·exact pullsGo_bd hb (hb.gear h0 h1).2.1 hl y hy
end Go.Lg.B
namespace Go.Lg
open Go Go.Conc
theorem X.afterI{J:Goroutine→Mem→Prop}{b:Frame}{cs:List Frame}{n:Nat}{ds:List Deferred}{σ:Slots}{M:Mem}{k:List Item}{it:Item}{ι:Type}(Ex:ι→Prop)(σe:ι→Slots)(Me:ι→Mem)(hk:∀s,Ex s→X J b cs n k ds (σe s) (Me s))
  (h:(∀s,Ex s→X J b cs n k ds (σe s) (Me s))→X J b cs n (it::k) ds σ M):X J b cs n (it::k) ds σ M:=h hk
theorem X.after{J:Goroutine→Mem→Prop}{b:Frame}{cs:List Frame}{n:Nat}{ds:List Deferred}{σ:Slots}{M:Mem}{k:List Item}{id:Nat}{cc:Code}{ι:Type}(Ex:ι→Prop)(σe:ι→Slots)(Me:ι→Mem)(hk:∀s,Ex s→X J b cs n k ds (σe s) (Me s))
  (h:(∀s,Ex s→X J b cs n k ds (σe s) (Me s))→X J b cs n (.code (.block id cc)::k) ds σ M):X J b cs n (.code (.block id cc)::k) ds σ M:=h hk
section
variable {P:Program}{main:Bool}{J:Goroutine→Mem→Prop}{b:Frame}(C:Ctx P main J b){cs:List Frame}{n:Nat}{ds:List Deferred}{σ:Slots}{k:List Item}{ops:Array Oper}{i:Nat}{rest:List Nat}
 {d:Nat} {ty:TypeId} {pos:String} {af:Array Edge} {g:Option (Nat×Bool)}
include C
end
end Go.Lg
namespace Go.Lg.B
open Go Go.Conc Go.Lg Go.Proofs Go.Proofs.Tryz
theorem cmpI_flip(x y:Int):cmpI y x= -cmpI x y:=by unfold cmpI;split<;>split<;>(try split)<;>omega
theorem cmpL_flip:∀a c:List Int,cmpL c a= -cmpL a c
 | [], []=>rfl
 | [],_::_=>rfl
 |_::_, []=>rfl
 |x::xs,y::ys=>by
  have h:=cmpI_flip x y
  have ih:=cmpL_flip xs ys
  simp only [cmpL]
  split<;>split<;>omega
theorem cmpL_zero:∀ {a c:List Int},cmpL a c=0→a=c
 | [], [],_=>rfl
 | [],_::_,h=>by simp [cmpL] at h
 |_::_, [],h=>by simp [cmpL] at h
 |x::xs,y::ys,h=>by
  simp only [cmpL] at h
  split at h
  ·contradiction
  ·rename_i hx
   simp only [ne_eq,Decidable.not_not] at hx
   rw [cmpI_zero.1 hx,cmpL_zero h]
theorem cmpL_refl:∀a:List Int,cmpL a a=0
 | []=>rfl
 |x::xs=>by
  have:cmpI x x=0:=cmpI_zero.2 rfl
  simp [cmpL,this,cmpL_refl xs]
theorem sameInts_iff{a c:List Int}:sameInts a c=decide (a=c):=by
 unfold sameInts earlier
 have h:=cmpL_flip a c
 by_cases e:a=c
 ·subst e;simp [cmpL_refl]
 ·have:cmpL a c≠0:=fun h=>e (cmpL_zero h)
  rw [decide_eq_false e]
  by_cases h1:cmpL a c<0
  ·simp [h1]
  ·have h2:cmpL c a<0:=by omega
   simp [h2]
section
variable {main:Bool}{J:Goroutine→Mem→Prop}(hJ:Closed prog main J)
include hJ
theorem thereR_c(h:Bool)(ro:RO):CallP prog J (fnv 121) [.bool h] ro (.int .i64 (if h then 0 else 6)):=by
 refine CallP.intro hJ (by kernel_rfl) fun c cs tail hret=>enter_X (n:=4) func121 U U (Nl U) ?_
 have C:Ctx prog main J (bf 121 .normal):=⟨hJ,by decide⟩
 refine Xr C U U<|Ad C U U<|Xs C<|Xr C U U<|Rm C U U<|R.done C<|X.cond C.1 U (fun q1=>?_) (fun q1=>?_)
 ·refine Xr C U U<|Ad C U U<|Xt C func121<|Hp hret ?_
  simp_all [retVal]
 ·refine X.skip C.1<|Xr C U U<|Ad C U U<|Xt C func121<|Hp hret ?_
  simp_all [retVal]
theorem isPieceR_c{b:Bk}{v:Value}{ro:RO}(hv:BkV ro v b)(hb:b.cs.length≤1000000)(k:Int):CallP prog J (fnv 107) [v, .int .i64 k] ro (.bool (between k 0 (b.cs.length-1))):=by
 obtain⟨vp,vg,vc,vt,rfl,hp,hg,hc,ht⟩:=hv
 obtain⟨b1,c1,rfl⟩:=hc.form
 refine CallP.intro hJ (by kernel_rfl) fun c cs tail hret=>enter_X (n:=11) func107 U U (Nl U) ?_
 have C:Ctx prog main J (bf 107 .normal):=⟨hJ,by decide⟩
 refine Xr C U U<|R.box C U U U U fun p2=>Ad C U U<|Xr C U U<|Rm C U U<|Rf C 3 U U runUnderlying27 U sizeOf24<|Rl C U U isAgg24 (by repeat constructor) U<|Rn C U U runUnderlying24<|R.int C U U U U (b_sub (by omega) (by omega))<|R.callP C U U U U (betweenR_c hJ _ _ _ _)<|Ad C U U<|Xt C func107<|Hp hret ?_
 simp_all [retVal]
end
end Go.Lg.B
namespace Go.Lg.B
open Go Go.Conc Go.Lg Go.Proofs Go.WideShapes Go.ChangeShapes Go.Proofs.Tryz
section
variable {H:Type}{enc0:TypeId×Value→H}{W:World}{base:Nat}{sp:Nat→Bool}{held:Bool}
theorem argInt{r:Reach}{b0:Nat}{v:Value}{d:DataW H}{p:List MemPlace}(hv:Value.okWide prog W r b0 3 v)(h:DataW.Trod enc0 prog W base sp held 3 v d p):∃n,v= .int .i64 n∧ -9223372036854775808≤n∧n≤9223372036854775807:=by
 obtain⟨x,rfl,_,_,wx⟩:=open_int underlying3 hv h
 exact⟨x,rfl,by simpa [Lit.wf,IntKind.min,IntKind.max,IntKind.signed,IntKind.bits] using wx⟩
end
end Go.Lg.B
namespace Go.Lg.B
open Go Go.Conc Go.Lg Go.Proofs Go.Proofs.Tryz
theorem behind_mono{n m s:Int}(h:n≤m)(hs:0≤s∧s≤4):behind n s≤behind m s:=by
 have:s=0∨s=1∨s=2∨s=3∨s=4:=by omega
 unfold behind
 rcases this with rfl|rfl|rfl|rfl|rfl<;>omega
inductive LeL:List Int→List Int→Prop
 |nil:LeL [] []
 |cons {x y:Int} {a c:List Int}:x≤y→LeL a c→LeL (x::a) (y::c)
theorem LeL.getD{a c:List Int}(h:LeL a c):∀i,a.getD i 0≤c.getD i 0:=by
 induction h with
 |nil=>intro i;simp
 |cons h _ ih=>
  intro i
  cases i with
  |zero=>simpa using h
  |succ i=>simpa using ih i
theorem pullsGo_mono{b:Bk}(hb:b.good):∀ {g:List Int} {n m:Int},(∀x∈g,0≤x∧x<b.ps.length)→n≤m→LeL (pullsGo b n g) (pullsGo b m g)
 | [],_,_,_,_=> .nil
 |x::g,n,m,h,hn=>by
  have hx:=h x (by simp)
  have:=behind_mono hn (hb.sheaves hx.1 hx.2)
  exact .cons this (pullsGo_mono hb (fun z hz=>h z (by simp [hz])) this)
theorem pulls_mono{b:Bk}(hb:b.good){g n m:Int}(h0:0≤g)(h1:g<b.gs.length)(hn:n≤m):LeL (pulls b g n) (pulls b g m):= .cons hn (pullsGo_mono hb (hb.gear h0 h1).2.1 hn)
theorem gives_mem{b:Bk}{p:List Int}{g n x:Int}:x∈gives b p g n↔(∃i:Nat,i<(b.gear g).length∧nth p ((b.gear g).getD i 0)<(pulls b g n).getD i 0∧x=i)∨(b.w<(pulls b g n).getD (b.gear g).length 0∧x=(b.gear g).length):=by
 unfold gives
 rw [List.mem_append,List.mem_map]
 constructor
 ·rintro(⟨i,hi,rfl⟩|h)
  ·obtain⟨h1,h2⟩:=List.mem_filter.1 hi
   exact .inl ⟨i,List.mem_range.1 h1,by simpa [givesP] using h2,rfl⟩
  ·split at h
   ·rename_i h2;exact .inr ⟨h2,by simpa using h⟩
   ·cases h
 ·rintro(⟨i,h1,h2,rfl⟩|⟨h1,rfl⟩)
  ·exact .inl ⟨i,List.mem_filter.2 ⟨List.mem_range.2 h1,by simpa [givesP] using h2⟩,rfl⟩
  ·exact .inr (by rw [if_pos h1];simp)
theorem gives_sub{b:Bk}(hb:b.good){p:List Int}{g n m x:Int}(h0:0≤g)(h1:g<b.gs.length)(hn:n≤m)(h:x∈gives b p g n):x∈gives b p g m:=by
 have hm:=(pulls_mono hb h0 h1 hn).getD
 rw [gives_mem] at h⊢
 rcases h with⟨i,h2,h3,h4⟩|⟨h3,h4⟩
 ·exact .inl ⟨i,h2,by have:=hm i;omega,h4⟩
 ·exact .inr ⟨by have:=hm (b.gear g).length;omega,h4⟩
theorem lifts_iff{b:Bk}{p:List Int}{g n:Int}(hn:n≠0):lifts b p g n=true↔gives b p g n= []:=by
 simp [lifts,hn]
theorem lifts_mono{b:Bk}(hb:b.good){p:List Int}{g n m:Int}(h0:0≤g)(h1:g<b.gs.length)(h00:0≤n)(hn:n≤m)(h:lifts b p g m=true):lifts b p g n=true:=by
 by_cases e:n=0
 ·subst e;rfl
 ·rw [lifts_iff (by omega)] at h
  rw [lifts_iff e,List.eq_nil_iff_forall_not_mem]
  intro x hx
  have:=gives_sub hb h0 h1 hn hx
  rw [h] at this;cases this
theorem numbers_mem{l:List Int}{x:Int}:x∈numbers l↔x∈l:=by
 have hs:(l.mergeSort fun x y=>decide (x≤y)).Pairwise (· ≤ ·):=by
  have:=List.pairwise_mergeSort (le:=fun x y:Int=>decide (x≤y)) (by intro a b c;simp;omega) (by intro a b;simp;omega) l
  exact this.imp (by intro a b;simp)
 have hf:=fold_asc _ [] .nil hs (by simp)
 show x∈List.foldl cstep [] _↔_
 rw [hf.2]
 simp [(List.mergeSort_perm l _).mem_iff]
theorem numbers_asc(l:List Int):(numbers l).Pairwise (· < ·):=by
 have hs:(l.mergeSort fun x y=>decide (x≤y)).Pairwise (· ≤ ·):=by
  have:=List.pairwise_mergeSort (le:=fun x y:Int=>decide (x≤y)) (by intro a b c;simp;omega) (by intro a b;simp;omega) l
  exact this.imp (by intro a b;simp)
 exact(fold_asc _ [] .nil hs (by simp)).1
def allLift(b:Bk)(g n:Int):Bool:=(cases b).all fun t=>lifts b t.1 g n
theorem allLift_mono{b:Bk}(hb:b.good){g n m:Int}(h0:0≤g)(h1:g<b.gs.length)(h00:0≤n)(hn:n≤m)(h:allLift b g m=true):allLift b g n=true:=by
 unfold allLift at h⊢
 rw [List.all_eq_true] at h⊢
 exact fun t ht=>lifts_mono hb h0 h1 h00 hn (h t ht)
theorem allLift_zero(b:Bk)(g:Int):allLift b g 0=true:=by
 unfold allLift;rw [List.all_eq_true];exact fun _ _=>rfl
theorem mostGo_law{b:Bk}(hb:b.good){g:Int}(h0:0≤g)(h1:g<b.gs.length):∀ (m:Nat) (n mo:Int),0≤n→(∀k,0≤k→k<n→allLift b g k=true)→mo<n→(0<n→mo=n-1)→
  (mostGo b g n m mo=mo∨(n≤mostGo b g n m mo∧mostGo b g n m mo<n+m))∧∀k,n≤k→k<n+m→(allLift b g k=true↔k≤mostGo b g n m mo)
 |0,n,mo,_,_,_,_=>⟨.inl rfl,fun k h1 h2=>by omega⟩
 |m+1,n,mo,hn,hl,hmo,hmo2=>by
  have e:mostGo b g n (m+1) mo=if allLift b g n=true then mostGo b g (n+1) m n else mo:=rfl
  rw [e]
  by_cases hA:allLift b g n=true
  ·rw [if_pos hA]
   obtain⟨h3,h4⟩:=mostGo_law hb h0 h1 m (n+1) n (by omega) (fun k hk hk2=>by
    by_cases e2:k=n
    ·rw [e2];exact hA
    ·exact hl k hk (by omega)) (by omega) (fun _=>by omega)
   refine⟨.inr ?_,fun k hk hk2=>?_⟩
   ·rcases h3 with h3|h3<;>omega
   ·by_cases e2:k=n
    ·subst e2
     refine⟨fun _=>?_,fun _=>hA⟩
     rcases h3 with h3|h3<;>omega
    ·exact h4 k (by omega) (by omega)
  ·rw [if_neg hA]
   refine⟨.inl rfl,fun k hk _=>⟨fun h=>?_,fun h=>by omega⟩⟩
   exact absurd (allLift_mono hb h0 h1 hn hk h) hA
theorem most_law{b:Bk}(hb:b.good){g:Int}(h0:0≤g)(h1:g<b.gs.length):0≤most b g∧most b g≤99∧∀k,0≤k→k≤99→(allLift b g k=true↔k≤most b g):=by
 have e:most b g=if allLift b g 0=true then mostGo b g 1 99 0 else 0:=rfl
 rw [e,if_pos (allLift_zero b g)]
 obtain⟨h3,h4⟩:=mostGo_law hb h0 h1 99 1 0 (by omega) (fun k hk hk2=>(show 0=k by omega)▸allLift_zero b g) (by omega) (fun _=>by omega)
 refine⟨by rcases h3 with h3|h3<;>omega,by rcases h3 with h3|h3<;>omega,fun k hk hk2=>?_⟩
 by_cases e2:k=0
 ·subst e2
  exact⟨fun _=>by rcases h3 with h3|h3<;>omega,fun _=>allLift_zero b g⟩
 ·exact h4 k (by omega) (by omega)
theorem weights_hi{b:Bk}(hb:b.good){k:Int}(h0:0≤k)(h1:k<b.cs.length){x:Int}(hx:(b.piece k).r.lo≤x∧x≤(b.piece k).r.hi):∃w∈weightsL b,nth w k=x:=by
 have hk:k.toNat<b.cs.length:=by omega
 have hpk:b.piece k=b.cs[k.toNat]:=by simp [Bk.piece,List.getD_eq_getElem?_getD,hk]
 refine⟨(b.cs.map fun c=>c.r.lo).set k.toNat x,mem_spread.2 ⟨by simp,fun i r hr=>?_⟩, ?_⟩
 ·rw [List.getElem?_map] at hr
  obtain⟨c,hc,rfl⟩:=Option.map_eq_some_iff.1 hr
  have hi:i<b.cs.length:=(List.getElem?_eq_some_iff.1 hc).1
  have hf:=hb.cs c (List.mem_of_getElem? hc)
  rw [List.getElem?_set]
  by_cases e:k.toNat=i
  ·subst e
   rw [if_pos rfl,if_pos (by simpa using hi)]
   have:c=b.piece k:=by rw [hpk];rw [List.getElem?_eq_getElem hi] at hc;exact(Option.some.inj hc).symm
   exact⟨x,rfl,by simpa [this] using hx⟩
  ·rw [if_neg e,List.getElem?_map,hc]
   exact⟨_,rfl,Int.le_refl _,hf.2.1⟩
 ·simp [nth,List.getD_eq_getElem?_getD,List.getElem?_set,hk]
theorem weights_in{b:Bk}{k:Int}(h0:0≤k)(h1:k<b.cs.length){w:List Int}(hw:w∈weightsL b):(b.piece k).r.lo≤nth w k∧nth w k≤(b.piece k).r.hi:=by
 have hk:k.toNat<b.cs.length:=by omega
 have hpk:b.piece k=b.cs[k.toNat]:=by simp [Bk.piece,List.getD_eq_getElem?_getD,hk]
 obtain⟨_,h⟩:=mem_spread.1 hw
 obtain⟨x,hx,h3⟩:=h k.toNat (b.cs[k.toNat]).r (by simp [hk])
 rw [hpk]
 simpa [nth,List.getD_eq_getElem?_getD,hx] using h3
end Go.Lg.B
namespace Go.Lg
open Go Go.Conc
theorem R.finish{P:Program}{main:Bool}{J:Goroutine→Mem→Prop}{b:Frame}{cs:List Frame}{n:Nat}{ds:List Deferred}{σ:Slots}{ro:RO}{own:List (Nat×Obj)}{k:List Item}{ops:Array Oper}{l:List Nat}{α:Type}{enc:α→List Value}{e:TypeId}{kk:Nat}{v:Value}{xs:List α}{tail:List (Nat×Obj)}(hJ:Closed P main J)(hk:∀x,(enc x).length=kk)(hkp:0<kk)(hb:Buf e kk tail v (xs.flatMap enc) own)
  (h:∀ro':RO,ro.le ro'→Ls enc kk ro' v xs→R J b cs n ops l k ds σ ⟨ro',tail⟩):R J b cs n ops l k ds σ ⟨ro,own⟩:=fun hok=>X.finish hJ hk hkp hb fun ro' hl hls=>h ro' hl hls hok
end Go.Lg
namespace Go.Lg.B
open Go Go.Conc Go.Lg Go.Proofs Go.Proofs.Tryz
section
theorem rz_asc:∀ (m:Nat) (n:Int),(rz n m).Pairwise (· < ·)
 |0,_=> .nil
 |m+1,n=>List.pairwise_cons.2 ⟨fun x hx=>by have:=mem_rz.1 hx;omega,rz_asc m (n+1)⟩
end
section
theorem spread_ne{rs:List Rc}(h:∀r∈rs,r.lo≤r.hi):spread rs≠ []:=by
 have:rs.map (fun r=>r.lo)∈spread rs:=mem_spread.2 ⟨by simp,fun i r hr=>⟨r.lo,by simp [hr],Int.le_refl _,h r (List.mem_of_getElem? hr)⟩⟩
 intro e;rw [e] at this;cases this
theorem weightsL_ne{b:Bk}(hb:b.good):weightsL b≠ []:=spread_ne fun r hr=>by
 obtain⟨c,hc,rfl⟩:=List.mem_map.1 hr
 have:=hb.cs c hc
 unfold Pc.fine at this;omega
theorem weightsOf_mem{b:Bk}{i x:Int}:x∈weightsOf b i↔ ∃t∈cases b,nth t.2 i=x:=by rw [weightsOf,numbers_mem,List.mem_map]
theorem weightsOf_eq{b:Bk}(hb:b.good)(hne:cases b≠ []){k:Int}(h0:0≤k)(h1:k<b.cs.length):weightsOf b k=(b.piece k).r.nums:=by
 refine asc_unique (numbers_asc _) (rz_asc _ _) fun x=>?_
 show x∈weightsOf b k↔x∈(b.piece k).r.nums
 rw [weightsOf_mem,mem_nums]
 constructor
 ·rintro⟨t,ht,rfl⟩
  exact weights_in h0 h1 (mem_cases.1 ht).2
 ·intro hx
  obtain⟨w,hw,e⟩:=weights_hi hb h0 h1 hx
  cases hc:cases b with
  |nil=>exact absurd hc hne
  |cons t T=>
   have ht:t∈cases b:=by rw [hc];simp
   rw [←hc]
   exact⟨(t.1,w),mem_cases.2 ⟨(mem_cases.1 ht).1,hw⟩,e⟩
structure Bk.tiny(b:Bk):Prop where
 ps:b.ps.length≤1000
 gs:b.gs.length≤1000∧∀g∈b.gs,g.length≤1000
 cs:b.cs.length≤1000
 ts:b.ts.length≤1000
theorem getLastD_snoc(l:List Int)(x:Int):(l++ [x]).getLastD 0=x:=by simp [List.getLastD_eq_getLast?]
variable {main:Bool}{J:Goroutine→Mem→Prop}(hJ:Closed prog main J)
include hJ
theorem behindR_c{n s:Int}(hn:0≤n∧n≤99)(hs:0≤s∧s≤4)(ro:RO):CallP prog J (fnv 171) [.int .i64 n, .int .i64 s] ro (.int .i64 (behind n s)):=by
 have hm:=mul_bd hn.1 hn.2 hs.1 hs.2
 refine CallP.intro hJ (by kernel_rfl) fun c cs tail hret=>enter_X (n:=18) func171 U U (Nl U) ?_
 have C:Ctx prog main J (bf 171 .normal):=⟨hJ,by decide⟩
 refine Xr C U U<|Ad C U U<|Xr C U U<|Rm C U U<|Ra C U U U<|R.int C U U U U (b_mul (by omega) (by omega))<|Ad C U U<|Xr C U U<|Rm C U U<|Rm C U U<|Ra C U U U<|R.int C U U U U (b_mul (by omega) (by omega))<|Rm C U U<|Ra C U U U<|R.int C U U U U (b_sub (by omega) (by omega))<|Rm C U U<|R.int C U U U U (b_quoP (by omega) (by omega) (by omega))<|Ad C U U<|Xt C func171<|Hp hret ?_
 rfl
theorem pullsOfR_c{b:Bk}{v:Value}{ro:RO}(hv:BkV ro v b)(hb:b.good){g l:Int}(hg:0≤g∧g<b.gs.length)(hl:0≤l∧l≤99):CallR prog J (fnv 102) [v, .int .i64 g, .int .i64 l] ro (fun w ro'=>LsI ro' w (pulls b g l)):=by
 obtain⟨vp,vg,vc,vt,rfl,hp,hgs,hc,ht⟩:=hv
 obtain⟨pb,pc,rfl⟩:=hp.form
 obtain⟨cb,cc,rfl⟩:=hc.form
 obtain⟨tb,tc,rfl⟩:=ht.form
 obtain⟨pp,po,pcap,pl,ptt,pfq,hpe,hpro,hpsub⟩:=hp.at Pt.len (by have:=hb.np;omega)
 cases hpe
 obtain⟨gp,go,gcap,gl,gt,gfq,rfl,hgro,hgsub⟩:=hgs.at (by omega)
 obtain⟨qb,qc,hqat,hqcap,hq⟩:=hgsub g.toNat (by omega)
 have hgear:b.gs[g.toNat]'(by omega)=b.gear g:=by simp [Bk.gear,List.getD_eq_getElem?_getD,show g.toNat<b.gs.length by omega]
 rw [hgear] at hqat hqcap hq
 have hgn:=hb.gear hg.1 hg.2
 have hgl:=hb.gearLen hg.1 hg.2
 have hpl:pulls b g l=l::pullsGo b l (b.gear g):=rfl
 rw [hpl]
 generalize b.gear g=q at hqat hqcap hq hgn hgl
 refine CallR.intro hJ (by kernel_rfl) fun c cs tail hret=>enter_X (n:=39) func102 U U (Nl U) ?_
 have C:Ctx prog main J (bf 102 .normal):=⟨hJ,by decide⟩
 refine Xr C U U<|R.box C U U U U fun p3=>Ad C U U<|Xr C U U<|Rm C U U<|R.buildSlice C (vs:=_) U U (show pvals _ _=some (numbered 0 [_]) from rfl) U runUnderlying28 sizeOf3 zeroValue3 (by decide) (Cat.one U U) fun p11=>Ad C U U<|Xr C U U<|Rf C 2 U U runUnderlying27 U sizeOf23<|Rl C U U isAgg23 (by repeat constructor) U<|Rm C U U<|Rx C U U U runUnderlying23 sizeOf28<|R.loadOneRo C U U U isAgg28 hgro hqat<|Ad C U U<|Xs C<|Xr C U U<|Ad C U U<|X.block C.1<|X.loopI (ι:=Nat×Value×List (Nat×Obj)) C.1 (fun s=>s.1≤q.length∧Buf 3 1 ((p3, .cells [.int .i64 b.w, .slice (some ⟨pp,po,none⟩) b.ps.length pc, .slice (some ⟨gp,go,none⟩) b.gs.length gcap, .slice cb b.cs.length cc, .slice tb b.ts.length tc].toArray 27 (0,0))::tail) s.2.1 ((l::pullsGo b l (q.take s.1)).flatMap ic) s.2.2)
  (fun s=> [(2, .int .i64 ((l::pullsGo b l (q.take s.1)).getLastD 0)),(7,s.2.1),(8, .slice qb q.length qc),(9, .int .i64 (s.1:Int)),(3, .pointer (some ⟨p3,0,none⟩))])
  (fun s=>⟨ro,s.2.2⟩) (fun s=>q.length-s.1) (0,_,_) ⟨Nat.zero_le _, ?_⟩ rfl ⟨U,U,U,U,U,trivial⟩ fun s hi hnext=>?_
 ·exact .blk (p:=p11) (cells:= [.int .i64 l]) (spare:= []) (cap:=1) (len:=1) rfl rfl (Nat.le_refl _)
 obtain⟨i,vo,own⟩:=s
 obtain⟨hi,hbuf⟩:=hi
 simp only at hi hbuf hnext⊢
 obtain⟨p9,cap9,spare9,rfl,rfl⟩:=bufAt hbuf (by simp [ic])
 refine Xs C<|Xr C U U<|Rm C U U<|Rm C U U<|Rn C U U runUnderlying28<|R.int C U U U U b_lss<|R.done C<|Xk C U (fun hlt=>?_) (fun hlt=>?_)
 ·have hi':i<q.length:=by omega
  obtain⟨p,off,cap,ll,t,fq,hsl',hrop,hsub⟩:=hq.at ic_len (by omega)
  cases hsl'
  have hat:=ic_at hsub hi'
  have hn:=hgn.2.1 _ (List.getElem_mem hi')
  have htk:q.take (i+1)=q.take i++ [q[i]]:=List.take_succ_eq_append_getElem hi'
  have hacc:=pullsGo_snoc b (q.take i) l q[i]
  rw [←htk] at hacc
  generalize q[i]=m at hat hn hacc
  have hs:=hb.sheaves hn.1 hn.2
  have hsh:(b.ps[m.toNat]'(by omega)).sh=b.sheaves m:=by simp [Bk.sheaves,List.getD_eq_getElem?_getD,show m.toNat<b.ps.length by omega]
  have hpt:=pt_sh (hpsub m.toNat (by omega))
  rw [hsh] at hpt
  have hbd:0≤(l::pullsGo b l (q.take i)).getLastD 0∧(l::pullsGo b l (q.take i)).getLastD 0≤99:=by
   have h1:(l::pullsGo b l (q.take i)).getLastD 0∈l::pullsGo b l (q.take i):=by
    rw [List.getLastD_eq_getLast?,List.getLast?_eq_getLast (by simp)];exact List.getLast_mem _
   rcases List.mem_cons.1 h1 with h2|h2
   ·rw [h2];exact hl
   ·have:=pullsGo_bd hb (fun x hx=>hgn.2.1 x (List.mem_of_mem_take hx)) hl.1 _ h2;omega
  have hlen:(pullsGo b l (q.take i)).length=i:=by rw [pullsGo_len];simp;omega
  have hfl:((l::pullsGo b l (q.take i)).flatMap ic).length=i+1:=by rw [flat_len,List.length_cons,hlen]
  have hlast:(l::pullsGo b l (q.take (i+1))).getLastD 0=behind ((l::pullsGo b l (q.take i)).getLastD 0) (b.sheaves m):=by
   rw [hacc, ←List.cons_append,getLastD_snoc]
  generalize hx:(l::pullsGo b l (q.take i)).getLastD 0=x at hbd hacc hlast
  generalize b.sheaves m=sm at hs hpt hacc hlast
  refine X.skip C.1<|Xs C<|X.block C.1<|Xs C<|Xd C fun hok=>Dm C 0 hok U U U<|Df (off':=1) C 1 hok U U U runUnderlying27 U sizeOf22 U<|D1 C 2 hok U U isAgg22 (by repeat constructor) U<|Dm C 3 hok U U U<|Dm C 4 hok U U U<|Dx C 5 hok U U U runUnderlying28 sizeOf3<|D2 C 6 hok U U isAgg3 hrop hat<|Dx C 7 hok U U U runUnderlying22 sizeOf67<|Df C 8 hok U U U runUnderlying67 U sizeOf3 U<|D2 C 9 hok U U isAgg3 hpro hpt<|De 10 (some 33) [false,false,false] hok (fun _ _ A hk=>?_)
  refine R.callP C U (A.w U U) (A.x U U) (A.s U U) (behindR_c hJ hbd hs _) (hk _ _ ⟨QFs.nil, ?_⟩)
  refine Da C 11 hok U U<|D.done C hok (by kernel_rfl)<|X.region C U U<|Rm C U U<|Rm C U U<|R.buildSlice C (vs:=_) U U (show pvals _ _=some (numbered 0 [_]) from rfl) U runUnderlying28 sizeOf3 zeroValue3 (by decide) (Cat.one U U) fun p36=>R.append1 (kk:=1) C U U U U runUnderlying28 runUnderlying28 (fun _=>nofun) (show prog.info? 3=some Tryz.t3 by kernel_rfl) U U U (by decide) (by decide) hbuf U U (by simp only [List.length_append,List.length_cons,List.length_nil];omega) fun v' own' hb'=>Ad C U U<|X.inBlock C.1<|X.region C U U<|Rm C U U<|Ra C U U U<|Ad C U U<|X.weaken ?_ (hnext (i+1,v',own') ⟨hi', ?_⟩ ?_)
  ·exact⟨by simp only [look];rw [hlast],rfl,rfl,by simp [look],rfl,trivial⟩
  ·rw [hacc, ←List.cons_append,List.flatMap_append]
   exact hb'
  ·simp only;omega
 ·obtain rfl:i=q.length:=by omega
  rw [List.take_length] at hbuf⊢
  refine X.exit C.1 U<|Xr C U U<|R.finish C.1 ic_len (by decide) hbuf fun ro' hle hls=>Rm C U U<|Ad C U U<|Xt C func102<|Hr hret hle ?_
  exact hls
theorem givesOfR_c{b:Bk}{v vp':Value}{ro:RO}{p:List Int}(hv:BkV ro v b)(hb:b.good)(hp0:LsI ro vp' p)(hpl:p.length=b.ps.length){g l:Int}(hg:0≤g∧g<b.gs.length)(hl:0≤l∧l≤99):CallR prog J (fnv 60) [v,vp', .int .i64 g, .int .i64 l] ro (fun w ro'=>LsI ro' w (gives b p g l)):=by
 have hvv:=hv
 obtain⟨vp,vg,vc,vt,rfl,hp,hgs,hc,ht⟩:=hv
 obtain⟨pb,pc,rfl⟩:=hp.form
 obtain⟨cb,cc,rfl⟩:=hc.form
 obtain⟨tb,tc,rfl⟩:=ht.form
 obtain⟨gp,go,gcap,gl,gt,gfq,rfl,hgro,hgsub⟩:=hgs.at (by omega)
 obtain⟨qb,qc,hqat,hqcap,hq⟩:=hgsub g.toNat (by omega)
 have hgear:b.gs[g.toNat]'(by omega)=b.gear g:=by simp [Bk.gear,List.getD_eq_getElem?_getD,show g.toNat<b.gs.length by omega]
 rw [hgear] at hqat hqcap hq
 have hgn:=hb.gear hg.1 hg.2
 have hgl:=hb.gearLen hg.1 hg.2
 have hpn:=pulls_len b g l
 have hnp:=hb.np
 have hwb:=hb.w
 have hpb:=pulls_bd hb hg.1 hg.2 hl.1
 obtain⟨kp,ko,kcap,kl,kt,kfq,hks,hkro,hksub⟩:=hp0.at ic_len (by omega)
 subst hks
 have hgv:gives b p g l=givesTo p (b.gear g) (pulls b g l) (b.gear g).length++(if b.w<(pulls b g l).getD (b.gear g).length 0 then [((b.gear g).length:Int)] else []):=rfl
 have hpo:=pullsOfR_c hJ hvv hb hg hl
 rw [hgv]
 generalize b.gear g=q at hqat hqcap hq hgn hgl hpn
 generalize pulls b g l=ls at hpn hpo hpb
 refine CallR.intro hJ (by kernel_rfl) fun c cs tail hret=>enter_X (n:=58) func60 U U (Nl U) ?_
 have C:Ctx prog main J (bf 60 .normal):=⟨hJ,by decide⟩
 refine Xr C U U<|R.box C U U U U fun p4=>Ad C U U<|Xs C<|Xd C fun hok=>Df (off':=2) C 0 hok U U U runUnderlying27 U sizeOf23 U<|D1 C 1 hok U U isAgg23 (by repeat constructor) U<|Dm C 2 hok U U U<|Dx C 3 hok U U U runUnderlying23 sizeOf28<|D2 C 4 hok U U isAgg28 (by first|exact hgro|exact hl1 _ _ hgro) hqat<|D5 C 5 hok U U isAgg27 sizeOf27 (by repeat constructor) Tk5<|Dm C 6 hok U U U<|Dm C 7 hok U U U<|De 8 (some 21) [false,true,true] hok (fun _ _ A hk=>?_)
 refine R.callR C U (A.w U U) (A.x U U) (A.s U U) (hpo) fun w1 ro1 hl1 hw=>hk _ _ ⟨(QFs.cons (QF.of U (fun _ _ A h=>R.loadOneRo C U (A.w U U) (A.x U U) isAgg28 (by first|exact hgro|exact hl1 _ _ hgro) hqat h)) (QFs.cons (QF.of U (fun _ _ A h=>R.loadOne C U (A.w U U) (A.x U U) isAgg23 (by repeat constructor) U h)) QFs.nil)), ?_⟩
 obtain⟨wp,wo,wcap,wl,wt,wfq,rfl,hwro,hwsub⟩:=hw.at ic_len (by omega)
 refine Da C 9 hok U U<|Da C 10 hok U U<|D.done C hok (by kernel_rfl)<|Xr C U U<|Ad C U U<|Xs C<|Xr C U U<|Ad C U U<|X.block C.1<|X.loopI (ι:=Nat×Value×List (Nat×Obj)) C.1 (fun s=>s.1≤q.length∧Buf 3 1 [] s.2.1 ((givesTo p q ls s.1).flatMap ic) s.2.2)
  (fun s=> [(1, .slice (some ⟨kp,ko,none⟩) p.length kcap),(9, .slice qb q.length qc),(10, .slice (some ⟨wp,wo,none⟩) ls.length wcap),(11,s.2.1),(12, .int .i64 (s.1:Int)),(4, .pointer (some ⟨p4,0,none⟩))])
  (fun s=>⟨ro1,s.2.2++((p4, .cells [.int .i64 b.w, .slice pb b.ps.length pc, .slice (some ⟨gp,go,none⟩) b.gs.length gcap, .slice cb b.cs.length cc, .slice tb b.ts.length tc].toArray 27 (0,0))::tail)⟩) (fun s=>q.length-s.1) (0, .slice none 0 0, []) ⟨Nat.zero_le _, .nil⟩ rfl ⟨U,U,U,U,U,U,trivial⟩ fun s hi hnext=>?_
 obtain⟨i,vo,own⟩:=s
 obtain⟨hi,hbuf⟩:=hi
 simp only at hi hbuf hnext⊢
 have hgn0:=givesTo_len p q ls i
 have hgn1:=flat_len (givesTo p q ls i)
 refine Xs C<|Xr C U U<|Rm C U U<|Rm C U U<|Rn C U U runUnderlying28<|R.int C U U U U b_lss<|R.done C<|Xk C U (fun hlt=>?_) (fun hlt=>?_)
 ·have hi':i<q.length:=by omega
  obtain⟨p9,off,cap,ll,t,fq,hsl',hrop,hsub⟩:=hq.at ic_len (by omega)
  cases hsl'
  have hat:=ic_at hsub hi'
  have hwat:=ic_at hwsub (i:=i) (by omega)
  have hn:=hgn.2.1 _ (List.getElem_mem hi')
  have hkl:q[i].toNat<p.length:=by omega
  have hkat:=ic_at hksub hkl
  have hstep:=givesTo_succ p q ls i
  have hgp:givesP p q ls i=decide (p[q[i].toNat]<ls[i]'(by omega)):=by
   unfold givesP nth
   simp [List.getD_eq_getElem?_getD,hi',hkl,show i<ls.length by omega]
  rw [hgp] at hstep
  generalize p[q[i].toNat]=y at hkat hstep
  generalize ls[i]'(by omega)=z at hwat hstep
  generalize q[i]=m at hat hn hkl hkat
  have hrop1:=hl1 _ _ hrop
  have hkro1:=hl1 _ _ hkro
  refine X.skip C.1<|Xs C<|X.block C.1<|Xs C<|Xd C fun hok=>Dm C 0 hok U U U<|Dm C 1 hok U U U<|Dx C 2 hok U U U runUnderlying28 sizeOf3<|D2 C 3 hok U U isAgg3 hwro hwat<|Dm C 4 hok U U U<|Dm C 5 hok U U U<|Dm C 6 hok U U U<|Dx C 7 hok U U U runUnderlying28 sizeOf3<|D2 C 8 hok U U isAgg3 hrop1 hat<|Dx C 9 hok U U U runUnderlying28 sizeOf3<|D2 C 10 hok U U isAgg3 hkro1 hkat<|Di C 11 hok U U U U U b_gtr<|D.done C hok (by kernel_rfl)<|X.cond C.1 U (fun hgv1=>?_) (fun hgv1=>?_)
  ·rw [if_pos (by simpa using hgv1)] at hstep
   refine X.region C U U<|Rm C U U<|Rm C U U<|R.buildSlice C (vs:=_) U U (show pvals _ _=some (numbered 0 [_]) from rfl) U runUnderlying28 sizeOf3 zeroValue3 (by decide) (Cat.one U U) fun p42=>R.append1 (kk:=1) C U U U U runUnderlying28 runUnderlying28 (fun _=>nofun) (show prog.info? 3=some Tryz.t3 by kernel_rfl) U U U (by decide) (by decide) (hbuf.app _) U U (by simp only [List.length_append,List.length_cons,List.length_nil];omega) fun v' own' hb'=>Ad C U U<|X.inBlock C.1<|X.region C U U<|Rm C U U<|Ra C U U U<|Ad C U U ?_
   obtain⟨own3,rfl,hb3⟩:=Buf.unapp (tail:= []) hb'
   refine X.weaken ?_ (hnext (i+1,v',own3) ⟨hi', ?_⟩ (by simp only;omega))
   ·exact⟨rfl,rfl,rfl,rfl,by simp [look],rfl,trivial⟩
   ·rw [hstep,List.flatMap_append];exact hb3
  ·rw [if_neg (by simpa using hgv1)] at hstep
   refine X.skip C.1<|X.inBlock C.1<|X.region C U U<|Rm C U U<|Ra C U U U<|Ad C U U<|X.weaken ?_ (hnext (i+1,vo,own) ⟨hi',by rw [hstep];exact hbuf⟩ (by simp only;omega))
   exact⟨rfl,rfl,rfl,rfl,by simp [look],rfl,trivial⟩
 ·obtain rfl:i=q.length:=by omega
  have hwat:=ic_at hwsub (i:=q.length) (by omega)
  have hlsD:ls.getD q.length 0=ls[q.length]'(by omega):=by simp [List.getD_eq_getElem?_getD,show q.length<ls.length by omega]
  rw [hlsD] at hret
  generalize ls[q.length]'(by omega)=z at hwat hlsD hret
  refine X.exit C.1 U<|Xs C<|Xs C<|Xd C fun hok=>Dm C 0 hok U U U<|Dm C 1 hok U U U<|Ds C 2 hok U U runUnderlying28<|Dx C 3 hok U U U runUnderlying28 sizeOf3<|D2 C 4 hok U U isAgg3 hwro hwat<|Df (off':=0) C 5 hok U U U runUnderlying27 U sizeOf3 U<|Dl 6 hok (fun _ _ A h=>R.loadOne C U (A.w U U) (A.x U U) isAgg3 (by repeat (first|exact Mh|apply Mt|apply List.mem_append_right)) U h)<|Di C 7 hok U U U U U b_gtr<|D.done C hok (by kernel_rfl)<|X.cond C.1 U (fun hz=>?_) (fun hz=>?_)
  ·have hz:b.w<z:=by simpa using hz
   refine X.region C U U<|Rm C U U<|Rm C U U<|Rn C U U runUnderlying28<|R.buildSlice C (vs:=_) U U (show pvals _ _=some (numbered 0 [_]) from rfl) U runUnderlying28 sizeOf3 zeroValue3 (by decide) (Cat.one U U) fun p55=>R.append1 (kk:=1) C U U U U runUnderlying28 runUnderlying28 (fun _=>nofun) (show prog.info? 3=some Tryz.t3 by kernel_rfl) U U U (by decide) (by decide) (hbuf.app _) U U (by simp only [List.length_append,List.length_cons,List.length_nil];omega) fun v' own' hb'=>Ad C U U<|Xs C ?_
   obtain⟨own3,rfl,hb3⟩:=Buf.unapp (tail:= []) hb'
   have hcat:(givesTo p q ls q.length).flatMap ic++ [Value.int .i64 (q.length:Int)]=(givesTo p q ls q.length++ [(q.length:Int)]).flatMap ic:=by rw [List.flatMap_append];rfl
   rw [hcat] at hb3
   refine X.finish C.1 ic_len (by decide) (hb3.app _) fun ro4 hl4 hls4=>X.region C U U<|Rm C U U<|Ad C U U<|Xt C func60<|Hr hret (RO.le_trans hl1 hl4) ?_
   rw [if_pos hz];exact hls4
  ·have hz:¬b.w<z:=by simpa using hz
   refine X.skip C.1<|Xs C<|X.finish C.1 ic_len (by decide) (hbuf.app _) fun ro4 hl4 hls4=>X.region C U U<|Rm C U U<|Ad C U U<|Xt C func60<|Hr hret (RO.le_trans hl1 hl4) ?_
   rw [if_neg hz,List.append_nil];exact hls4
theorem liftsOfR_c{b:Bk}{v vp':Value}{ro:RO}{p:List Int}(hv:BkV ro v b)(hb:b.good)(hp0:LsI ro vp' p)(hpl:p.length=b.ps.length){g l:Int}(hg:0≤g∧g<b.gs.length)(hl:1≤l∧l≤99):CallR prog J (fnv 59) [v,vp', .int .i64 g, .int .i64 l] ro (fun w _=>w= .bool (lifts b p g l)):=by
 have hvv:=hv
 obtain⟨vp,vg,vc,vt,rfl,hp,hgs,hc,ht⟩:=hv
 obtain⟨_,_,rfl⟩:=hp.form
 obtain⟨_,_,rfl⟩:=hgs.form
 obtain⟨_,_,rfl⟩:=hc.form
 obtain⟨_,_,rfl⟩:=ht.form
 have hgl:=gives_len b p g l
 have hgl2:=hb.gearLen hg.1 hg.2
 refine CallR.intro hJ (by kernel_rfl) fun c cs tail hret=>enter_X (n:=16) func59 U U (Nl U) ?_
 have C:Ctx prog main J (bf 59 .normal):=⟨hJ,by decide⟩
 refine Xr C U U<|R.box C U U U U fun p4=>Ad C U U<|Xr C U U<|R5 C U U isAgg27 sizeOf27 (by repeat constructor) Tk5<|Rm C U U<|Rm C U U<|Rm C U U<|R.callR C U U U U (givesOfR_c hJ hvv hb hp0 hpl hg (by omega)) fun w1 ro1 hl1 hw=>?_
 obtain⟨_,_,rfl⟩:=hw.form
 refine Rn C U U runUnderlying28<|R.int C U U U U b_eql<|Ad C U U<|Xt C func59<|Hr hret hl1 ?_
 unfold lifts
 rw [show(l==0)=false by rw [beq_eq_false_iff_ne];omega,Bool.false_or]
 refine congrArg Value.bool ?_
 rw [Bool.eq_iff_iff,beq_iff_eq,beq_iff_eq];omega
theorem testedR_c{b:Bk}{v vp':Value}{ro:RO}{p:List Int}(hv:BkV ro v b)(hb:b.good)(hp0:LsI ro vp' p)(hpl:p.length=b.ps.length):CallR prog J (fnv 109) [v,vp'] ro (fun w _=>w= .bool (right b p)):=by
 have hvv:=hv
 obtain⟨vp,vg,vc,vt,rfl,hp,hgs,hc,ht⟩:=hv
 obtain⟨pb,pc,rfl⟩:=hp.form
 obtain⟨gb,gc,rfl⟩:=hgs.form
 obtain⟨cb,cc,rfl⟩:=hc.form
 obtain⟨tb,tc,rfl⟩:=ht.form
 have hnt:=hb.nt
 obtain⟨kb,kc,hks⟩:=hp0.form
 subst hks
 refine CallR.intro hJ (by kernel_rfl) fun c cs tail hret=>enter_X (n:=29) func109 U U (Nl U) ?_
 have C:Ctx prog main J (bf 109 .normal):=⟨hJ,by decide⟩
 refine Xr C U U<|R.box C U U U U fun p2=>Ad C U U<|Xs C<|Xr C U U<|Ad C U U<|X.block C.1<|X.loopI (ι:=Nat×RO) C.1 (fun s=>s.1≤b.ts.length∧ro.le s.2∧∀j (hj:j<b.ts.length),j<s.1→(lifts b p (b.ts[j]).g (b.ts[j]).l==(b.ts[j]).held)=true) (fun s=> [(1, .slice kb p.length kc),(2, .pointer (some ⟨p2,0,none⟩)),(5, .int .i64 (s.1:Int))])
  (fun s=>⟨s.2,(p2, .cells [.int .i64 b.w, .slice pb b.ps.length pc, .slice gb b.gs.length gc, .slice cb b.cs.length cc, .slice tb b.ts.length tc].toArray 27 (0,0))::tail⟩) (fun s=>b.ts.length-s.1) (0,ro) ⟨Nat.zero_le _,RO.le_refl _,fun j _ hj=>absurd hj (Nat.not_lt_zero _)⟩ rfl ⟨U,U,U,trivial⟩ fun s hs hnext=>?_
 obtain⟨i,ro1⟩:=s
 obtain⟨hi,hle,hall⟩:=hs
 simp only at hi hle hall hnext⊢
 refine Xs C<|Xr C U U<|Rm C U U<|Rf C 4 U U runUnderlying27 U sizeOf25<|Rl C U U isAgg25 (by repeat constructor) U<|Rn C U U runUnderlying25<|R.int C U U U U b_lss<|R.done C<|Xk C U (fun hlt=>?_) (fun hlt=>?_)
 ·have hi':i<b.ts.length:=by omega
  obtain⟨pp,off,cap,ll,ty,fq,hsl,hrop,hsub⟩:=(ht.mono hle).at Ts.len (by omega)
  cases hsl
  have hsi:=hsub i hi'
  have hts:=hb.ts _ (List.getElem_mem hi')
  have hnx:(lifts b p (b.ts[i]).g (b.ts[i]).l==(b.ts[i]).held)=false→right b p=false:=fun h=>by
   unfold right
   rw [List.all_eq_false]
   exact⟨_,List.getElem_mem hi',by simp [h]⟩
  have hst:(lifts b p (b.ts[i]).g (b.ts[i]).l==(b.ts[i]).held)=true→∀j (hj:j<b.ts.length),j<i+1→(lifts b p (b.ts[j]).g (b.ts[j]).l==(b.ts[j]).held)=true:=fun h j hj hji=>by
   by_cases e:j=i
   ·subst e;exact h
   ·exact hall j hj (by omega)
  generalize b.ts[i]=t at hsi hts hnx hst
  have hsi:Sub (off+i*3) 3 ll [.int .i64 t.g, .int .i64 t.l, .bool t.held]:=hsi
  refine X.skip C.1<|Xs C<|X.block C.1<|Xr C U U<|Rf C 4 U U runUnderlying27 U sizeOf25<|Rl C U U isAgg25 (by repeat constructor) U<|Rm C U U<|Rx C U U U runUnderlying25 sizeOf92<|R.loadAggRo C U U U isAgg92 sizeOf92 hrop hsi<|R.alloc C U U zeroValue92 U fun p6=>R.store C U U U U sizeOf92 U U U (by repeat constructor) Ph3<|R.done C<|Xs C<|Xd C fun hok=>D5 C 0 hok U U isAgg27 sizeOf27 (by repeat constructor) Tk5<|Dm C 1 hok U U U<|Df (off':=0) C 2 hok U U U runUnderlying92 U sizeOf3 U<|D1 C 3 hok U U isAgg3 (by repeat constructor) U<|Df (off':=1) C 4 hok U U U runUnderlying92 U sizeOf3 U<|D1 C 5 hok U U isAgg3 (by repeat constructor) U<|Df (off':=2) C 7 hok U U U runUnderlying92 U sizeOf4 U<|D1 C 8 hok U U isAgg4 (by repeat constructor) U<|De 6 (some 25) [true,false,false,false] hok (fun _ _ A hk=>?_)
  refine R.callR C U (A.w U U) (A.x U U) (A.s U U) (liftsOfR_c hJ (hvv.mono hle) hb (hp0.mono hle) hpl hts.1 hts.2) fun w2 ro2 hl2 hw=>hk _ _ ⟨(QFs.cons (QF.of U (fun _ _ A h=>R.loadOne C U (A.w U U) (A.x U U) isAgg4 (by repeat constructor) U h)) QFs.nil), ?_⟩
  subst hw
  refine Dp 9 hok (fun _ _ _ A h=>R.neBool C U (A.w U U) (A.x U U) (A.x U U) runUnderlying4 h)<|D.done C hok (by kernel_rfl)<|X.cond C.1 U (fun hne=>?_) (fun hne=>?_)
  ·have hne:(lifts b p t.g t.l==t.held)=false:=by simpa using hne
   refine Xr C U U<|Ad C U U<|Xt C func109<|Hr hret (RO.le_trans hle hl2) ?_
   rw [hnx hne];rfl
  ·have hne:(lifts b p t.g t.l==t.held)=true:=by simpa using hne
   refine X.skip C.1<|X.inBlock C.1<|X.region C U U<|Rm C U U<|Ra C U U U<|Ad C U U<|X.drop C.1 (own':=_::tail) (List.sublist_cons_self _ _)<|X.weaken ?_ (hnext (i+1,ro2) ⟨hi',RO.le_trans hle hl2,hst hne⟩ (by simp only;omega))
   exact⟨rfl,rfl,by simp [look],trivial⟩
 ·obtain rfl:i=b.ts.length:=by omega
  refine X.exit C.1 U<|Xr C U U<|Ad C U U<|Xt C func109<|Hr hret hle ?_
  have:right b p=true:=by
   unfold right
   rw [List.all_eq_true]
   intro t ht
   obtain⟨j,hj,rfl⟩:=List.getElem_of_mem ht
   exact hall j hj hj
  rw [this];rfl
end
section
def nothing:Bk:=⟨0, [], [], [], []⟩
theorem loadH_if(n:Int):loadH n=if between n 1 99=true then 0 else 1:=rfl
section
variable {main:Bool}{J:Goroutine→Mem→Prop}(hJ:Closed prog main J)
include hJ
theorem askedR_c{b:Bk}{v:Value}{ro:RO}(hv:BkV ro v b)(hs:b.short)(g n:Int):CallP prog J (fnv 101) [v, .int .i64 g, .int .i64 n] ro (.int .i64 (if there g b.gs.length≠0 then there g b.gs.length else loadH n)):=by
 have hvv:=hv
 obtain⟨vp,vg,vc,vt,rfl,hp,hg,hc,ht⟩:=hv
 obtain⟨pb,pc,rfl⟩:=hp.form
 obtain⟨gb,gc,rfl⟩:=hg.form
 obtain⟨cb,cc,rfl⟩:=hc.form
 obtain⟨tb,tc,rfl⟩:=ht.form
 have hsg:=hs.gs.1
 refine CallP.intro hJ (by kernel_rfl) fun c cs tail hret=>enter_X (n:=14) func101 U U (Nl U) ?_
 have C:Ctx prog main J (bf 101 .normal):=⟨hJ,by decide⟩
 refine Xr C U U<|R.box C U U U U fun p3=>Ad C U U<|Xs C<|Xr C U U<|R5 C U U isAgg27 sizeOf27 (by repeat constructor) Tk5<|Rm C U U<|R.callP C U U U U (isGearR_c hJ hvv (by omega) g)<|R.not C U U U<|R.done C<|X.cond C.1 U (fun h1=>?_) (fun h1=>?_)
 ·have h1:between g 0 ((b.gs.length:Int) -1)=false:=by simpa using h1
  refine Xr C U U<|Ad C U U<|Xt C func101<|Hp hret ?_
  rw [there_if,if_neg (show¬between g 0 ((b.gs.length:Int) -1)=true by rw [h1];decide)];rfl
 ·have h1:between g 0 ((b.gs.length:Int) -1)=true:=by simpa using h1
  refine X.skip C.1<|Xs C<|Xr C U U<|Rm C U U<|R.callP C U U U U (betweenR_c hJ _ _ _ _)<|R.not C U U U<|R.done C<|X.cond C.1 U (fun h2=>?_) (fun h2=>?_)
  ·have h2:between n 1 99=false:=by simpa using h2
   refine Xr C U U<|Ad C U U<|Xt C func101<|Hp hret ?_
   rw [there_if,if_pos h1,loadH_if,if_neg (show¬between n 1 99=true by rw [h2];decide)];rfl
  ·have h2:between n 1 99=true:=by simpa using h2
   refine X.skip C.1<|Xr C U U<|Ad C U U<|Xt C func101<|Hp hret ?_
   rw [there_if,if_pos h1,loadH_if,if_pos h2];rfl
end
end
section
abbrev U16:={n:Int//0≤n∧n≤65535}
def uc(n:U16):List Value:= [.int .u16 n.1]
end
section
theorem ins_up{xs:List Int}{x:Int}{k:Nat}(hup:xs.Pairwise (· < ·))(hlo:∀j (h:j<xs.length),j<k→xs[j]<x)(hhi:∀h:k<xs.length,x<xs[k]):(xs.take k++x::xs.drop k).Pairwise (· < ·):=by
 have hs:=hup
 rw [←List.take_append_drop k xs,List.pairwise_append] at hs
 obtain⟨h1,h2,h3⟩:=hs
 have hx:∀y∈xs.drop k,x<y:=fun y hy=>by
  by_cases hk:k<xs.length
  ·rw [List.drop_eq_getElem_cons hk] at hy h2
   rcases List.mem_cons.1 hy with rfl|hy
   ·exact hhi hk
   ·have:=(List.pairwise_cons.1 h2).1 y hy
    have:=hhi hk
    omega
  ·rw [List.drop_of_length_le (by omega)] at hy;exact nomatch hy
 refine List.pairwise_append.2 ⟨h1,List.pairwise_cons.2 ⟨hx,h2⟩,fun a ha y hy=>?_⟩
 obtain⟨j,hj,rfl⟩:=List.getElem_of_mem ha
 rw [List.length_take] at hj
 have ha':(xs.take k)[j]<x:=by rw [List.getElem_take];exact hlo j (by omega) (by omega)
 rcases List.mem_cons.1 hy with rfl|hy
 ·exact ha'
 ·have:=hx y hy;omega
theorem ins_mem{xs:List Int}{x y:Int}{k:Nat}:y∈xs.take k++x::xs.drop k↔y∈xs∨y=x:=by
 have h:y∈xs↔y∈xs.take k∨y∈xs.drop k:=by rw [←List.mem_append,List.take_append_drop]
 rw [List.mem_append,List.mem_cons,h]
 constructor
 ·rintro(h|h|h)
  ·exact .inl (.inl h)
  ·exact .inr h
  ·exact .inl (.inr h)
 ·rintro((h|h)|h)
  ·exact .inl h
  ·exact .inr (.inr h)
  ·exact .inr (.inl h)
theorem take_mem{l:List Int}{i:Nat}(h:i<l.length){y:Int}:y∈l.take (i+1)↔y∈l.take i∨y=l[i]:=by
 rw [List.take_succ_eq_append_getElem h,List.mem_append,List.mem_singleton]
theorem ic_getY(l:List Int)(i:Nat):(l.flatMap ic)[i]? =l[i]?.map (Value.int .i64):=by
 have e:l.flatMap ic=l.map (Value.int .i64):=by
  induction l with
  |nil=>rfl
  |cons x l ih=>rw [List.flatMap_cons,ih];rfl
 rw [e,List.getElem?_map]
theorem rd_to{ro:RO}{own:List (Nat×Obj)}{base:Option Addr}{cap:Nat}{xs:List Int}(h:LsI ro (.slice base xs.length cap) xs){k:Nat}(hk:k≤xs.length):Rd ⟨ro,own⟩ 1 (.slice base k cap) (xs.take k).length ((xs.take k).flatMap ic):=by
 have hl:(xs.take k).length=k:=by rw [List.length_take];omega
 rw [hl]
 by_cases h0:k=0
 ·subst h0;exact .zero
 ·obtain⟨p,off,cap',l,t,fq,hv,hr,hsub⟩:=h.at ic_len (by omega)
  cases hv
  refine .ro hr (Sub.of_get ?_ (by rw [flat_len,hl,Nat.mul_one]) fun i hi=>?_)
  ·have:=(ic_at hsub (i:=k-1) (by omega))
   have:=(List.getElem?_eq_some_iff.1 this).1
   omega
  ·have hi':i<xs.length:=by omega
   have h1:=ic_at hsub hi'
   rw [Nat.mul_one] at h1
   rw [h1,ic_getY]
   rw [List.getElem?_take,if_pos (by omega),List.getElem?_eq_getElem hi'];rfl
theorem rd_from{ro:RO}{own:List (Nat×Obj)}{base:Option Addr}{cap:Nat}{xs:List Int}(h:LsI ro (.slice base xs.length cap) xs){k:Nat}(hk:k≤xs.length)(hc:xs.length≤cap):Rd ⟨ro,own⟩ 1 (.slice (if cap=(k:Int).toNat then base else base.map (·.add ((k:Int).toNat*1))) (xs.length- (k:Int).toNat) (cap- (k:Int).toNat)) (xs.drop k).length ((xs.drop k).flatMap ic):=by
 rw [Int.toNat_natCast]
 have hl:(xs.drop k).length=xs.length-k:=List.length_drop
 rw [hl]
 by_cases h0:k=xs.length
 ·rw [List.drop_of_length_le (by omega),h0,Nat.sub_self];exact .zero
 ·obtain⟨p,off,cap',l,t,fq,hv,hr,hsub⟩:=h.at ic_len (by omega)
  cases hv
  rw [if_neg (by omega)]
  have hadd:(some (⟨p,off,none⟩:Addr)).map (·.add (k*1))=some ⟨p,off+k*1,none⟩:=by by_cases h:k=0<;>simp [Addr.add,h]
  rw [hadd]
  refine .ro hr (Sub.of_get ?_ (by rw [flat_len,hl,Nat.mul_one]) fun i hi=>?_)
  ·have:=(ic_at hsub (i:=xs.length-1) (by omega))
   have:=(List.getElem?_eq_some_iff.1 this).1
   omega
  ·have hi':k+i<xs.length:=by omega
   have h1:=ic_at hsub hi'
   rw [Nat.mul_one] at h1
   rw [Nat.mul_one,Nat.add_assoc,h1,ic_getY,List.getElem?_drop,List.getElem?_eq_getElem hi'];rfl
section
variable {main:Bool}{J:Goroutine→Mem→Prop}(hJ:Closed prog main J)
include hJ
theorem sortedR_c{l:List Int}{v:Value}{ro:RO}(hl:LsI ro v l)(hn:l.length≤1000000):CallR prog J (fnv 123) [v] ro (fun w ro'=>LsI ro' w (numbers l)):=by
 have hl0:=hl
 obtain⟨lb,lc,rfl⟩:=hl.form
 refine CallR.intro hJ (by kernel_rfl) fun c cs tail hret=>enter_X (n:=60) func123 U U (Nl U) ?_
 have C:Ctx prog main J (bf 123 .normal):=⟨hJ,by decide⟩
 refine Xr C U U<|Ad C U U<|Xr C U U<|Ad C U U<|Xs C<|Xr C U U<|Ad C U U<|X.block C.1<|X.loopI (ι:=Nat×RO×Value×List Int) C.1 (fun s=>s.1≤l.length∧ro.le s.2.1∧LsI s.2.1 s.2.2.1 s.2.2.2∧capOk s.2.2.1∧s.2.2.2.length≤s.1∧s.2.2.2.Pairwise (· < ·)∧∀y,y∈s.2.2.2↔y∈l.take s.1) (fun s=> [(0, .slice lb l.length lc),(3,s.2.2.1),(4, .int .i64 (s.1:Int))])
  (fun s=>⟨s.2.1,tail⟩) (fun s=>l.length-s.1) (0,ro, .slice none 0 0, []) ⟨Nat.zero_le _,RO.le_refl _,Ls.nil,⟨_,_,_,rfl,Nat.le_refl _⟩,Nat.le_refl _, .nil,fun y=>by simp⟩ rfl ⟨U,U,U,trivial⟩ fun s hs hnext=>?_
 obtain⟨i,ro1,v1,xs⟩:=s
 obtain⟨hi,hle1,hL1,hcap,hxl,hup,hmem⟩:=hs
 simp only at hi hle1 hL1 hcap hxl hup hmem hnext⊢
 have hL10:=hL1
 obtain⟨b1,c1,rfl⟩:=hL1.form
 obtain⟨bs',len',cap',hcv,hc1⟩:=hcap
 cases hcv
 refine Xs C<|Xr C U U<|Rm C U U<|Rm C U U<|Rn C U U runUnderlying28<|R.int C U U U U b_lss<|R.done C<|Xk C U (fun hlt=>?_) (fun hlt=>?_)
 ·have hi':i<l.length:=by omega
  obtain⟨pl,offl,capl,ll,tl,fql,hsll,hropl,hsubl⟩:=hl0.at ic_len (by omega)
  cases hsll
  have hxl0:=ic_at hsubl hi'
  have hro1:=hle1 _ _ hropl
  have htm:=fun y=>take_mem (y:=y) hi'
  generalize hX:l[i]=x at hxl0 htm
  refine X.skip C.1<|Xs C<|X.block C.1<|Xr C U U<|Ad C U U<|Xs C<|X.after (ι:=Nat) (fun k=>k≤xs.length∧(∀j (h:j<xs.length),j<k→xs[j]<x)∧∀h:k<xs.length,x≤xs[k]) (fun k=> [(0, .slice (some ⟨pl,offl,none⟩) l.length lc),(3, .slice b1 xs.length c1),(4, .int .i64 (i:Int)),(5, .int .i64 (k:Int))]) (fun k=>⟨ro1,tail⟩) (fun k hk=>?_) (fun hcont=>?_)
  ·obtain⟨hk,hlo,hhi⟩:=hk
   have hsame:∀h:k<xs.length,xs[k]=x→∀y,y∈xs↔y∈l.take (i+1):=fun h e y=>by
    rw [htm, ←hmem]
    refine⟨.inl,fun h=>h.elim id fun h=>?_⟩
    rw [h, ←e];exact List.getElem_mem _
   have hinv:(∀h:k<xs.length,xs[k]≠x)→i+1≤l.length∧(xs.take k++x::xs.drop k).length≤i+1∧(xs.take k++x::xs.drop k).Pairwise (· < ·)∧∀y,y∈xs.take k++x::xs.drop k↔y∈l.take (i+1):=fun hne=>
    ⟨by omega,by rw [List.length_append,List.length_cons,List.length_take,List.length_drop];omega,ins_up hup hlo fun h=>by have:=hhi h;have:=hne h;omega,fun y=>by rw [ins_mem,hmem,htm]⟩
   have hf1:((xs.take k).flatMap ic).length=k:=by rw [flat_len,List.length_take];omega
   have hf2:((xs.drop k).flatMap ic).length=xs.length-k:=by rw [flat_len,List.length_drop]
   have hcat:(([]++(xs.take k).flatMap ic)++ [Value.int .i64 x])++(xs.drop k).flatMap ic=(xs.take k++x::xs.drop k).flatMap ic:=by simp [ic]
   have hkx:=hk
   obtain⟨r,hr⟩:∃r,r=decide (xs[k]? ≠some x):=⟨_,rfl⟩
   refine Xs C<|X.afterI (ι:=Unit) (fun _=>True) (fun _=> [(0, .slice (some ⟨pl,offl,none⟩) l.length lc),(3, .slice b1 xs.length c1),(4, .int .i64 (i:Int)),(5, .int .i64 (k:Int)),(43, .bool r)]) (fun _=>⟨ro1,tail⟩) (fun _ _=>?_) (fun hcont9=>?_)
   ·have _:=hr
    refine X.cond C.1 U (fun hq=>?_) (fun hq=>?_)
    ·have hne:∀h:k<xs.length,xs[k]≠x:=fun h e=>by
      rw [hq,List.getElem?_eq_getElem h,e] at hr;simp at hr
     obtain⟨g1,g2,g3,g4⟩:=hinv hne
     refine Xd C fun hok=>Dm C 1 hok U U U<|Dm C 2 hok U U U<|Dp 3 hok (fun _ _ _ A h=>R.sliceTo C U (A.w U U) (A.x U U) (A.x U U) runUnderlying28 sizeOf3 (by omega) (by omega) h)<|Dm C 5 hok U U U<|Dm C 6 hok U U U<|Dx C 7 hok U U U runUnderlying28 sizeOf3<|D2 C 8 hok U U isAgg3 hro1 hxl0<|Dm C 11 hok U U U<|Dm C 12 hok U U U<|Dp 13 hok (fun _ _ _ A h=>R.sliceFrom C U (A.w U U) (A.x U U) (A.x U U) runUnderlying28 sizeOf3 (by omega) (by omega) h)<|D.eP2 (i:=0) (i':=9) (dst:=(some 44)) (dst':=(some 53)) [true] [false] hok U U (by kernel_rfl) (by kernel_rfl) (by kernel_rfl) (fun _ _ A hk=>?_) (fun _ _ A hk=>?_)
     ·
      refine R.buildSlice C (vs:=_) U (A.w U U) (show pvals _ _=some (numbered 0 []) from(A.p U U)) U runUnderlying28 sizeOf3 zeroValue3 (by decide) (.nil) fun p44=>hk _ _ ⟨(QFs.cons (QF.of U (fun _ _ A h=>R.loadOneRo C U (A.w U U) (A.x U U) isAgg3 hro1 hxl0 h)) QFs.nil), ?_⟩
      refine D.eP2 (i:=4) (i':=9) (dst:=(some 48)) (dst':=(some 53)) [true] [false] hok U U (by kernel_rfl) (by kernel_rfl) (by kernel_rfl) (fun _ _ A hk=>?_) (fun _ _ A hk=>?_)
      ·
       refine R.appendH (kk:=1) C U (A.w U U) (A.x U U) (A.x U U) runUnderlying28 runUnderlying28 (fun _=>nofun) (show prog.info? 3=some Tryz.t3 by kernel_rfl) U U U (by decide) (by decide) (Buf.blk (tail:= []) (cells:= []) (spare:= []) (len:=0) (cap:=0) U U (Nat.le_refl _)) (rd_to (k:=k) hL10 hkx) (ones_ic _) (by simp only [List.length_nil];omega) U fun v' own' hb'=>hk _ _ ⟨(QFs.cons (QF.of U (fun _ _ A h=>R.loadOneRo C U (A.w U U) (A.x U U) isAgg3 hro1 hxl0 h)) QFs.nil), ?_⟩
       refine De 9 (some 53) [false] hok (fun _ _ A hk=>?_)
       refine R.buildSlice C (vs:=_) U (A.w U U) (show pvals _ _=some (numbered 0 [_]) from(A.p U U)) U runUnderlying28 sizeOf3 zeroValue3 (by decide) (Cat.one U U) fun p53=>hk _ _ ⟨QFs.nil, ?_⟩
       refine De 10 (some 54) [] hok (fun _ _ A hk=>?_)
       refine R.append1 (kk:=1) C U (A.w U U) (A.x U U) (A.x U U) runUnderlying28 runUnderlying28 (fun _=>nofun) (show prog.info? 3=some Tryz.t3 by kernel_rfl) U U U (by decide) (by decide) (hb'.app _) U U (by simp only [List.length_append,List.length_cons,List.length_nil];omega) fun v' own' hb'=>hk _ _ ⟨QFs.nil, ?_⟩
       refine De 14 (some 58) [] hok (fun _ _ A hk=>?_)
       refine R.append (kk:=1) C U (A.w U U) (A.x U U) (A.x U U) runUnderlying28 runUnderlying28 (fun _=>nofun) (show prog.info? 3=some Tryz.t3 by kernel_rfl) U U U (by decide) (by decide) hb' (rd_from (k:=k) hL10 hkx hc1) (ones_ic _) (by simp only [List.length_append,List.length_cons,List.length_nil];omega) fun v' own' hb'=>hk _ _ ⟨QFs.nil, ?_⟩
       refine Da C 15 hok U U<|D.done C hok (by kernel_rfl)<|X.inBlock C.1<|X.region C U U<|Rm C U U<|Ra C U U U<|Ad C U U ?_
       have hco:=hb'.capOk
       rw [hcat] at hb'
       refine X.finish C.1 ic_len (by decide) hb' fun ro3 hl3 hls3=>X.weaken ?_ (hnext (i+1,ro3,_,_) ⟨g1,RO.le_trans hle1 hl3,hls3,hco,g2,g3,g4⟩ (by omega))
       exact⟨U,U,U,trivial⟩
      ·
       refine R.buildSlice C (vs:=_) U (A.w U U) (show pvals _ _=some (numbered 0 [_]) from(A.p U U)) U runUnderlying28 sizeOf3 zeroValue3 (by decide) (Cat.one U U) fun p53=>hk _ _ ⟨QFs.nil, ?_⟩
       refine De 4 (some 48) [] hok (fun _ _ A hk=>?_)
       refine R.perm C.1 (List.Perm.swap _ _ _)<|R.appendH (kk:=1) C U (A.w U U) (A.x U U) (A.x U U) runUnderlying28 runUnderlying28 (fun _=>nofun) (show prog.info? 3=some Tryz.t3 by kernel_rfl) U U U (by decide) (by decide) (Buf.blk (tail:= []) (cells:= []) (spare:= []) (len:=0) (cap:=0) U U (Nat.le_refl _)) (rd_to (k:=k) hL10 hkx) (ones_ic _) (by simp only [List.length_nil];omega) U fun v' own' hb'=>hk _ _ ⟨QFs.nil, ?_⟩
       refine De 10 (some 54) [] hok (fun _ _ A hk=>?_)
       refine R.perm C.1 (List.perm_middle (l₁:=own') (a:=(p53, .cells [.int .i64 x].toArray 3 (0,0))) (l₂:=tail))<|R.append1 (kk:=1) C U (A.w U U) (A.x U U) (A.x U U) runUnderlying28 runUnderlying28 (fun _=>nofun) (show prog.info? 3=some Tryz.t3 by kernel_rfl) U U U (by decide) (by decide) (hb'.app _) U U (by simp only [List.length_append,List.length_cons,List.length_nil];omega) fun v' own' hb'=>hk _ _ ⟨QFs.nil, ?_⟩
       refine De 14 (some 58) [] hok (fun _ _ A hk=>?_)
       refine R.append (kk:=1) C U (A.w U U) (A.x U U) (A.x U U) runUnderlying28 runUnderlying28 (fun _=>nofun) (show prog.info? 3=some Tryz.t3 by kernel_rfl) U U U (by decide) (by decide) hb' (rd_from (k:=k) hL10 hkx hc1) (ones_ic _) (by simp only [List.length_append,List.length_cons,List.length_nil];omega) fun v' own' hb'=>hk _ _ ⟨QFs.nil, ?_⟩
       refine Da C 15 hok U U<|D.done C hok (by kernel_rfl)<|X.inBlock C.1<|X.region C U U<|Rm C U U<|Ra C U U U<|Ad C U U ?_
       have hco:=hb'.capOk
       rw [hcat] at hb'
       refine X.finish C.1 ic_len (by decide) hb' fun ro3 hl3 hls3=>X.weaken ?_ (hnext (i+1,ro3,_,_) ⟨g1,RO.le_trans hle1 hl3,hls3,hco,g2,g3,g4⟩ (by omega))
       exact⟨U,U,U,trivial⟩
     ·
      refine R.buildSlice C (vs:=_) U (A.w U U) (show pvals _ _=some (numbered 0 [_]) from(A.p U U)) U runUnderlying28 sizeOf3 zeroValue3 (by decide) (Cat.one U U) fun p53=>hk _ _ ⟨QFs.nil, ?_⟩
      refine De 0 (some 44) [] hok (fun _ _ A hk=>?_)
      refine R.buildSlice C (vs:=_) U (A.w U U) (show pvals _ _=some (numbered 0 []) from(A.p U U)) U runUnderlying28 sizeOf3 zeroValue3 (by decide) (.nil) fun p44=>hk _ _ ⟨QFs.nil, ?_⟩
      refine De 4 (some 48) [] hok (fun _ _ A hk=>?_)
      refine R.appendH (kk:=1) C U (A.w U U) (A.x U U) (A.x U U) runUnderlying28 runUnderlying28 (fun _=>nofun) (show prog.info? 3=some Tryz.t3 by kernel_rfl) U U U (by decide) (by decide) (Buf.blk (tail:= []) (cells:= []) (spare:= []) (len:=0) (cap:=0) U U (Nat.le_refl _)) (rd_to (k:=k) hL10 hkx) (ones_ic _) (by simp only [List.length_nil];omega) U fun v' own' hb'=>hk _ _ ⟨QFs.nil, ?_⟩
      refine De 10 (some 54) [] hok (fun _ _ A hk=>?_)
      refine R.perm C.1 (List.perm_middle (l₁:=own') (a:=(p53, .cells [.int .i64 x].toArray 3 (0,0))) (l₂:=tail))<|R.append1 (kk:=1) C U (A.w U U) (A.x U U) (A.x U U) runUnderlying28 runUnderlying28 (fun _=>nofun) (show prog.info? 3=some Tryz.t3 by kernel_rfl) U U U (by decide) (by decide) (hb'.app _) U U (by simp only [List.length_append,List.length_cons,List.length_nil];omega) fun v' own' hb'=>hk _ _ ⟨QFs.nil, ?_⟩
      refine De 14 (some 58) [] hok (fun _ _ A hk=>?_)
      refine R.append (kk:=1) C U (A.w U U) (A.x U U) (A.x U U) runUnderlying28 runUnderlying28 (fun _=>nofun) (show prog.info? 3=some Tryz.t3 by kernel_rfl) U U U (by decide) (by decide) hb' (rd_from (k:=k) hL10 hkx hc1) (ones_ic _) (by simp only [List.length_append,List.length_cons,List.length_nil];omega) fun v' own' hb'=>hk _ _ ⟨QFs.nil, ?_⟩
      refine Da C 15 hok U U<|D.done C hok (by kernel_rfl)<|X.inBlock C.1<|X.region C U U<|Rm C U U<|Ra C U U U<|Ad C U U ?_
      have hco:=hb'.capOk
      rw [hcat] at hb'
      refine X.finish C.1 ic_len (by decide) hb' fun ro3 hl3 hls3=>X.weaken ?_ (hnext (i+1,ro3,_,_) ⟨g1,RO.le_trans hle1 hl3,hls3,hco,g2,g3,g4⟩ (by omega))
      exact⟨U,U,U,trivial⟩
    ·obtain⟨hk',hqe⟩:∃h:k<xs.length,xs[k]=x:=by
      rw [hq] at hr
      have:xs[k]? =some x:=by simpa using hr.symm
      exact List.getElem?_eq_some_iff.1 this
     refine X.skip C.1<|X.inBlock C.1<|X.region C U U<|Rm C U U<|Ra C U U U<|Ad C U U<|X.weaken ?_ (hnext (i+1,ro1,_,xs) ⟨hi',hle1,hL10,⟨_,_,_,rfl,hc1⟩,Nat.le_succ_of_le hxl,hup,hsame hk' hqe⟩ (by omega))
     exact⟨U,U,U,trivial⟩
   ·have _:=hcont9
    refine Xd C fun hok=>Dm C 0 hok U U U<|Dm C 1 hok U U U<|Ds C 2 hok U U runUnderlying28<|Di C 3 hok U U U U U b_eql<|Dm C 4 hok U U U<|D.fix (t:=33) U (fun hg=>?_) (fun hg=>?_)
    ·simp at hg
     have hrt:r=true:=by rw [hr,List.getElem?_eq_none (by omega)];simp
     refine Du C 5 hok U<|Du C 6 hok U<|Du C 7 hok U<|Du C 8 hok U<|Du C 9 hok U<|Du C 10 hok U<|Du C 11 hok U<|Du C 12 hok U<|Du C 13 hok U<|Dp 14 hok (fun _ _ _ A h=>R.pickT C U (A.w U U) (A.x U U) (A.x U U) h)<|D.done C hok (by kernel_rfl)<|X.weaken ?_ (hcont9 () trivial)
     rw [hrt]
     exact⟨U,U,U,U,U,trivial⟩
    ·simp at hg
     have hk':k<xs.length:=by omega
     obtain⟨px,offx,capx,lx,tx,fqx,hslx,hropx,hsubx⟩:=hL10.at ic_len (by omega)
     cases hslx
     have hxk:=ic_at hsubx hk'
     have hrt:(xs[k] !=x)=r:=by rw [hr,List.getElem?_eq_getElem hk',Bool.eq_iff_iff];simp
     refine Dm C 5 hok U U U<|Dm C 6 hok U U U<|Dx C 7 hok U U U runUnderlying28 sizeOf3<|D2 C 8 hok U U isAgg3 hropx hxk<|Dm C 9 hok U U U<|Dm C 10 hok U U U<|Dx C 11 hok U U U runUnderlying28 sizeOf3<|D2 C 12 hok U U isAgg3 hro1 hxl0<|Di C 13 hok U U U U U b_neq<|Dp 14 hok (fun _ _ _ A h=>R.pickF C U (A.w U U) (A.x U U) (A.x U U) h)<|D.done C hok (by kernel_rfl)<|X.weaken ?_ (hcont9 () trivial)
     rw [←hrt]
     exact⟨U,U,U,U,U,trivial⟩
  ·have _:=hi'
   refine X.block C.1<|X.loopI (ι:=Nat) C.1 (fun k=>k≤xs.length∧∀j (h:j<xs.length),j<k→xs[j]<x) (fun k=> [(0, .slice (some ⟨pl,offl,none⟩) l.length lc),(3, .slice b1 xs.length c1),(4, .int .i64 (i:Int)),(5, .int .i64 (k:Int))])
    (fun k=>⟨ro1,tail⟩) (fun k=>xs.length-k) 0 ⟨Nat.zero_le _,fun j _ h=>absurd h (Nat.not_lt_zero _)⟩ rfl ⟨U,U,U,U,trivial⟩ fun k hk hnext2=>?_
   obtain⟨hk,hlo⟩:=hk
   refine Xs C<|Xs C<|Xd C fun hok=>Dm C 0 hok U U U<|Dm C 1 hok U U U<|Ds C 2 hok U U runUnderlying28<|Di C 3 hok U U U U U b_lss<|Dm C 4 hok U U U<|D.fix (t:=16) U (fun hg=>?_) (fun hg=>?_)
   ·simp only [dT] at hg
    have hk':k<xs.length:=by omega
    obtain⟨px,offx,capx,lx,tx,fqx,hslx,hropx,hsubx⟩:=hL10.at ic_len (by omega)
    cases hslx
    have hxk:=ic_at hsubx hk'
    refine Dm C 5 hok U U U<|Dm C 6 hok U U U<|Dx C 7 hok U U U runUnderlying28 sizeOf3<|D2 C 8 hok U U isAgg3 hropx hxk<|Dm C 9 hok U U U<|Dm C 10 hok U U U<|Dx C 11 hok U U U runUnderlying28 sizeOf3<|D2 C 12 hok U U isAgg3 hro1 hxl0<|Di C 13 hok U U U U U b_lss<|Dp 14 hok (fun _ _ _ A h=>R.pickT C U (A.w U U) (A.x U U) (A.x U U) h)<|D.done C hok (by kernel_rfl)<|Xk C U (fun hq=>?_) (fun hq=>?_)
    ·refine X.skip C.1<|X.block C.1<|X.region C U U<|Rm C U U<|Ra C U U U<|Ad C U U<|X.inBlock C.1<|X.weaken ?_ (hnext2 (k+1) ⟨by omega,fun j h1 h2=>?_⟩ (by omega))
     ·exact⟨rfl,rfl,rfl,by simp [look],trivial⟩
     ·by_cases hjk:j<k
      ·exact hlo j h1 hjk
      ·obtain rfl:j=k:=by omega
       exact hq
    ·refine X.exit C.1 U<|X.weaken ?_ (hcont k ⟨hk,hlo,fun _=>by omega⟩)
     exact⟨U,U,U,U,trivial⟩
   ·simp only [dF] at hg
    refine Du C 5 hok U<|Du C 6 hok U<|Du C 7 hok U<|Du C 8 hok U<|Du C 9 hok U<|Du C 10 hok U<|Du C 11 hok U<|Du C 12 hok U<|Du C 13 hok U<|Dp 14 hok (fun _ _ _ A h=>R.pickF C U (A.w U U) (A.x U U) (A.x U U) h)<|D.done C hok (by kernel_rfl)<|X.cond C.1 U (fun h=>nomatch h) (fun _=>?_)
    refine X.exit C.1 U<|X.weaken ?_ (hcont k ⟨hk,hlo,fun h=>absurd h (by omega)⟩)
    exact⟨U,U,U,U,trivial⟩
 ·obtain rfl:i=l.length:=by omega
  refine X.exit C.1 U<|Xr C U U<|Rm C U U<|Ad C U U<|Xt C func123<|Hr hret hle1 ?_
  show LsI _ _ (numbers l)
  rw [numbers,compact_sort hup (fun y=>by rw [hmem,List.take_length])]
  exact hL10
end
end
section
def grow(all:List (List Int))(r:Rc):List (List Int):=all.flatMap fun x=>r.nums.map fun n=>x++ [n]
theorem grow_spread:∀ (rs:List Rc) (all:List (List Int)),rs.foldl grow all=all.flatMap fun x=>(spread rs).map (x++ ·)
 | [],all=>by simp [spread]
 |r::rs,all=>by
  rw [List.foldl_cons,grow_spread rs,grow,List.flatMap_assoc]
  congr 1;funext x
  simp only [spread,List.flatMap_map,List.map_flatMap,List.map_map]
  congr 1;funext n;congr 1;funext l;simp
theorem grow_all(rs:List Rc):rs.foldl grow [[]]=spread rs:=by rw [grow_spread];simp
theorem grow_to(rs:List Rc){i:Nat}(h:i<rs.length):spread (rs.take (i+1))=grow (spread (rs.take i)) rs[i]:=by
 rw [←grow_all, ←grow_all,List.take_succ_eq_append_getElem h,List.foldl_append];rfl
theorem grow_take(l:List (List Int))(r:Rc){k:Nat}(h:k<l.length):grow (l.take (k+1)) r=grow (l.take k) r++r.nums.map fun n=>l[k]++ [n]:=by
 unfold grow;rw [List.take_succ_eq_append_getElem h,List.flatMap_append];simp
theorem grow_le(l:List (List Int)){r:Rc}(h:r.hi-r.lo<3):(grow l r).length≤3*l.length:=by
 unfold grow
 induction l with
 |nil=>simp
 |cons x l ih=>
  have:r.nums.length≤3:=by rw [Rc.nums,rz_len];omega
  rw [List.flatMap_cons,List.length_append,List.length_map,List.length_cons];omega
theorem rz_to(lo:Int):∀m,rz lo (m+1)=rz lo m++ [lo+m]
 |0=>by simp [rz]
 |m+1=>by
  rw [rz,rz_to (lo+1) m,rz,List.cons_append,show lo+1+(m:Int)=lo+((m+1:Nat):Int) by omega]
section
variable {main:Bool}{J:Goroutine→Mem→Prop}(hJ:Closed prog main J)
include hJ
theorem listsR_c{rs:List Rc}{v:Value}{ro:RO}(hv:Ls Rc.cells 2 ro v rs)(hn:rs.length≤4)(hr:∀r∈rs,0≤r.lo∧r.lo≤r.hi∧r.hi≤99∧r.hi-r.lo<3):CallR prog J (fnv 178) [v] ro (fun w ro'=>LsG ro' w (spread rs)):=by
 have hv0:=hv
 obtain⟨vb,vc,rfl⟩:=hv.form
 refine CallR.intro hJ (by kernel_rfl) fun c cs tail hret=>enter_X (n:=49) func178 U U (Nl U) ?_
 have C:Ctx prog main J (bf 178 .normal):=⟨hJ,by decide⟩
 refine Xr C U U<|Ad C U U<|Xr C U U<|R.buildSlice C (vs:=_) U U (show pvals _ _=some (numbered 0 [_]) from rfl) U runUnderlying23 sizeOf28 zeroValue28 (by decide) (Cat.one U U) fun p8=>Ad C U U<|Xs C<|Xr C U U<|Ad C U U<|X.block C.1<|X.finish C.1 (enc:=fun z:Value×List Int=> [z.1]) (kk:=1) (e:=28) (xs:= [(.slice none 0 0, [])]) (fun _=>rfl) (by decide) (Buf.blk (cells:= [.slice none 0 0]) (spare:= []) (len:=1) (cap:=1) U U (Nat.le_refl _)) fun ro0 hl0 hls0=>X.loopI (ι:=Nat×RO×Value) C.1 (fun s=>s.1≤rs.length∧ro0.le s.2.1∧LsG s.2.1 s.2.2 (spread (rs.take s.1))) (fun s=> [(0, .slice vb rs.length vc),(3,s.2.2),(4, .int .i64 (s.1:Int))])
  (fun s=>⟨s.2.1,tail⟩) (fun s=>rs.length-s.1) (0,ro0, .slice (some ⟨p8,0,none⟩) 1 1) ⟨Nat.zero_le _,RO.le_refl _,_,hls0,rfl,fun z hz=>by simp at hz;subst hz;exact⟨Ls.nil,_,_,_,rfl,Nat.le_refl _⟩⟩ rfl ⟨U,U,U,trivial⟩ fun s hs hnext=>?_
 obtain⟨i,ro1,v1⟩:=s
 obtain⟨hi,hle1,hg1⟩:=hs
 simp only at hi hle1 hg1 hnext⊢
 refine Xs C<|Xr C U U<|Rm C U U<|Rm C U U<|Rn C U U runUnderlying210<|R.int C U U U U b_lss<|R.done C<|Xk C U (fun hlt=>?_) (fun hlt=>?_)
 ·have hi':i<rs.length:=by omega
  have hstep:=grow_to rs hi'
  have hri:=hr _ (List.getElem_mem hi')
  have hallx:∀x∈spread (rs.take i),x.length=i:=fun x hx=>by rw [spread_len x hx,List.length_take];omega
  have hal:(spread (rs.take i)).length≤81:=by
   have h1:=spread_le (rs:=rs.take i) fun r h=>(hr r (List.mem_of_mem_take h)).2.2.2
   have h2:3^ (rs.take i).length≤3^4:=Nat.pow_le_pow_right (by decide) (by rw [List.length_take];omega)
   omega
  obtain⟨rp,rof,rcap,rl,rt,rfq,hsl,hrro,hrsub⟩:=(hv0.mono (RO.le_trans hl0 hle1)).at (fun _=>rfl) (by omega)
  cases hsl
  have hsi:=hrsub i hi'
  generalize rs[i]=r at hstep hri hsi
  generalize spread (rs.take i)=all at hg1 hstep hallx hal
  have hlo:rl[rof+i*2+0]? =some (.int .i64 r.lo):=hsi.get 0 (by decide)
  have hhi:rl[rof+i*2+1]? =some (.int .i64 r.hi):=hsi.get 1 (by decide)
  obtain⟨ab,ac,rfl⟩:=hg1.form
  refine X.skip C.1<|Xs C<|X.block C.1<|Xr C U U<|Ad C U U<|Xs C<|Xr C U U<|Ad C U U<|X.block C.1<|X.loopI (ι:=Nat×RO×Value×List (Value×List Int)×List (Nat×Obj)) C.1 (fun s=>s.1≤all.length∧ro1.le s.2.1∧Buf 28 1 tail s.2.2.1 (s.2.2.2.1.flatMap fun z=> [z.1]) s.2.2.2.2∧s.2.2.2.1.map (·.2)=grow (all.take s.1) r∧∀z∈s.2.2.2.1,LsI s.2.1 z.1 z.2∧capOk z.1) (fun s=> [(0, .slice (some ⟨rp,rof,none⟩) rs.length vc),(3, .slice ab all.length ac),(4, .int .i64 (i:Int)),(5,s.2.2.1),(6, .int .i64 (s.1:Int))])
   (fun s=>⟨s.2.1,s.2.2.2.2⟩) (fun s=>all.length-s.1) (0,ro1, .slice none 0 0, [],tail) ⟨Nat.zero_le _,RO.le_refl _, .nil,by simp [grow],fun _ h=>nomatch h⟩ rfl ⟨U,U,U,U,U,trivial⟩ fun s hs hnext2=>?_
  obtain⟨k,ro2,v2,zs2,own2⟩:=s
  obtain⟨hk,hle2,hb2,hzs2,hls2⟩:=hs
  simp only at hk hle2 hb2 hzs2 hls2 hnext2⊢
  refine Xs C<|Xr C U U<|Rm C U U<|Rm C U U<|Rn C U U runUnderlying23<|R.int C U U U U b_lss<|R.done C<|Xk C U (fun hlt2=>?_) (fun hlt2=>?_)
  ·have hk':k<all.length:=by omega
   obtain⟨ap,ao,acap,al,aty,afq,hasl,haro,hasub⟩:=hg1.at (by omega)
   cases hasl
   obtain⟨qb,qc,hqat,hqc,hqls⟩:=hasub k hk'
   have hgt:=grow_take all r hk'
   have hgl:=grow_le (all.take k) hri.2.2.2
   rw [List.length_take] at hgl
   have hxl:=hallx _ (List.getElem_mem hk')
   generalize all[k]=x at hqat hqc hqls hgt hxl
   have hrro2:=hle2 _ _ hrro
   have hrl:∃c:Nat,c=(r.hi+1-r.lo).toNat:=⟨_,rfl⟩
   obtain⟨c,hc⟩:=hrl
   have hnums:r.nums=rz r.lo c:=by rw [hc];rfl
   refine X.skip C.1<|Xs C<|X.block C.1<|Xr C U U<|Rm C U U<|Rm C U U<|Rx C U U U runUnderlying210 sizeOf65<|R.fieldAddr C U U U runUnderlying65 U sizeOf3 U<|R.loadOneRo C U U U isAgg3 hrro2 hlo<|Ad C U U<|X.block C.1<|X.loopI (ι:=Nat×RO×Value×List (Value×List Int)×List (Nat×Obj)) C.1 (fun s=>s.1≤c∧ro2.le s.2.1∧Buf 28 1 tail s.2.2.1 (s.2.2.2.1.flatMap fun z=> [z.1]) s.2.2.2.2∧s.2.2.2.1.map (·.2)=grow (all.take k) r++(rz r.lo s.1).map (fun n=>x++ [n])∧∀z∈s.2.2.2.1,LsI s.2.1 z.1 z.2∧capOk z.1) (fun s=> [(0, .slice (some ⟨rp,rof,none⟩) rs.length vc),(3, .slice (some ⟨ap,ao,none⟩) all.length ac),(4, .int .i64 (i:Int)),(5,s.2.2.1),(6, .int .i64 (k:Int)),(7, .int .i64 (r.lo+(s.1:Int)))])
    (fun s=>⟨s.2.1,s.2.2.2.2⟩) (fun s=>c-s.1) (0,ro2,v2,zs2,own2) ⟨Nat.zero_le _,RO.le_refl _,hb2,by simp [hzs2,rz],hls2⟩ rfl ⟨rfl,rfl,rfl,rfl,rfl,by simp [look],trivial⟩ fun s hs hnext3=>?_
   obtain⟨j,ro3,v3,zs3,own3⟩:=s
   obtain⟨hj,hle3,hb3,hzs3,hls3⟩:=hs
   simp only at hj hle3 hb3 hzs3 hls3 hnext3⊢
   have hlen3:=congrArg List.length hzs3
   rw [List.length_map,List.length_append,List.length_map,rz_len] at hlen3
   have hff3:(zs3.flatMap fun z:Value×List Int=> [z.1]).length=zs3.length:=by rw [flatMap_len (k:=1) (fun _=>rfl),Nat.mul_one]
   have hrro3:=hle3 _ _ hrro2
   have haro3:=hle3 _ _ (hle2 _ _ haro)
   have hqls3:=hqls.mono (RO.le_trans hle2 hle3)
   refine Xs C<|Xr C U U<|Rm C U U<|Rm C U U<|Rm C U U<|Rx C U U U runUnderlying210 sizeOf65<|R.fieldAddr C U U U runUnderlying65 U sizeOf3 U<|R.loadOneRo C U U U isAgg3 hrro3 hhi<|R.int C U U U U b_leq<|R.done C<|Xk C U (fun hlt3=>?_) (fun hlt3=>?_)
   ·have hfl:=flat_len x
    refine X.skip C.1<|Xs C<|X.block C.1<|X.region C U U<|Rm C U U<|R.buildSlice C (vs:=_) U U (show pvals _ _=some (numbered 0 []) from rfl) U runUnderlying28 sizeOf3 zeroValue3 (by decide) (.nil) fun p36=>Rm C U U<|Rm C U U<|Rx C U U U runUnderlying23 sizeOf28<|R.loadOneRo C U U U isAgg28 haro3 hqat<|R.append (kk:=1) C U U U U runUnderlying28 runUnderlying28 (fun _=>nofun) (show prog.info? 3=some Tryz.t3 by kernel_rfl) U U U (by decide) (by decide) (Buf.blk (cells:= []) (spare:= []) (len:=0) (cap:=0) U U (Nat.le_refl _)) (hqls3.rd ic_len) (ones_ic x) (by simp only [List.length_nil];omega) fun v' own' hb'=>Rm C U U<|R.buildSlice C (vs:=_) U U (show pvals _ _=some (numbered 0 [_]) from rfl) U runUnderlying28 sizeOf3 zeroValue3 (by decide) (Cat.one U U) fun p43=>R.append1 (kk:=1) C U U U U runUnderlying28 runUnderlying28 (fun _=>nofun) (show prog.info? 3=some Tryz.t3 by kernel_rfl) U U U (by decide) (by decide) hb' U U (by simp only [List.length_append,List.length_cons,List.length_nil];omega) fun v' own' hb'=>?_
    have e3:([]++x.flatMap ic)++ [Value.int .i64 (r.lo+(j:Int))]=(x++ [r.lo+(j:Int)]).flatMap ic:=by simp [List.flatMap_append,ic]
    rw [e3] at hb'
    have hco:=hb'.capOk
    refine R.finish C.1 ic_len (by decide) hb' fun ro4 hl4 hls4=>?_
    obtain⟨b4,c4,rfl⟩:=hls4.form
    refine R.buildSlice C (vs:=_) U U (show pvals _ _=some (numbered 0 [_]) from rfl) U runUnderlying23 sizeOf28 zeroValue28 (by decide) (Cat.one U U) fun p45=>R.append1 (kk:=1) C U U U U runUnderlying23 runUnderlying23 (fun _=>nofun) (show prog.info? 28=some Tryz.t28 by kernel_rfl) U U U (by decide) (by decide) hb3 U U (by simp only [List.length_append,List.length_cons,List.length_nil];omega) fun v' own' hb'=>Ad C U U<|X.inBlock C.1<|X.region C U U<|Rm C U U<|Ra C U U U<|Ad C U U<|X.weaken ?_ (hnext3 (j+1,ro4,_,zs3++ [(.slice b4 (x++ [r.lo+(j:Int)]).length c4,x++ [r.lo+(j:Int)])],_) ⟨by omega,RO.le_trans hle3 hl4,by simpa [List.flatMap_append] using hb', ?_,fun z hz=>?_⟩ (by simp only;omega))
    ·exact⟨rfl,rfl,rfl,rfl,rfl,by simp only [look];congr 2;omega,trivial⟩
    ·rw [List.map_append,hzs3,rz_to,List.map_append,List.append_assoc];rfl
    ·rcases List.mem_append.1 hz with hz|hz
     ·exact⟨(hls3 z hz).1.mono hl4,(hls3 z hz).2⟩
     ·rw [List.mem_singleton.1 hz];exact⟨hls4,hco⟩
   ·obtain rfl:j=c:=by omega
    rw [←hnums, ←hgt] at hzs3
    refine X.exit C.1 U<|X.inBlock C.1<|X.region C U U<|Rm C U U<|Ra C U U U<|Ad C U U<|X.weaken ?_ (hnext2 (k+1,ro3,v3,zs3,own3) ⟨hk',RO.le_trans hle2 hle3,hb3,hzs3,hls3⟩ (by simp only;omega))
    exact⟨rfl,rfl,rfl,rfl,by simp [look],trivial⟩
  ·obtain rfl:k=all.length:=by omega
   rw [List.take_length, ←hstep] at hzs2
   refine X.exit C.1 U<|X.region C U U ?_
   have hls2':=hls2
   refine R.finish C.1 (enc:=fun z:Value×List Int=> [z.1]) (fun _=>rfl) (by decide) hb2 fun ro3 hl3 hls3=>Rm C U U<|Ad C U U<|X.inBlock C.1<|X.region C U U<|Rm C U U<|Ra C U U U<|Ad C U U<|X.weaken ?_ (hnext (i+1,ro3,v2) ⟨hi',RO.le_trans hle1 (RO.le_trans hle2 hl3),zs2,hls3,hzs2,fun z hz=>⟨(hls2 z hz).1.mono hl3,(hls2 z hz).2⟩⟩ (by simp only;omega))
   exact⟨rfl,rfl,by simp [look],trivial⟩
 ·obtain rfl:i=rs.length:=by omega
  rw [List.take_length] at hg1
  refine X.exit C.1 U<|Xr C U U<|Rm C U U<|Ad C U U<|Xt C func178<|Hr hret (RO.le_trans hl0 hle1) ?_
  exact hg1
end
end
section
theorem grow_len(l:List (List Int))(r:Rc):(grow l r).length=l.length*r.nums.length:=by
 unfold grow
 induction l with
 |nil=>simp
 |cons x l ih=>rw [List.flatMap_cons,List.length_append,List.length_map,ih,List.length_cons,Nat.succ_mul];omega
theorem BkV.all{b:Bk}{v:Value}{ro:RO}(h:BkV ro v b):∃pb pc gb gc cb cc tb tc,v= .agg [.int .i64 b.w, .slice pb b.ps.length pc, .slice gb b.gs.length gc, .slice cb b.cs.length cc, .slice tb b.ts.length tc].toArray∧Ls Pt.cells 4 ro (.slice pb b.ps.length pc) b.ps∧LsG ro (.slice gb b.gs.length gc) b.gs∧Ls Pc.cells 3 ro (.slice cb b.cs.length cc) b.cs∧Ls Ts.cells 3 ro (.slice tb b.ts.length tc) b.ts:=by
 obtain⟨vp,vg,vc,vt,rfl,hp,hg,hc,ht⟩:=h
 obtain⟨pb,pc,rfl⟩:=hp.form
 obtain⟨gb,gc,rfl⟩:=hg.form
 obtain⟨cb,cc,rfl⟩:=hc.form
 obtain⟨tb,tc,rfl⟩:=ht.form
 exact⟨_,_,_,_,_,_,_,_,rfl,hp,hg,hc,ht⟩
theorem mul_bdY{x y:Int}(h1:0≤x)(h2:x≤27)(h3:1≤y)(h4:y≤3):0≤x*y∧x*y≤81:=by
 have:y=1∨y=2∨y=3:=by omega
 rcases this with rfl|rfl|rfl<;>omega
theorem LsG.nil{ro:RO}:LsG ro (.slice none 0 0) []:=⟨[],Ls.nil,rfl,fun _ h=>nomatch h⟩
theorem bears_nil{b:Bk}(hb:b.good):cases b= []↔bearsL b= []:=by
 constructor
 ·intro h
  cases hl:bearsL b with
  |nil=>rfl
  |cons p l=>
   cases hw:weightsL b with
   |nil=>exact absurd hw (weightsL_ne hb)
   |cons w k=>
    have:((p,w):Tn)∈cases b:=mem_cases.2 ⟨by rw [hl];exact List.mem_cons_self,by rw [hw];exact List.mem_cons_self⟩
    rw [h] at this;exact nomatch this
 ·intro h;unfold cases;rw [h];rfl
def knownR(b:Bk)(h:Int):List (List Int)×Int:=if openH b h≠0 then([],openH b h) else(bearsL b,0)
section
variable {main:Bool}{J:Goroutine→Mem→Prop}(hJ:Closed prog main J)
include hJ
theorem bearsOfR_c{b:Bk}{v:Value}{ro:RO}(hv:BkV ro v b)(hb:b.good):CallR prog J (fnv 114) [v] ro (fun w ro'=>LsG ro' w (bearsL b)):=by
 have hvv:=hv
 obtain⟨pb,pc,gb,gc,cb,cc,tb,tc,rfl,hp,hg,hc,ht⟩:=hv.all
 have hnp:=hb.np
 have hml:(b.ps.map Pt.r).length=b.ps.length:=List.length_map ..
 refine CallR.intro hJ (by kernel_rfl) fun c cs tail hret=>enter_X (n:=46) func114 U U (Nl U) ?_
 have C:Ctx prog main J (bf 114 .normal):=⟨hJ,by decide⟩
 refine Xr C U U<|R.box C U U U U fun p1=>Ad C U U<|Xr C U U<|Ad C U U<|Xs C<|Xr C U U<|Ad C U U<|X.block C.1<|X.loopI (ι:=Nat×Value×List (Nat×Obj)) C.1 (fun s=>s.1≤b.ps.length∧Buf 65 2 [] s.2.1 (((b.ps.map Pt.r).take s.1).flatMap Rc.cells) s.2.2)
  (fun s=> [(1, .pointer (some ⟨p1,0,none⟩)),(3,s.2.1),(4, .int .i64 (s.1:Int))]) (fun s=>⟨ro,s.2.2++((p1, .cells [.int .i64 b.w, .slice pb b.ps.length pc, .slice gb b.gs.length gc, .slice cb b.cs.length cc, .slice tb b.ts.length tc].toArray 27 (0,0))::tail)⟩) (fun s=>b.ps.length-s.1) (0, .slice none 0 0, []) ⟨Nat.zero_le _, .nil⟩ rfl ⟨U,U,U,trivial⟩ fun s hs hnext=>?_
 obtain⟨i,v1,own1⟩:=s
 obtain⟨hi,hbuf⟩:=hs
 simp only at hi hbuf hnext⊢
 have hfl:(((b.ps.map Pt.r).take i).flatMap Rc.cells).length=i*2:=by
  rw [flatMap_len (k:=2) (fun _=>rfl),List.length_take];omega
 obtain⟨bs0,cap0,rfl⟩:=hbuf.form (by decide)
 refine Xs C<|Xr C U U<|Rm C U U<|Rf C 1 U U runUnderlying27 U sizeOf22<|R.loadOne C U U U isAgg22 (by repeat (first|exact Mh|apply Mt|apply List.mem_append_right)) U<|Rn C U U runUnderlying22<|R.int C U U U U b_lss<|R.done C<|Xk C U (fun hlt=>?_) (fun hlt=>?_)
 ·have hi':i<b.ps.length:=by omega
  obtain⟨pp,po,pcap,pl,pty,pfq,hsl,hrop,hsub⟩:=hp.at Pt.len (by omega)
  cases hsl
  have hsi:Sub (po+i*4+2) 2 pl (b.ps[i]).r.cells:=(hsub i hi').part (i:=2) (m:=2) (by decide)
  have hstep:(b.ps.map Pt.r).take (i+1)=(b.ps.map Pt.r).take i++ [(b.ps[i]).r]:=by rw [List.take_succ_eq_append_getElem (by omega),List.getElem_map]
  generalize(b.ps[i]).r=r at hsi hstep
  have hrl:r.cells.length=2:=rfl
  refine X.skip C.1<|Xs C<|X.block C.1<|X.region C U U<|Rm C U U<|Rf C 1 U U runUnderlying27 U sizeOf22<|R.loadOne C U U U isAgg22 (by repeat (first|exact Mh|apply Mt|apply List.mem_append_right)) U<|Rm C U U<|Rx C U U U runUnderlying22 sizeOf67<|R.fieldAddr C U U U runUnderlying67 U sizeOf65 U<|R.loadAggRo C U U U isAgg65 sizeOf65 hrop hsi<|R.buildSlice C (vs:=_) U U (show pvals _ _=some (numbered 0 [_]) from rfl) U runUnderlying210 sizeOf65 zeroValue65 (by decide) (Cat.one U U) fun p22=>R.append1 (kk:=2) C U U U U runUnderlying210 runUnderlying210 (fun _=>nofun) (show prog.info? 65=some Tryz.t65 by kernel_rfl) U U U (by decide) (by decide) (hbuf.app _) U U (by(try simp only [List.length_append,List.length_cons,List.length_nil]);omega) fun v' own' hb'=>Ad C U U<|X.inBlock C.1<|X.region C U U<|Rm C U U<|Ra C U U U<|Ad C U U ?_
  obtain⟨own2,rfl,hb1⟩:=hb'.unapp (tail:= [])
  refine X.weaken ?_ (hnext (i+1,v',own2) ⟨hi', ?_⟩ (by simp only;omega))
  ·exact⟨rfl,rfl,by simp [look],trivial⟩
  ·rw [hstep,List.flatMap_append];exact hb1
 ·obtain rfl:i=b.ps.length:=by omega
  rw [List.take_of_length_le (by omega)] at hbuf hfl⊢
  refine X.exit C.1 U<|Xs C<|X.finish C.1 (enc:=Rc.cells) (fun _=>rfl) (by decide) (hbuf.app _) fun ro1 hl1 hls1=>X.region C U U<|Rm C U U<|R.callR C U U U U ((listsR_c (rs:=b.ps.map Pt.r) hJ hls1 (by omega) (fun r h=>by obtain⟨q,hq,rfl⟩:=List.mem_map.1 h;exact(hb.ps q hq).2))) fun v2 ro2 hl2 hq2=>?_
  obtain⟨zs,hz1,hz2,hz3⟩:=hq2
  have hL2:=RO.le_trans hl1 hl2
  have hzl:zs.length≤81:=by
   have h1:=spread_le (rs:=b.ps.map Pt.r) fun r h=>by
    obtain⟨q,hq,rfl⟩:=List.mem_map.1 h
    exact(hb.ps q hq).2.2.2.2
   have h2:3^ (b.ps.map Pt.r).length≤3^4:=Nat.pow_le_pow_right (by decide) (by omega)
   rw [←hz2,List.length_map] at h1
   omega
  obtain⟨zb,zc,rfl⟩:=hz1.form
  refine Ad C U U<|Xr C U U<|Ad C U U<|Xs C<|Xr C U U<|Ad C U U<|X.block C.1<|X.loopI (ι:=Nat×RO×Value×List (Nat×Obj)) C.1 (fun s=>s.1≤zs.length∧ro2.le s.2.1∧Buf 28 1 [] s.2.2.1 (((zs.take s.1).filter fun z=>right b z.2).flatMap fun z=> [z.1]) s.2.2.2)
   (fun s=> [(1, .pointer (some ⟨p1,0,none⟩)),(5, .slice zb zs.length zc),(6,s.2.2.1),(7, .int .i64 (s.1:Int))]) (fun s=>⟨s.2.1,s.2.2.2++((p1, .cells [.int .i64 b.w, .slice pb b.ps.length pc, .slice gb b.gs.length gc, .slice cb b.cs.length cc, .slice tb b.ts.length tc].toArray 27 (0,0))::tail)⟩) (fun s=>zs.length-s.1) (0,ro2, .slice none 0 0, []) ⟨Nat.zero_le _,RO.le_refl _, .nil⟩ rfl ⟨U,U,U,U,trivial⟩ fun s hs hnext2=>?_
  obtain⟨k,ro3,v3,own3⟩:=s
  obtain⟨hk,hl3,hb3⟩:=hs
  simp only at hk hl3 hb3 hnext2⊢
  have hfl3:(((zs.take k).filter fun z=>right b z.2).flatMap fun z:Value×List Int=> [z.1]).length≤k:=by
   rw [flatMap_len (k:=1) (fun _=>rfl),Nat.mul_one]
   have:=List.length_filter_le (fun z:Value×List Int=>right b z.2) (zs.take k)
   rw [List.length_take] at this;omega
  obtain⟨bs3,cap3,rfl⟩:=hb3.form (by decide)
  refine Xs C<|Xr C U U<|Rm C U U<|Rm C U U<|Rn C U U runUnderlying23<|R.int C U U U U b_lss<|R.done C<|Xk C U (fun hlt2=>?_) (fun hlt2=>?_)
  ·have hk':k<zs.length:=by omega
   obtain⟨zp,zo,zcap,zl,zty,zfq,hsl,hzro,hzsub⟩:=hz1.at (fun _=>rfl) (by omega)
   cases hsl
   have hzk:zl[zo+k*1+0]? =some zs[k].1:=(hzsub k hk').get 0 (by decide)
   have hzi:=hz3 _ (List.getElem_mem hk')
   have hzlen:zs[k].2.length=b.ps.length:=by
    have:zs[k].2∈spread (b.ps.map Pt.r):=by rw [←hz2];exact List.mem_map.2 ⟨_,List.getElem_mem hk',rfl⟩
    rw [spread_len _ this,hml]
   have hstep:(zs.take (k+1)).filter (fun z=>right b z.2)=(zs.take k).filter (fun z=>right b z.2)++(if right b zs[k].2 then [zs[k]] else []):=by
    rw [List.take_succ_eq_append_getElem hk',List.filter_append,List.filter_cons,List.filter_nil]
   generalize zs[k]=z at hzk hzi hzlen hstep
   obtain⟨z1,z2⟩:=z
   simp only at hzk hzi hzlen hstep
   obtain⟨qb,qc,rfl⟩:=hzi.1.form
   have hzro3:=hl3 _ _ hzro
   refine X.skip C.1<|Xs C<|X.block C.1<|Xs C<|Xd C fun hok=>Dl 0 hok (fun _ _ A h=>R.loadAgg C U (A.w U U) (A.x U U) isAgg27 sizeOf27 (by repeat (first|exact Mh|apply Mt|apply List.mem_append_right)) Tk5 h)<|Dm C 1 hok U U U<|Dm C 2 hok U U U<|Dx C 3 hok U U U runUnderlying23 sizeOf28<|D2 C 4 hok U U isAgg28 hzro3 hzk<|De 5 (some 37) [false,false] hok (fun _ _ A hk=>?_)
   refine R.callR C U (A.w U U) (A.x U U) (A.s U U) (testedR_c hJ (hvv.mono (RO.le_trans hL2 hl3)) hb (hzi.1.mono hl3) hzlen) fun v4 ro4 hl4 hq4=>hk _ _ ⟨QFs.nil, ?_⟩
   refine D.done C hok (by kernel_rfl) ?_
   subst hq4
   refine X.cond C.1 U (fun hrt=>?_) (fun hrt=>?_)
   ·rw [if_pos hrt] at hstep
    have hzro4:=hl4 _ _ hzro3
    refine X.region C U U<|Rm C U U<|Rm C U U<|Rm C U U<|Rx C U U U runUnderlying23 sizeOf28<|R.loadOneRo C U U U isAgg28 hzro4 hzk<|R.buildSlice C (vs:=_) U U (show pvals _ _=some (numbered 0 [_]) from rfl) U runUnderlying23 sizeOf28 zeroValue28 (by decide) (Cat.one U U) fun p43=>R.append1 (kk:=1) C U U U U runUnderlying23 runUnderlying23 (fun _=>nofun) (show prog.info? 28=some Tryz.t28 by kernel_rfl) U U U (by decide) (by decide) (hb3.app _) U U (by simp only [List.length_append,List.length_cons,List.length_nil];omega) fun v' own' hb'=>Ad C U U<|X.inBlock C.1<|X.region C U U<|Rm C U U<|Ra C U U U<|Ad C U U ?_
    obtain⟨own5,rfl,hb5⟩:=hb'.unapp (tail:= [])
    refine X.weaken ?_ (hnext2 (k+1,ro4,v',own5) ⟨hk',RO.le_trans hl3 hl4, ?_⟩ (by simp only;omega))
    ·exact⟨rfl,rfl,rfl,by simp [look],trivial⟩
    ·rw [hstep,List.flatMap_append];exact hb5
   ·rw [if_neg (by rw [hrt];decide),List.append_nil] at hstep
    refine X.skip C.1<|X.inBlock C.1<|X.region C U U<|Rm C U U<|Ra C U U U<|Ad C U U<|X.weaken ?_ (hnext2 (k+1,ro4,_,own3) ⟨hk',RO.le_trans hl3 hl4,by rw [hstep];exact hb3⟩ (by simp only;omega))
    exact⟨rfl,rfl,rfl,by simp [look],trivial⟩
  ·obtain rfl:k=zs.length:=by omega
   rw [List.take_length] at hb3 hfl3⊢
   refine X.exit C.1 U<|Xs C<|X.finish C.1 (enc:=fun z:Value×List Int=> [z.1]) (fun _=>rfl) (by decide) (hb3.app _) fun ro5 hl5 hls5=>X.region C U U<|Rm C U U<|Ad C U U<|Xt C func114<|Hr hret (RO.le_trans hL2 (RO.le_trans hl3 hl5))<|⟨_,hls5, ?_,fun z hz=>?_⟩
   ·rw [bearsL, ←hz2,List.filter_map];rfl
   ·have:=hz3 z (List.mem_filter.1 hz).1
    exact⟨this.1.mono (RO.le_trans hl3 hl5),this.2⟩
theorem manyWeightsR_c{b:Bk}{v:Value}{ro:RO}(hv:BkV ro v b)(hb:b.good):CallP prog J (fnv 115) [v] ro (.int .i64 ((weightsL b).length:Int)):=by
 have hvv:=hv
 obtain⟨pb,pc,gb,gc,cb,cc,tb,tc,rfl,hp,hg,hc,ht⟩:=hv.all
 have hnc:=hb.nc
 have hml:(b.cs.map Pc.r).length=b.cs.length:=List.length_map ..
 refine CallP.intro hJ (by kernel_rfl) fun c cs tail hret=>enter_X (n:=31) func115 U U (Nl U) ?_
 have C:Ctx prog main J (bf 115 .normal):=⟨hJ,by decide⟩
 refine Xr C U U<|R.box C U U U U fun p1=>Ad C U U<|Xr C U U<|Ad C U U<|Xs C<|Xr C U U<|Ad C U U<|X.block C.1<|X.loopI (ι:=Nat) C.1 (fun i=>i≤b.cs.length)
  (fun i=> [(1, .pointer (some ⟨p1,0,none⟩)),(3, .int .i64 ((spread ((b.cs.map Pc.r).take i)).length:Int)),(4, .int .i64 (i:Int))]) (fun _=>⟨ro,(p1, .cells [.int .i64 b.w, .slice pb b.ps.length pc, .slice gb b.gs.length gc, .slice cb b.cs.length cc, .slice tb b.ts.length tc].toArray 27 (0,0))::tail⟩) (fun i=>b.cs.length-i) 0 (Nat.zero_le _) rfl ⟨U,U,U,trivial⟩ fun i hi hnext=>?_
 refine Xs C<|Xr C U U<|Rm C U U<|Rf C 3 U U runUnderlying27 U sizeOf24<|Rl C U U isAgg24 (by repeat constructor) U<|Rn C U U runUnderlying24<|R.int C U U U U b_lss<|R.done C<|Xk C U (fun hlt=>?_) (fun hlt=>?_)
 ·have hi':i<b.cs.length:=by omega
  obtain⟨pp,po,pcap,pl,pty,pfq,hsl,hrop,hsub⟩:=hc.at Pc.len (by omega)
  cases hsl
  have hlo:pl[po+i*3+1]? =some (.int .i64 (b.cs[i]).r.lo):=(hsub i hi').get 1 (by decide)
  have hhi:pl[po+i*3+2]? =some (.int .i64 (b.cs[i]).r.hi):=(hsub i hi').get 2 (by decide)
  have hf:=hb.cs _ (List.getElem_mem hi')
  have hstep:spread ((b.cs.map Pc.r).take (i+1))=grow (spread ((b.cs.map Pc.r).take i)) (b.cs[i]).r:=by rw [grow_to _ (by omega),List.getElem_map]
  have hle:(spread ((b.cs.map Pc.r).take i)).length≤27:=by
   have h1:=spread_le (rs:=(b.cs.map Pc.r).take i) fun r h=>by
    obtain⟨q,hq,rfl⟩:=List.mem_map.1 (List.mem_of_mem_take h)
    exact(hb.cs q hq).2.2.2
   have h2:3^ ((b.cs.map Pc.r).take i).length≤3^3:=Nat.pow_le_pow_right (by decide) (by rw [List.length_take];omega)
   omega
  have hl:=congrArg List.length hstep
  rw [grow_len,Rc.nums,rz_len] at hl
  have hf:1≤(b.cs[i]).r.lo∧(b.cs[i]).r.lo≤(b.cs[i]).r.hi∧(b.cs[i]).r.hi≤99∧(b.cs[i]).r.hi- (b.cs[i]).r.lo<3:=hf
  generalize(b.cs[i]).r=r at hlo hhi hf hl
  generalize(spread ((b.cs.map Pc.r).take i)).length=m at hle hl⊢
  have hm1:=mul_bdY (x:=(m:Int)) (y:=r.hi-r.lo+1) (by omega) (by omega) (by omega) (by omega)
  refine X.skip C.1<|Xs C<|X.block C.1<|Xd C fun hok=>Dm C 0 hok U U U<|Df (off':=3) C 1 hok U U U runUnderlying27 U sizeOf24 U<|D1 C 2 hok U U isAgg24 (by repeat constructor) U<|Dm C 3 hok U U U<|Dx C 4 hok U U U runUnderlying24 sizeOf79<|Df C 5 hok U U U runUnderlying79 U sizeOf65 U<|Df C 6 hok U U U runUnderlying65 U sizeOf3 U<|D2 C 7 hok U U isAgg3 hrop hhi<|Df (off':=3) C 8 hok U U U runUnderlying27 U sizeOf24 U<|D1 C 9 hok U U isAgg24 (by repeat constructor) U<|Dm C 10 hok U U U<|Dx C 11 hok U U U runUnderlying24 sizeOf79<|Df C 12 hok U U U runUnderlying79 U sizeOf65 U<|Df C 13 hok U U U runUnderlying65 U sizeOf3 U<|D2 C 14 hok U U isAgg3 hrop hlo<|Di C 15 hok U U U U U (b_sub (by omega) (by omega))<|Di C 16 hok U U U U U (b_add (by omega) (by omega))<|Di C 17 hok U U U U U (b_mul (by omega) (by omega))<|Da C 18 hok U U<|D.done C hok (by kernel_rfl)<|X.inBlock C.1<|X.region C U U<|Rm C U U<|Ra C U U U<|Ad C U U<|X.weaken ?_ (hnext (i+1) hi' (by omega))
  refine⟨rfl, ?_,by simp [look],trivial⟩
  simp only [look]
  rw [hl,Int.natCast_mul,show(((r.hi+1-r.lo).toNat:Nat):Int)=r.hi-r.lo+1 by omega]
 ·obtain rfl:i=b.cs.length:=by omega
  rw [List.take_of_length_le (by omega)]
  refine X.exit C.1 U<|Xr C U U<|Rm C U U<|Ad C U U<|Xt C func115<|Hp hret ?_
  rfl
theorem knownR_c{b:Bk}{v:Value}{ro:RO}(hv:BkV ro v b)(hs:b.short)(h:Int):CallR prog J (fnv 120) [v, .int .i64 h] ro (fun w ro'=>∃vl,LsG ro' vl (knownR b h).1∧w= .tuple [vl, .int .i64 (knownR b h).2].toArray):=by
 have hvv:=hv
 obtain⟨pb,pc,gb,gc,cb,cc,tb,tc,rfl,hp,hg,hc,ht⟩:=hv.all
 refine CallR.intro hJ (by kernel_rfl) fun c cs tail hret=>enter_X (n:=22) func120 U U (Nl U) ?_
 have C:Ctx prog main J (bf 120 .normal):=⟨hJ,by decide⟩
 refine Xr C U U<|R.box C U U U U fun p2=>R.asg C U U U<|Ad C U U<|Xs C<|Xr C U U<|R5 C U U isAgg27 sizeOf27 (by repeat constructor) Tk5<|R.callP C U U U U (checkBookR_c hJ hvv hs)<|Ad C U U<|Xr C U U<|Rm C U U<|R.int C U U U U b_neq<|R.done C<|X.cond C.1 U (fun h1=>?_) (fun h1=>?_)
 ·have h1:checkBook b≠0:=by simpa using h1
  have e0:openH b h=checkBook b:=by rw [openH,if_pos h1]
  have e:knownR b h=([],checkBook b):=by rw [knownR,e0,if_pos h1]
  refine Xr C U U<|Rm C U U<|R.asg C U U U<|Ad C U U<|X.ret C U U func120 U (by exact(.tmp U (.tmp U .nil)))<|Hr hret (RO.le_refl _) ?_
  rw [e];exact⟨_,LsG.nil,rfl⟩
 ·have h1:checkBook b=0:=by simpa using h1
  refine X.skip C.1<|Xs C<|Xr C U U<|Rm C U U<|R.int C U U U U b_neq<|R.done C<|X.cond C.1 U (fun h2=>?_) (fun h2=>?_)
  ·have h2:h≠0:=by simpa using h2
   have e0:openH b h=h:=by rw [openH,if_neg (by simp [h1]),if_pos h2]
   have e:knownR b h=([],h):=by rw [knownR,e0,if_pos h2]
   refine Xr C U U<|Rm C U U<|R.asg C U U U<|Ad C U U<|X.ret C U U func120 U (by exact(.tmp U (.tmp U .nil)))<|Hr hret (RO.le_refl _) ?_
   rw [e];exact⟨_,LsG.nil,rfl⟩
  ·have h2:h=0:=by simpa using h2
   have hb:=good_of h1
   have hle:=bearsL_le hb
   refine X.skip C.1<|Xr C U U<|R5 C U U isAgg27 sizeOf27 (by repeat constructor) Tk5<|R.callR C U U U U (bearsOfR_c hJ hvv hb) fun v1 ro1 hl1 hq1=>?_
   have hq:=hq1
   obtain⟨lb,lc,rfl⟩:=hq1.form
   refine Ad C U U<|Xs C<|Xr C U U<|Rm C U U<|Rn C U U runUnderlying23<|R.int C U U U U b_eql<|R.done C<|X.cond C.1 U (fun h3=>?_) (fun h3=>?_)
   ·have h3:cases b= []:=(bears_nil hb).2 (List.length_eq_zero_iff.1 (by simpa using h3))
    have e0:openH b h=9:=by rw [openH,if_neg (by simp [h1]),if_neg (by simp [h2]),if_pos h3]
    have e:knownR b h=([],9):=by rw [knownR,e0];rfl
    refine Xr C U U<|R.asg C U U U<|Ad C U U<|X.ret C U U func120 U (by exact(.tmp U (.tmp U .nil)))<|Hr hret hl1 ?_
    rw [e];exact⟨_,LsG.nil,rfl⟩
   ·have h3:¬cases b= []:=fun e=>by rw [(bears_nil hb).1 e] at h3;simp at h3
    have e0:openH b h=0:=by rw [openH,if_neg (by simp [h1]),if_neg (by simp [h2]),if_neg h3]
    have e:knownR b h=(bearsL b,0):=by rw [knownR,e0];rfl
    refine X.skip C.1<|Xr C U U<|Rm C U U<|R.asg C U U U<|Ad C U U<|X.ret C U U func120 U (by exact(.tmp U (.tmp U .nil)))<|Hr hret hl1 ?_
    rw [e];exact⟨_,hq,rfl⟩
omit hJ in
theorem how_int(n a:Nat):how n a=if(n:Int)=0 then 2 else if(n:Int)=a then 1 else 0:=by
 unfold how
 by_cases h:n=0
 ·simp [h]
 ·have h3:((n:Int)=a)↔n=a:=by omega
  by_cases h2:n=a
  ·rw [if_neg h,if_pos h2,if_neg (by omega),if_pos (by omega)]
  ·rw [if_neg h,if_neg h2,if_neg (by omega),if_neg (by omega)]
theorem howR_c(n a:Nat)(ro:RO):CallP prog J (fnv 180) [.int .i64 (n:Int), .int .i64 (a:Int)] ro (.int .i64 (how n a)):=by
 rw [how_int]
 refine CallP.intro hJ (by kernel_rfl) fun c cs tail hret=>enter_X (n:=10) func180 U U (Nl U) ?_
 have C:Ctx prog main J (bf 180 .normal):=⟨hJ,by decide⟩
 refine Xr C U U<|Ad C U U<|Xs C<|Xr C U U<|Rm C U U<|R.int C U U U U b_eql<|R.done C<|X.cond C.1 U (fun h1=>?_) (fun h1=>?_)
 ·have h1:(n:Int)=0:=by simpa using h1
  refine Xr C U U<|Ad C U U<|Xt C func180<|Hp hret ?_
  rw [if_pos h1];rfl
 ·have h1:¬(n:Int)=0:=by simpa using h1
  refine X.skip C.1<|Xs C<|Xr C U U<|Rm C U U<|Rm C U U<|R.int C U U U U b_eql<|R.done C<|X.cond C.1 U (fun h2=>?_) (fun h2=>?_)
  ·have h2:(n:Int)=a:=by simpa using h2
   refine Xr C U U<|Ad C U U<|Xt C func180<|Hp hret ?_
   rw [if_neg h1,if_pos h2];rfl
  ·have h2:¬(n:Int)=a:=by simpa using h2
   refine X.skip C.1<|Xr C U U<|Ad C U U<|Xt C func180<|Hp hret ?_
   rw [if_neg h1,if_neg h2];rfl
end
end
section
theorem numbers_nilY:numbers []= []:=List.eq_nil_iff_forall_not_mem.2 fun x hx=>by have:=numbers_mem.1 hx;cases this
theorem numbers_congr{l k:List Int}(h:∀x,x∈l↔x∈k):numbers l=numbers k:=compact_sort (numbers_asc k) fun x=>by rw [numbers_mem,h]
theorem first_mem{b:Bk}(hb:b.good){p:List Int}:p∈bearsL b↔ ∃t∈cases b,t.1=p:=by
 constructor
 ·intro hp
  cases hw:weightsL b with
  |nil=>exact absurd hw (weightsL_ne hb)
  |cons w k=>exact⟨(p,w),mem_cases.2 ⟨hp,by rw [hw];exact List.mem_cons_self⟩,rfl⟩
 ·rintro⟨t,ht,rfl⟩;exact(mem_cases.1 ht).1
theorem known_mem{b:Bk}{h:Int}{p:List Int}(hp:p∈(knownR b h).1):b.good∧h=0∧p∈bearsL b∧p.length=b.ps.length∧cases b≠ []:=by
 unfold knownR at hp
 split at hp
 ·exact nomatch hp
 ·rename_i h0
  have h1:=openH_good (Classical.not_not.1 h0)
  exact⟨h1.1,h1.2.1,hp,bearsL_len p hp,h1.2.2.1⟩
theorem known_zero{b:Bk}{h:Int}(h0:openH b h=0):knownR b h=(bearsL b,0):=by rw [knownR,if_neg (fun e=>e h0)]
theorem known_not{b:Bk}{h:Int}(h0:openH b h≠0):knownR b h=([],openH b h):=by rw [knownR,if_pos h0]
theorem known_le{b:Bk}{h:Int}:(knownR b h).1.length≤81:=by
 by_cases h0:openH b h=0
 ·rw [known_zero h0];exact bearsL_le (openH_good h0).1
 ·rw [known_not h0];exact Nat.zero_le _
theorem known_two{b:Bk}{h:Int}:(knownR b h).2=openH b h:=by
 by_cases h0:openH b h=0
 ·rw [known_zero h0,h0]
 ·rw [known_not h0]
theorem bears_known(b:Bk)(i:Int):bearsR b i=(numbers ((knownR b (there i b.ps.length)).1.map fun p=>nth p i),(knownR b (there i b.ps.length)).2):=by
 by_cases h0:openH b (there i b.ps.length)=0
 ·have hb:=(openH_good h0).1
  rw [bearsR,known_zero h0,if_neg (fun e=>e h0),bearsOf]
  refine congrArg (·,(0:Int)) (numbers_congr fun x=>?_)
  simp only [List.mem_map]
  constructor
  ·rintro⟨t,ht,rfl⟩;exact⟨t.1,(first_mem hb).2 ⟨t,ht,rfl⟩,rfl⟩
  ·rintro⟨p,hp,rfl⟩
   obtain⟨t,ht,rfl⟩:=(first_mem hb).1 hp
   exact⟨t,ht,rfl⟩
 ·rw [bearsR,known_not h0,if_pos h0,List.map_nil,numbers_nilY]
def askedH(b:Bk)(g n:Int):Int:=if there g b.gs.length≠0 then there g b.gs.length else loadH n
theorem weakH_asked(b:Bk)(g n:Int):weakH b g n=openH b (askedH b g n):=by rw [weakH,firstH_two];rfl
theorem asked_zero{b:Bk}{g n:Int}(h:askedH b g n=0):(0≤g∧g<b.gs.length)∧1≤n∧n≤99:=by
 unfold askedH at h
 split at h
 ·exact absurd h ‹_›
 ·rename_i h1
  refine⟨there_zero.1 (Classical.not_not.1 h1), ?_⟩
  rw [loadH_if] at h
  split at h
  ·rename_i h2;exact between_iff.1 h2
  ·cases h
theorem weak_known(b:Bk)(g n:Int):weakR b g n=(numbers ((knownR b (askedH b g n)).1.flatMap fun p=>gives b p g n),(knownR b (askedH b g n)).2):=by
 by_cases h0:openH b (askedH b g n)=0
 ·have hb:=(openH_good h0).1
  rw [weakR,weakH_asked,known_zero h0,if_neg (fun e=>e h0),weak]
  refine congrArg (·,(0:Int)) (numbers_congr fun x=>?_)
  simp only [List.mem_flatMap]
  constructor
  ·rintro⟨t,ht,hx⟩;exact⟨t.1,(first_mem hb).2 ⟨t,ht,rfl⟩,hx⟩
  ·rintro⟨p,hp,hx⟩
   obtain⟨t,ht,rfl⟩:=(first_mem hb).1 hp
   exact⟨t,ht,hx⟩
 ·rw [weakR,weakH_asked,known_not h0,if_pos h0,List.flatMap_nil,numbers_nilY]
theorem all_bears{b:Bk}(hb:b.good)(g n:Int):((bearsL b).all fun p=>lifts b p g n)=allLift b g n:=by
 rw [Bool.eq_iff_iff,allLift,List.all_eq_true,List.all_eq_true]
 constructor
 ·exact fun h t ht=>h t.1 ((first_mem hb).2 ⟨t,ht,rfl⟩)
 ·intro h p hp
  obtain⟨t,ht,rfl⟩:=(first_mem hb).1 hp
  exact h t ht
theorem most_found{b:Bk}(hb:b.good){g n:Int}(h0:0≤g)(h1:g<b.gs.length)(hn:0≤n∧n≤99)(hl:n=0∨allLift b g n=true)(hu:∀k,n<k→k≤99→allLift b g k=false):most b g=n:=by
 obtain⟨m0,m1,m2⟩:=most_law hb h0 h1
 have h3:n≤most b g:=by
  rcases hl with rfl|hl
  ·exact m0
  ·exact(m2 n hn.1 hn.2).1 hl
 by_cases h4:n<most b g
 ·have:=hu _ h4 m1
  rw [(m2 _ m0 m1).2 (by omega)] at this;cases this
 ·omega
theorem filter_flat{α β:Type}(l:List α)(f:α→List β)(q:β→Bool):(l.flatMap f).filter q=l.flatMap fun x=>(f x).filter q:=by
 induction l with
 |nil=>rfl
 |cons x l ih=>rw [List.flatMap_cons,List.filter_append,ih,List.flatMap_cons]
theorem flat_const{α β:Type}(l:List α)(f:α→List β)(m:Nat)(h:∀x∈l,(f x).length=m):(l.flatMap f).length=l.length*m:=by
 induction l with
 |nil=>simp
 |cons x l ih=>rw [List.flatMap_cons,List.length_append,ih fun y hy=>h y (by simp [hy]),h x (by simp),List.length_cons,Nat.succ_mul];omega
theorem fibre:∀ (rs:List Rc) (i:Nat) (h:i<rs.length),∃m,∀q:Int→Bool,((spread rs).filter fun l=>q (l.getD i 0)).length=(rs[i].nums.filter q).length*m
 |r::rs,0,_=>by
  refine⟨(spread rs).length,fun q=>?_⟩
  show(((r.nums.flatMap fun n=>(spread rs).map (n:: ·)).filter fun l=>q (l.getD 0 0)).length=_)
  rw [filter_flat]
  show _=(r.nums.filter q).length*_
  induction r.nums with
  |nil=>simp
  |cons n ns ih=>
   rw [List.flatMap_cons,List.length_append,ih,List.filter_cons]
   have e:(((spread rs).map (n:: ·)).filter fun l=>q (l.getD 0 0)).length=if q n then(spread rs).length else 0:=by
    rw [List.filter_map,List.length_map]
    have:(fun l:List Int=>q (l.getD 0 0)) ∘ (n:: ·)=fun _=>q n:=rfl
    rw [this]
    cases q n<;>simp
   rw [e]
   cases q n<;>simp [Nat.succ_mul];omega
 |r::rs,i+1,h=>by
  obtain⟨m,hm⟩:=fibre rs i (by simpa using h)
  refine⟨r.nums.length*m,fun q=>?_⟩
  show(((r.nums.flatMap fun n=>(spread rs).map (n:: ·)).filter fun l=>q (l.getD (i+1) 0)).length=_)
  rw [filter_flat,flat_const _ _ (((rs[i]'(by simpa using h)).nums.filter q).length*m)]
  ·show _=((rs[i]'(by simpa using h)).nums.filter q).length*_
   rw [Nat.mul_left_comm]
  ·intro n _
   rw [List.filter_map,List.length_map]
   exact hm q
theorem how_mul(n a m:Nat)(h:0<m):how (n*m) (a*m)=how n a:=by
 have e1:n*m=0↔n=0:=by rw [Nat.mul_eq_zero];omega
 have e2:n*m=a*m↔n=a:=⟨fun e=>Nat.eq_of_mul_eq_mul_right h e,fun e=>by rw [e]⟩
 unfold how
 simp only [e1,e2]
def liftN(b:Bk)(g:Int)(r:Rc)(L:List (List Int)):Nat:=(L.flatMap fun p=>r.nums.filter fun n=>lifts b p g n).length
def allN(r:Rc)(L:List (List Int)):Nat:=(L.flatMap fun _=>r.nums).length
theorem may_known{b:Bk}(hb:b.good){g k:Int}(h0:0≤k)(h1:k<b.cs.length):may b g k=how (liftN b g (b.piece k).r (bearsL b)) (allN (b.piece k).r (bearsL b)):=by
 have hk:k.toNat<(b.cs.map Pc.r).length:=by rw [List.length_map];omega
 obtain⟨m,hm⟩:=fibre (b.cs.map Pc.r) k.toNat hk
 have hr:(b.cs.map Pc.r)[k.toNat]=(b.piece k).r:=by
  rw [List.getElem_map,Bk.piece,List.getD_eq_getElem?_getD,List.getElem?_eq_getElem (by omega)];rfl
 rw [hr] at hm
 have hall:=hm fun _=>true
 rw [List.filter_eq_self.2 (fun _ _=>rfl),List.filter_eq_self.2 (fun _ _=>rfl)] at hall
 have hpos:0<m:=by
  have:(weightsL b).length≠0:=fun e=>weightsL_ne hb (List.length_eq_zero_iff.1 e)
  rcases Nat.eq_zero_or_pos m with rfl|h
  ·rw [weightsL,hall,Nat.mul_zero] at this;exact absurd rfl this
  ·exact h
 rw [←how_mul _ _ m hpos,may]
 have e1:((cases b).filter fun t=>lifts b t.1 g (nth t.2 k)).length=liftN b g (b.piece k).r (bearsL b)*m:=by
  unfold cases liftN
  rw [filter_flat]
  induction bearsL b with
  |nil=>simp
  |cons p l ih=>
   rw [List.flatMap_cons,List.flatMap_cons,List.length_append,List.length_append,ih,Nat.add_mul,List.filter_map,List.length_map]
   exact congrArg (· +_) (hm fun n=>lifts b p g n)
 have e2:(cases b).length=allN (b.piece k).r (bearsL b)*m:=by
  unfold cases allN
  induction bearsL b with
  |nil=>simp
  |cons p l ih=>
   rw [List.flatMap_cons,List.flatMap_cons,List.length_append,List.length_append,ih,Nat.add_mul,List.length_map]
   exact congrArg (· +_) hall
 rw [e1,e2]
section
variable {main:Bool}{J:Goroutine→Mem→Prop}(hJ:Closed prog main J)
include hJ
theorem casesRef_c{b:Bk}{v:Value}{ro:RO}(hv:BkV ro v b)(hs:b.short):CallR prog J (fnv 34) [v] ro (fun w _=>w= .tuple [.int .i64 (casesOf b).1, .int .i64 (casesOf b).2].toArray):=by
 have hvv:=hv
 obtain⟨pb,pc,gb,gc,cb,cc,tb,tc,rfl,hp,hg,hc,ht⟩:=hv.all
 refine CallR.intro hJ (by kernel_rfl) fun c cs tail hret=>enter_X (n:=16) func34 U U (Nl U) ?_
 have C:Ctx prog main J (bf 34 .normal):=⟨hJ,by decide⟩
 refine Xr C U U<|R.box C U U U U fun p1=>R.asg C U U U<|Ad C U U<|Xs C<|Xr C U U<|R5 C U U isAgg27 sizeOf27 (by repeat constructor) Tk5<|R.callP C U U U U (checkBookR_c hJ hvv hs)<|Ad C U U<|Xr C U U<|Rm C U U<|R.int C U U U U b_neq<|R.done C<|X.cond C.1 U (fun h1=>?_) (fun h1=>?_)
 ·have h1:checkBook b≠0:=by simpa using h1
  refine Xr C U U<|Rm C U U<|R.asg C U U U<|Ad C U U<|X.ret C U U func34 U (by exact(.tmp U (.tmp U .nil)))<|Hr hret (RO.le_refl _) ?_
  rw [casesOf,if_pos h1];rfl
 ·have h1:checkBook b=0:=by simpa using h1
  have hb:=good_of h1
  have hle:=bearsL_le hb
  have hwl:=weightsL_le hb
  have hmul:(((bearsL b).length:Nat):Int)*((weightsL b).length:Nat)=(((cases b).length:Nat):Int):=by
   rw [←Int.natCast_mul];unfold cases;rw [flat_const _ _ (weightsL b).length fun _ _=>List.length_map ..]
  have hcl:=cases_le hb
  refine X.skip C.1<|Xs C<|Xd C fun hok=>D5 C 0 hok U U isAgg27 sizeOf27 (by repeat constructor) Tk5<|D5 C 3 hok U U isAgg27 sizeOf27 (by repeat constructor) Tk5<|De 1 (some 11) [true,false] hok (fun _ _ A hk=>?_)
  refine R.callR C U (A.w U U) (A.x U U) (A.s U U) (bearsOfR_c hJ hvv hb) fun v1 ro1 hl1 hq1=>hk _ _ ⟨(QFs.cons (QF.of U (fun _ _ A h=>R.loadAgg C U (A.w U U) (A.x U U) isAgg27 sizeOf27 (by repeat constructor) Tk5 h)) QFs.nil), ?_⟩
  obtain⟨lb,lc,rfl⟩:=hq1.form
  refine Ds C 2 hok U U runUnderlying23<|De 4 (some 14) [false] hok (fun _ _ A hk=>?_)
  refine R.callP C U (A.w U U) (A.x U U) (A.s U U) (manyWeightsR_c hJ (hvv.mono hl1) hb) (hk _ _ ⟨QFs.nil, ?_⟩)
  refine Di C 5 hok U U U U U (b_mul (by omega) (by omega))<|Da C 6 hok U U<|Da C 7 hok U U<|D.done C hok (by kernel_rfl)<|X.ret C U U func34 U (by exact(.tmp U (.tmp U .nil)))<|Hr hret hl1 ?_
  rw [hmul,casesOf,if_neg (fun e=>e h1)];rfl
theorem bearsRef_c{b:Bk}{v:Value}{ro:RO}(hv:BkV ro v b)(hs:b.short)(i:Int):CallR prog J (fnv 36) [v, .int .i64 i] ro (fun w ro'=>∃vl,LsI ro' vl (bearsR b i).1∧w= .tuple [vl, .int .i64 (bearsR b i).2].toArray):=by
 have hvv:=hv
 obtain⟨pb,pc,gb,gc,cb,cc,tb,tc,rfl,hp,hg,hc,ht⟩:=hv.all
 have hsp:=hs.ps.1
 rw [bears_known]
 have hmem:=fun p=>known_mem (b:=b) (h:=there i b.ps.length) (p:=p)
 have hle:=known_le (b:=b) (h:=there i b.ps.length)
 refine CallR.intro hJ (by kernel_rfl) fun c cs tail hret=>enter_X (n:=38) func36 U U (Nl U) ?_
 have C:Ctx prog main J (bf 36 .normal):=⟨hJ,by decide⟩
 refine Xr C U U<|R.box C U U U U fun p2=>R.asg C U U U<|Ad C U U<|Xs C<|Xd C fun hok=>D5 C 0 hok U U isAgg27 sizeOf27 (by repeat constructor) Tk5<|D5 C 1 hok U U isAgg27 sizeOf27 (by repeat constructor) Tk5<|Dm C 2 hok U U U<|De 3 (some 14) [false,true] hok (fun _ _ A hk=>?_)
 refine R.callP C U (A.w U U) (A.x U U) (A.s U U) (isPartR_c hJ hvv (by omega) i) (hk _ _ ⟨(QFs.cons (QF.of U (fun _ _ A h=>R.loadAgg C U (A.w U U) (A.x U U) isAgg27 sizeOf27 (by repeat constructor) Tk5 h)) QFs.nil), ?_⟩)
 refine De 4 (some 15) [true] hok (fun _ _ A hk=>?_)
 refine R.callP C U (A.w U U) (A.x U U) (A.s U U) (thereR_c hJ _ _) (hk _ _ ⟨(QFs.cons (QF.of U (fun _ _ A h=>R.loadAgg C U (A.w U U) (A.x U U) isAgg27 sizeOf27 (by repeat constructor) Tk5 h)) QFs.nil), ?_⟩)
 refine De 5 (some 16) [false] hok (fun _ _ A hk=>?_)
 refine R.callR C U (A.w U U) (A.x U U) (A.s U U) ((knownR_c hJ hvv hs (there i b.ps.length))) fun v1 ro1 hl1 hq1=>hk _ _ ⟨QFs.nil, ?_⟩
 generalize knownR b (there i b.ps.length)=kn at hmem hle hq1 hret
 obtain⟨L,h0⟩:=kn
 simp only at hmem hle hq1 hret
 obtain⟨vl,hL,rfl⟩:=hq1
 obtain⟨lb,lc,rfl⟩:=hL.form
 refine Dm C 6 hok U U U<|Dp 7 hok (fun _ _ _ A h=>R.ext C U (A.w U U) (A.x U U) U h)<|Dp 8 hok (fun _ _ _ A h=>R.ext C U (A.w U U) (A.x U U) U h)<|Da C 9 hok U U<|Da C 10 hok U U<|D.done C hok (by kernel_rfl)<|Xr C U U<|Ad C U U<|Xs C<|Xr C U U<|Ad C U U<|X.block C.1<|X.loopI (ι:=Nat×Value×List (Nat×Obj)) C.1 (fun s=>s.1≤L.length∧Buf 3 1 [] s.2.1 (((L.take s.1).map fun p=>nth p i).flatMap ic) s.2.2)
  (fun s=> [(1, .int .i64 i),(2, .pointer (some ⟨p2,0,none⟩)),(6, .slice lb L.length lc),(7, .int .i64 h0),(8,s.2.1),(9, .int .i64 (s.1:Int))]) (fun s=>⟨ro1,s.2.2++((p2, .cells [.int .i64 b.w, .slice pb b.ps.length pc, .slice gb b.gs.length gc, .slice cb b.cs.length cc, .slice tb b.ts.length tc].toArray 27 (0,0))::tail)⟩) (fun s=>L.length-s.1) (0, .slice none 0 0, []) ⟨Nat.zero_le _, .nil⟩ rfl ⟨U,U,U,U,U,U,trivial⟩ fun s hs' hnext=>?_
 obtain⟨j,v3,own3⟩:=s
 obtain⟨hj,hb3⟩:=hs'
 simp only at hj hb3 hnext⊢
 have hfl3:(((L.take j).map fun p=>nth p i).flatMap ic).length=j:=by rw [flat_len,List.length_map,List.length_take];omega
 obtain⟨bs3,cap3,rfl⟩:=hb3.form (by decide)
 refine Xs C<|Xr C U U<|Rm C U U<|Rm C U U<|Rn C U U runUnderlying23<|R.int C U U U U b_lss<|R.done C<|Xk C U (fun hlt=>?_) (fun hlt=>?_)
 ·have hj':j<L.length:=by omega
  obtain⟨hgood,hth,_,hpl,_⟩:=hmem _ (List.getElem_mem hj')
  have hi:=there_zero.1 hth
  obtain⟨ap,ao,acap,al,aty,afq,hasl,haro,hasub⟩:=hL.at (by omega)
  cases hasl
  obtain⟨qb,qc,hqat,hqc,hqls⟩:=hasub j hj'
  have hstep:(L.take (j+1)).map (fun p=>nth p i)=(L.take j).map (fun p=>nth p i)++ [nth L[j] i]:=by rw [List.take_succ_eq_append_getElem hj',List.map_append];rfl
  generalize L[j]=x at hqat hqc hqls hpl hstep
  obtain⟨xp,xo,xcap,xl,xty,xfq,hxsl,hxro,hxsub⟩:=hqls.at ic_len (by omega)
  cases hxsl
  have hxi:=ic_at hxsub (i:=i.toNat) (by omega)
  have hnt:x[i.toNat]'(by omega)=nth x i:=by simp [nth,List.getD_eq_getElem?_getD,show i.toNat<x.length by omega]
  rw [hnt] at hxi
  generalize nth x i=y at hxi hstep
  refine X.skip C.1<|Xs C<|X.block C.1<|X.region C U U<|Rm C U U<|Rm C U U<|Rm C U U<|Rx C U U U runUnderlying23 sizeOf28<|R.loadOneRo C U U U isAgg28 haro hqat<|Rm C U U<|Rx C U U U runUnderlying28 sizeOf3<|R.loadOneRo C U U U isAgg3 hxro hxi<|R.buildSlice C (vs:=_) U U (show pvals _ _=some (numbered 0 [_]) from rfl) U runUnderlying28 sizeOf3 zeroValue3 (by decide) (Cat.one U U) fun p33=>R.append1 (kk:=1) C U U U U runUnderlying28 runUnderlying28 (fun _=>nofun) (show prog.info? 3=some Tryz.t3 by kernel_rfl) U U U (by decide) (by decide) (hb3.app _) U U (by simp only [List.length_append,List.length_cons,List.length_nil];omega) fun v' own' hb'=>Ad C U U<|X.inBlock C.1<|X.region C U U<|Rm C U U<|Ra C U U U<|Ad C U U ?_
  obtain⟨own5,rfl,hb5⟩:=hb'.unapp (tail:= [])
  refine X.weaken ?_ (hnext (j+1,v',own5) ⟨hj', ?_⟩ (by simp only;omega))
  ·exact⟨rfl,rfl,rfl,rfl,rfl,by simp [look],trivial⟩
  ·rw [hstep,List.flatMap_append];exact hb5
 ·obtain rfl:j=L.length:=by omega
  rw [List.take_length] at hb3 hfl3⊢
  refine X.exit C.1 U<|Xs C<|X.finish C.1 ic_len (by decide) (hb3.app _) fun ro5 hl5 hls5=>X.region C U U<|Rm C U U<|R.callR C U U U U (sortedR_c hJ hls5 (by rw [List.length_map];omega)) fun v6 ro6 hl6 hq6=>Rm C U U<|R.asg C U U U<|Ad C U U<|X.ret C U U func36 U (by exact(.tmp U (.tmp U .nil)))<|Hr hret (RO.le_trans hl1 (RO.le_trans hl5 hl6)) ?_
  exact⟨_,hq6,rfl⟩
theorem weightsRef_c{b:Bk}{v:Value}{ro:RO}(hv:BkV ro v b)(hs:b.short)(i:Int):CallR prog J (fnv 38) [v, .int .i64 i] ro (fun w ro'=>∃vl,LsI ro' vl (weightsR b i).1∧w= .tuple [vl, .int .i64 (weightsR b i).2].toArray):=by
 have hvv:=hv
 obtain⟨pb,pc,gb,gc,cb,cc,tb,tc,rfl,hp,hg,hc,ht⟩:=hv.all
 have hsc:=hs.cs.1
 refine CallR.intro hJ (by kernel_rfl) fun c cs tail hret=>enter_X (n:=45) func38 U U (Nl U) ?_
 have C:Ctx prog main J (bf 38 .normal):=⟨hJ,by decide⟩
 refine Xr C U U<|R.box C U U U U fun p2=>R.asg C U U U<|Ad C U U<|Xs C<|Xs C<|Xd C fun hok=>D5 C 0 hok U U isAgg27 sizeOf27 (by repeat constructor) Tk5<|D5 C 1 hok U U isAgg27 sizeOf27 (by repeat constructor) Tk5<|Dm C 2 hok U U U<|De 3 (some 14) [false,true] hok (fun _ _ A hk=>?_)
 refine R.callP C U (A.w U U) (A.x U U) (A.s U U) (isPieceR_c hJ hvv (by omega) i) (hk _ _ ⟨(QFs.cons (QF.of U (fun _ _ A h=>R.loadAgg C U (A.w U U) (A.x U U) isAgg27 sizeOf27 (by repeat constructor) Tk5 h)) QFs.nil), ?_⟩)
 refine De 4 (some 15) [true] hok (fun _ _ A hk=>?_)
 refine R.callP C U (A.w U U) (A.x U U) (A.s U U) (thereR_c hJ _ _) (hk _ _ ⟨(QFs.cons (QF.of U (fun _ _ A h=>R.loadAgg C U (A.w U U) (A.x U U) isAgg27 sizeOf27 (by repeat constructor) Tk5 h)) QFs.nil), ?_⟩)
 refine De 5 (some 16) [false] hok (fun _ _ A hk=>?_)
 refine R.callR C U (A.w U U) (A.x U U) (A.s U U) ((knownR_c hJ hvv hs (there i b.cs.length))) fun v1 ro1 hl1 hq1=>hk _ _ ⟨QFs.nil, ?_⟩
 obtain⟨vl,hL,rfl⟩:=hq1
 rw [known_two] at*
 obtain⟨lb,lc,rfl⟩:=hL.form
 refine Dm C 6 hok U U U<|Dp 7 hok (fun _ _ _ A h=>R.ext C U (A.w U U) (A.x U U) U h)<|Dp 8 hok (fun _ _ _ A h=>R.ext C U (A.w U U) (A.x U U) U h)<|Da C 9 hok U U<|Da C 10 hok U U<|D.done C hok (by kernel_rfl)<|Xr C U U<|Rm C U U<|R.int C U U U U b_neq<|R.done C<|X.cond C.1 U (fun h1=>?_) (fun h1=>?_)
 ·have h1:openH b (there i b.cs.length)≠0:=by simpa using h1
  refine Xr C U U<|Rm C U U<|R.asg C U U U<|Ad C U U<|X.ret C U U func38 U (by exact(.tmp U (.tmp U .nil)))<|Hr hret hl1 ?_
  rw [weightsR,if_pos h1];exact⟨_,Ls.nil,rfl⟩
 ·have h1:openH b (there i b.cs.length)=0:=by simpa using h1
  obtain⟨hb,hth,hne,hch⟩:=openH_good h1
  have hi:=there_zero.1 hth
  have hwe:weightsR b i=((b.piece i).r.nums,0):=by rw [weightsR,if_neg (fun e=>e h1),weightsOf_eq hb hne hi.1 hi.2]
  rw [hwe] at hret
  obtain⟨ap,ao,acap,al,aty,afq,hasl,haro,hasub⟩:=hc.at Pc.len (by omega)
  cases hasl
  have hpi:b.cs[i.toNat]'(by omega)=b.piece i:=by simp [Bk.piece,List.getD_eq_getElem?_getD,show i.toNat<b.cs.length by omega]
  have hlo:al[ao+i.toNat*3+1]? =some (.int .i64 (b.piece i).r.lo):=by rw [←hpi];exact(hasub i.toNat (by omega)).get 1 (by decide)
  have hhi:al[ao+i.toNat*3+2]? =some (.int .i64 (b.piece i).r.hi):=by rw [←hpi];exact(hasub i.toNat (by omega)).get 2 (by decide)
  have hf:1≤(b.piece i).r.lo∧(b.piece i).r.lo≤(b.piece i).r.hi∧(b.piece i).r.hi≤99∧(b.piece i).r.hi- (b.piece i).r.lo<3:=by rw [←hpi];exact hb.cs _ (List.getElem_mem _)
  generalize(b.piece i).r=r at hlo hhi hf hret
  have haro1:=hl1 _ _ haro
  obtain⟨c,hcc⟩:∃c:Nat,c=(r.hi+1-r.lo).toNat:=⟨_,rfl⟩
  have hnums:r.nums=rz r.lo c:=by rw [hcc];rfl
  refine X.skip C.1<|Xr C U U<|Ad C U U<|Xs C<|Xr C U U<|Rf C 3 U U runUnderlying27 U sizeOf24<|Rl C U U isAgg24 (by repeat constructor) U<|Rm C U U<|Rx C U U U runUnderlying24 sizeOf79<|R.fieldAddr C U U U runUnderlying79 U sizeOf65 U<|R.fieldAddr C U U U runUnderlying65 U sizeOf3 U<|R.loadOneRo C U U U isAgg3 haro1 hlo<|Ad C U U<|X.block C.1<|X.loopI (ι:=Nat×Value×List (Nat×Obj)) C.1 (fun s=>s.1≤c∧Buf 3 1 [] s.2.1 ((rz r.lo s.1).flatMap ic) s.2.2)
   (fun s=> [(1, .int .i64 i),(2, .pointer (some ⟨p2,0,none⟩)),(8,s.2.1),(9, .int .i64 (r.lo+(s.1:Int)))]) (fun s=>⟨ro1,s.2.2++((p2, .cells [.int .i64 b.w, .slice pb b.ps.length pc, .slice gb b.gs.length gc, .slice (some ⟨ap,ao,none⟩) b.cs.length cc, .slice tb b.ts.length tc].toArray 27 (0,0))::tail)⟩) (fun s=>c-s.1) (0, .slice none 0 0, []) ⟨Nat.zero_le _, .nil⟩ rfl ⟨rfl,rfl,rfl,by simp [look],trivial⟩ fun s hs' hnext=>?_
  obtain⟨j,v3,own3⟩:=s
  obtain⟨hj,hb3⟩:=hs'
  simp only at hj hb3 hnext⊢
  have hfl3:((rz r.lo j).flatMap ic).length=j:=by rw [flat_len,rz_len]
  obtain⟨bs3,cap3,rfl⟩:=hb3.form (by decide)
  refine Xs C<|Xr C U U<|Rm C U U<|Rf C 3 U U runUnderlying27 U sizeOf24<|R.loadOne C U U U isAgg24 (by repeat (first|exact Mh|apply Mt|apply List.mem_append_right)) U<|Rm C U U<|Rx C U U U runUnderlying24 sizeOf79<|R.fieldAddr C U U U runUnderlying79 U sizeOf65 U<|R.fieldAddr C U U U runUnderlying65 U sizeOf3 U<|R.loadOneRo C U U U isAgg3 haro1 hhi<|R.int C U U U U b_leq<|R.done C<|Xk C U (fun hlt=>?_) (fun hlt=>?_)
  ·refine X.skip C.1<|Xs C<|X.block C.1<|X.region C U U<|Rm C U U<|Rm C U U<|R.buildSlice C (vs:=_) U U (show pvals _ _=some (numbered 0 [_]) from rfl) U runUnderlying28 sizeOf3 zeroValue3 (by decide) (Cat.one U U) fun p42=>R.append1 (kk:=1) C U U U U runUnderlying28 runUnderlying28 (fun _=>nofun) (show prog.info? 3=some Tryz.t3 by kernel_rfl) U U U (by decide) (by decide) (hb3.app _) U U (by simp only [List.length_append,List.length_cons,List.length_nil];omega) fun v' own' hb'=>Ad C U U<|X.inBlock C.1<|X.region C U U<|Rm C U U<|Ra C U U U<|Ad C U U ?_
   obtain⟨own5,rfl,hb5⟩:=hb'.unapp (tail:= [])
   refine X.weaken ?_ (hnext (j+1,v',own5) ⟨by omega, ?_⟩ (by simp only;omega))
   ·exact⟨rfl,rfl,rfl,by simp only [look];congr 2;omega,trivial⟩
   ·rw [rz_to,List.flatMap_append];exact hb5
  ·obtain rfl:j=c:=by omega
   rw [←hnums] at hb3 hfl3⊢
   refine X.exit C.1 U<|Xs C<|X.finish C.1 ic_len (by decide) (hb3.app _) fun ro5 hl5 hls5=>X.region C U U<|Rm C U U<|R.asg C U U U<|Ad C U U<|X.ret C U U func38 U (by exact(.tmp U (.tmp U .nil)))<|Hr hret (RO.le_trans hl1 hl5) ?_
   exact⟨_,hls5,rfl⟩
end
end
section
theorem liftN_take(b:Bk)(g:Int)(r:Rc)(L:List (List Int)){i:Nat}(h:i<L.length):liftN b g r (L.take (i+1))=liftN b g r (L.take i)+(r.nums.filter fun n=>lifts b L[i] g n).length:=by
 unfold liftN;rw [List.take_succ_eq_append_getElem h,List.flatMap_append,List.length_append];simp
theorem allN_take(r:Rc)(L:List (List Int)){i:Nat}(h:i<L.length):allN r (L.take (i+1))=allN r (L.take i)+r.nums.length:=by
 unfold allN;rw [List.take_succ_eq_append_getElem h,List.flatMap_append,List.length_append];simp
theorem filter_rz(lo:Int)(q:Int→Bool)(j:Nat):((rz lo (j+1)).filter q).length=((rz lo j).filter q).length+if q (lo+j) then 1 else 0:=by
 rw [rz_to,List.filter_append,List.length_append,List.filter_cons,List.filter_nil]
 cases q (lo+j)<;>rfl
section
variable {main:Bool}{J:Goroutine→Mem→Prop}(hJ:Closed prog main J)
include hJ
theorem mayOfR_c{b:Bk}{v vL:Value}{ro:RO}(hv:BkV ro v b)(hb:b.good){L:List (List Int)}(hL:LsG ro vL L)(hn:L.length≤81)(hl:∀p∈L,p.length=b.ps.length){g k:Int}(hg0:0≤g∧g<b.gs.length)(hk:0≤k∧k<b.cs.length):CallR prog J (fnv 127) [v,vL, .int .i64 g, .int .i64 k] ro (fun w _=>w= .int .i64 (how (liftN b g (b.piece k).r L) (allN (b.piece k).r L))):=by
 have hvv:=hv
 obtain⟨pb,pc,gb,gc,cb,cc,tb,tc,rfl,hp,hg,hc,ht⟩:=hv.all
 obtain⟨lb,lc,rfl⟩:=hL.form
 obtain⟨ap,ao,acap,al,aty,afq,hasl,haro,hasub⟩:=hc.at Pc.len (by omega)
 cases hasl
 have hpi:b.cs[k.toNat]'(by omega)=b.piece k:=by simp [Bk.piece,List.getD_eq_getElem?_getD,show k.toNat<b.cs.length by omega]
 have hlo:al[ao+k.toNat*3+1]? =some (.int .i64 (b.piece k).r.lo):=by rw [←hpi];exact(hasub k.toNat (by omega)).get 1 (by decide)
 have hhi:al[ao+k.toNat*3+2]? =some (.int .i64 (b.piece k).r.hi):=by rw [←hpi];exact(hasub k.toNat (by omega)).get 2 (by decide)
 have hf:1≤(b.piece k).r.lo∧(b.piece k).r.lo≤(b.piece k).r.hi∧(b.piece k).r.hi≤99∧(b.piece k).r.hi- (b.piece k).r.lo<3:=by rw [←hpi];exact hb.cs _ (List.getElem_mem _)
 generalize(b.piece k).r=r at hlo hhi hf⊢
 obtain⟨cn,hcc⟩:∃c:Nat,c=(r.hi+1-r.lo).toNat:=⟨_,rfl⟩
 have hnums:r.nums=rz r.lo cn:=by rw [hcc];rfl
 have hall:∀i,i≤L.length→allN r (L.take i)=i*cn:=fun i hi=>by
  unfold allN;rw [flat_const _ _ cn fun _ _=>by rw [hnums,rz_len],List.length_take,Nat.min_eq_left hi]
 have hlift:∀i,liftN b g r (L.take i)≤allN r (L.take i):=fun i=>by
  unfold liftN allN
  induction L.take i with
  |nil=>exact Nat.le_refl _
  |cons x l ih=>
   rw [List.flatMap_cons,List.flatMap_cons,List.length_append,List.length_append]
   have:=List.length_filter_le (fun n=>lifts b x g n) r.nums
   omega
 have hc3:cn≤3:=by omega
 have hac:∀i,i≤L.length→allN r (L.take i)≤243:=fun i hi=>by
  rw [hall i hi]
  calc i*cn≤81*3:=Nat.mul_le_mul (by omega) hc3
   _=243:=rfl
 refine CallR.intro hJ (by kernel_rfl) fun c cs tail hret=>enter_X (n:=52) func127 U U (Nl U) ?_
 have C:Ctx prog main J (bf 127 .normal):=⟨hJ,by decide⟩
 refine Xr C U U<|R.box C U U U U fun p4=>Ad C U U<|Xr C U U<|R.asg C U U U<|Ad C U U<|Xs C<|Xr C U U<|Ad C U U<|X.block C.1<|X.loopI (ι:=Nat×RO) C.1 (fun s=>s.1≤L.length∧ro.le s.2)
  (fun s=> [(1, .slice lb L.length lc),(2, .int .i64 g),(3, .int .i64 k),(4, .pointer (some ⟨p4,0,none⟩)),(9, .int .i64 (liftN b g r (L.take s.1):Int)),(10, .int .i64 (allN r (L.take s.1):Int)),(11, .int .i64 (s.1:Int))]) (fun s=>⟨s.2,(p4, .cells [.int .i64 b.w, .slice pb b.ps.length pc, .slice gb b.gs.length gc, .slice (some ⟨ap,ao,none⟩) b.cs.length cc, .slice tb b.ts.length tc].toArray 27 (0,0))::tail⟩) (fun s=>L.length-s.1) (0,ro) ⟨Nat.zero_le _,RO.le_refl _⟩ rfl ⟨U,U,U,U,U,U,U,trivial⟩ fun s hs hnext=>?_
 obtain⟨i,ro1⟩:=s
 obtain⟨hi,hl1⟩:=hs
 simp only at hi hl1 hnext⊢
 refine Xs C<|Xr C U U<|Rm C U U<|Rm C U U<|Rn C U U runUnderlying23<|R.int C U U U U b_lss<|R.done C<|Xk C U (fun hlt=>?_) (fun hlt=>?_)
 ·have hi':i<L.length:=by omega
  have hpl:=hl _ (List.getElem_mem hi')
  obtain⟨lp,lo,lcap,ll,lty,lfq,hlsl,hlro,hlsub⟩:=hL.at (by omega)
  cases hlsl
  obtain⟨qb,qc,hqat,hqc,hqls⟩:=hlsub i hi'
  have hst1:=liftN_take b g r L hi'
  have hst2:=allN_take r L hi'
  rw [hnums,rz_len] at hst2
  rw [hnums] at hst1
  have ha1:=hac i hi
  have ha2:=hlift i
  generalize L[i]=x at hqat hqc hqls hpl hst1
  generalize liftN b g r (L.take i)=m1 at hst1 ha2⊢
  generalize allN r (L.take i)=m2 at hst2 ha1 ha2⊢
  have haro1:=hl1 _ _ haro
  refine X.skip C.1<|Xs C<|X.block C.1<|Xr C U U<|Rf C 3 U U runUnderlying27 U sizeOf24<|Rl C U U isAgg24 (by repeat constructor) U<|Rm C U U<|Rx C U U U runUnderlying24 sizeOf79<|R.fieldAddr C U U U runUnderlying79 U sizeOf65 U<|R.fieldAddr C U U U runUnderlying65 U sizeOf3 U<|R.loadOneRo C U U U isAgg3 haro1 hlo<|Ad C U U<|X.block C.1<|X.loopI (ι:=Nat×RO) C.1 (fun s=>s.1≤cn∧ro1.le s.2)
   (fun s=> [(1, .slice (some ⟨lp,lo,none⟩) L.length lc),(2, .int .i64 g),(3, .int .i64 k),(4, .pointer (some ⟨p4,0,none⟩)),(9, .int .i64 ((m1+((rz r.lo s.1).filter fun n=>lifts b x g n).length:Nat):Int)),(10, .int .i64 ((m2+s.1:Nat):Int)),(11, .int .i64 (i:Int)),(12, .int .i64 (r.lo+(s.1:Int)))]) (fun s=>⟨s.2,(p4, .cells [.int .i64 b.w, .slice pb b.ps.length pc, .slice gb b.gs.length gc, .slice (some ⟨ap,ao,none⟩) b.cs.length cc, .slice tb b.ts.length tc].toArray 27 (0,0))::tail⟩) (fun s=>cn-s.1) (0,ro1) ⟨Nat.zero_le _,RO.le_refl _⟩ rfl ⟨rfl,rfl,rfl,rfl,rfl,rfl,rfl,by simp [look],trivial⟩ fun s hs hnext2=>?_
  obtain⟨j,ro2⟩:=s
  obtain⟨hj,hl2⟩:=hs
  simp only at hj hl2 hnext2⊢
  have hL2:=RO.le_trans hl1 hl2
  have haro2:=hL2 _ _ haro
  have hlro2:=hL2 _ _ hlro
  have hfj:=List.length_filter_le (fun n=>lifts b x g n) (rz r.lo j)
  rw [rz_len] at hfj
  have hfs:=filter_rz r.lo (fun n=>lifts b x g n) j
  refine Xs C<|Xr C U U<|Rm C U U<|Rf C 3 U U runUnderlying27 U sizeOf24<|Rl C U U isAgg24 (by repeat constructor) U<|Rm C U U<|Rx C U U U runUnderlying24 sizeOf79<|R.fieldAddr C U U U runUnderlying79 U sizeOf65 U<|R.fieldAddr C U U U runUnderlying65 U sizeOf3 U<|R.loadOneRo C U U U isAgg3 haro2 hhi<|R.int C U U U U b_leq<|R.done C<|Xk C U (fun hlt2=>?_) (fun hlt2=>?_)
  ·refine X.skip C.1<|Xs C<|X.block C.1<|Xr C U U<|Rm C U U<|Ra C U U U<|Ad C U U<|Xs C<|Xd C fun hok=>D5 C 0 hok U U isAgg27 sizeOf27 (by repeat constructor) Tk5<|Dm C 1 hok U U U<|Dm C 2 hok U U U<|Dx C 3 hok U U U runUnderlying23 sizeOf28<|D2 C 4 hok U U isAgg28 hlro2 hqat<|Dm C 5 hok U U U<|Dm C 6 hok U U U<|De 7 (some 46) [false,false] hok (fun _ _ A hk=>?_)
   refine R.callR C U (A.w U U) (A.x U U) (A.s U U) (liftsOfR_c hJ (hvv.mono hL2) hb (hqls.mono hL2) hpl hg0 (by omega)) fun v4 ro4 hl4 hq4=>hk _ _ ⟨QFs.nil, ?_⟩
   refine D.done C hok (by kernel_rfl) ?_
   subst hq4
   refine X.cond C.1 U (fun hyes=>?_) (fun hyes=>?_)
   ·rw [if_pos hyes] at hfs
    refine X.region C U U<|Rm C U U<|Ra C U U U<|Ad C U U<|X.inBlock C.1<|X.region C U U<|Rm C U U<|Ra C U U U<|Ad C U U<|X.weaken ?_ (hnext2 (j+1,ro4) ⟨by simp only;omega,RO.le_trans hl2 hl4⟩ (by simp only;omega))
    exact⟨rfl,rfl,rfl,rfl,by simp only [look];congr 2;omega,by simp only [look];congr 2,rfl,by simp only [look];congr 2;omega,trivial⟩
   ·rw [if_neg (by rw [hyes];decide)] at hfs
    refine X.skip C.1<|X.inBlock C.1<|X.region C U U<|Rm C U U<|Ra C U U U<|Ad C U U<|X.weaken ?_ (hnext2 (j+1,ro4) ⟨by simp only;omega,RO.le_trans hl2 hl4⟩ (by simp only;omega))
    exact⟨rfl,rfl,rfl,rfl,by simp only [look];rw [hfs];rfl,by simp only [look];congr 2,rfl,by simp only [look];congr 2;omega,trivial⟩
  ·obtain rfl:j=cn:=by omega
   refine X.exit C.1 U<|X.inBlock C.1<|X.region C U U<|Rm C U U<|Ra C U U U<|Ad C U U<|X.weaken ?_ (hnext (i+1,ro2) ⟨hi',hL2⟩ (by simp only;omega))
   exact⟨rfl,rfl,rfl,rfl,by simp only [look];rw [hst1],by simp only [look];rw [hst2],by simp [look],trivial⟩
 ·obtain rfl:i=L.length:=by omega
  rw [List.take_length]
  refine X.exit C.1 U<|Xr C U U<|Rm C U U<|Rm C U U<|R.callP C U U U U (howR_c hJ _ _ _)<|Ad C U U<|Xt C func127<|Hr hret hl1 ?_
  rfl
theorem mayRef_c{b:Bk}{v:Value}{ro:RO}(hv:BkV ro v b)(hs:b.short)(g k:Int):CallR prog J (fnv 40) [v, .int .i64 g, .int .i64 k] ro (fun w _=>w= .tuple [.int .i64 (mayR b g k).1, .int .i64 (mayR b g k).2].toArray):=by
 have hvv:=hv
 obtain⟨pb,pc,gb,gc,cb,cc,tb,tc,rfl,hp,hg,hc,ht⟩:=hv.all
 have hsg:=hs.gs.1
 have hsc:=hs.cs.1
 have hh:mayH b g k=openH b (if(if between g 0 ((b.gs.length:Int) -1) then between k 0 ((b.cs.length:Int) -1) else false)=true then 0 else 6):=by
  rw [mayH,firstH_two]
  unfold there
  cases h1:between g 0 ((b.gs.length:Int) -1)<;>cases h2:between k 0 ((b.cs.length:Int) -1)<;>simp
 generalize hq0:(if(if between g 0 ((b.gs.length:Int) -1) then between k 0 ((b.cs.length:Int) -1) else false)=true then(0:Int) else 6)=h0 at hh
 refine CallR.intro hJ (by kernel_rfl) fun c cs tail hret=>enter_X (n:=32) func40 U U (Nl U) ?_
 have C:Ctx prog main J (bf 40 .normal):=⟨hJ,by decide⟩
 refine Xr C U U<|R.box C U U U U fun p3=>R.asg C U U U<|Ad C U U<|Xs C<|X.afterI (ι:=RO×Value) (fun s=>ro.le s.1∧LsG s.1 s.2 (knownR b h0).1) (fun s=> [(1, .int .i64 g),(2, .int .i64 k),(3, .pointer (some ⟨p3,0,none⟩)),(8,s.2),(9, .int .i64 (knownR b h0).2)]) (fun s=>⟨s.1,(p3, .cells [.int .i64 b.w, .slice pb b.ps.length pc, .slice gb b.gs.length gc, .slice cb b.cs.length cc, .slice tb b.ts.length tc].toArray 27 (0,0))::tail⟩) (fun s hs'=>?_) (fun hcont=>?_)
 ·obtain⟨ro1,vL⟩:=s
  obtain⟨hl1,hL⟩:=hs'
  simp only at hl1 hL⊢
  have hL0:=hL
  obtain⟨lb,lc,rfl⟩:=hL.form
  rw [known_two]
  refine Xs C<|Xr C U U<|Rm C U U<|R.int C U U U U b_neq<|R.done C<|X.cond C.1 U (fun h1=>?_) (fun h1=>?_)
  ·have h1:openH b h0≠0:=by simpa using h1
   refine Xr C U U<|Rm C U U<|R.asg C U U U<|Ad C U U<|X.ret C U U func40 U (by exact(.tmp U (.tmp U .nil)))<|Hr hret hl1 ?_
   rw [mayR,hh,if_pos h1];rfl
  ·have h1:openH b h0=0:=by simpa using h1
   obtain⟨hb,hz,hne,hch⟩:=openH_good h1
   have hgk:between g 0 ((b.gs.length:Int) -1)=true∧between k 0 ((b.cs.length:Int) -1)=true:=by
    rw [hz] at hq0
    revert hq0
    cases between g 0 ((b.gs.length:Int) -1)<;>cases between k 0 ((b.cs.length:Int) -1)<;>simp
   have hg1:=between_iff.1 hgk.1
   have hk1:=between_iff.1 hgk.2
   rw [known_zero h1] at hL0
   have hll:(knownR b h0).1.length=(bearsL b).length:=by rw [known_zero h1]
   rw [hll]
   rw [known_zero h1] at hL
   refine X.skip C.1<|Xr C U U<|R5 C U U isAgg27 sizeOf27 (by repeat constructor) Tk5<|Rm C U U<|Rm C U U<|Rm C U U<|R.callR C U U U U (mayOfR_c hJ (hvv.mono hl1) hb hL (bearsL_le hb) bearsL_len ⟨hg1.1,by omega⟩ ⟨hk1.1,by omega⟩) fun v2 ro2 hl2 hq2=>?_
   subst hq2
   refine R.asg C U U U<|Ad C U U<|X.ret C U U func40 U (by exact(.tmp U (.tmp U .nil)))<|Hr hret (RO.le_trans hl1 hl2) ?_
   rw [mayR,hh,if_neg (fun e=>e h1),may_known hb hk1.1 (by omega)];rfl
 ·have hc9:=hcont
  refine Xd C fun hok=>D5 C 0 hok U U isAgg27 sizeOf27 (by repeat constructor) Tk5<|D5 C 1 hok U U isAgg27 sizeOf27 (by repeat constructor) Tk5<|Dm C 2 hok U U U<|De 3 (some 14) [false,true] hok (fun _ _ A hk=>?_)
  refine R.callP C U (A.w U U) (A.x U U) (A.s U U) (isGearR_c hJ hvv (by omega) g) (hk _ _ ⟨(QFs.cons (QF.of U (fun _ _ A h=>R.loadAgg C U (A.w U U) (A.x U U) isAgg27 sizeOf27 (by repeat constructor) Tk5 h)) QFs.nil), ?_⟩)
  refine Dm C 4 hok U U U<|D.fix (t:=15) U (fun hgd=>?_) (fun hgd=>?_)
  ·have e0:h0=if between k 0 ((b.cs.length:Int) -1)=true then 0 else 6:=by rw [←hq0,hgd];rfl
   refine D5 C 5 hok U U isAgg27 sizeOf27 (by repeat constructor) Tk5<|Dm C 6 hok U U U<|De 7 (some 18) [false,true] hok (fun _ _ A hk=>?_)
   refine R.callP C U (A.w U U) (A.x U U) (A.s U U) (isPieceR_c hJ hvv (by omega) k) (hk _ _ ⟨(QFs.cons (QF.of U (fun _ _ A h=>R.loadAgg C U (A.w U U) (A.x U U) isAgg27 sizeOf27 (by repeat constructor) Tk5 h)) QFs.nil), ?_⟩)
   refine Dp 8 hok (fun _ _ _ A h=>R.pickT C U (A.w U U) (A.x U U) (A.x U U) h)<|De 9 (some 20) [true] hok (fun _ _ A hk=>?_)
   refine R.callP C U (A.w U U) (A.x U U) (A.s U U) (thereR_c hJ _ _) (hk _ _ ⟨(QFs.cons (QF.of U (fun _ _ A h=>R.loadAgg C U (A.w U U) (A.x U U) isAgg27 sizeOf27 (by repeat constructor) Tk5 h)) QFs.nil), ?_⟩)
   refine De 10 (some 21) [false] hok (fun _ _ A hk=>?_)
   refine R.callR C U (A.w U U) (A.x U U) (A.s U U) ((knownR_c hJ hvv hs _)) fun v1 ro1 hl1 hq1=>hk _ _ ⟨QFs.nil, ?_⟩
   rw [←e0] at hq1
   obtain⟨vL,hL,rfl⟩:=hq1
   refine Dm C 11 hok U U U<|Dp 12 hok (fun _ _ _ A h=>R.ext C U (A.w U U) (A.x U U) U h)<|Dp 13 hok (fun _ _ _ A h=>R.ext C U (A.w U U) (A.x U U) U h)<|Da C 14 hok U U<|Da C 15 hok U U<|D.done C hok (by kernel_rfl)<|X.weaken ?_ (hc9 (ro1,vL) ⟨hl1,hL⟩)
   exact⟨U,U,U,U,U,trivial⟩
  ·have e0:h0=6:=by rw [←hq0,hgd];rfl
   refine Du C 5 hok U<|Du C 6 hok U<|Du C 7 hok U<|Dp 8 hok (fun _ _ _ A h=>R.pickF C U (A.w U U) (A.x U U) (A.x U U) h)<|De 9 (some 20) [true] hok (fun _ _ A hk=>?_)
   refine R.callP C U (A.w U U) (A.x U U) (A.s U U) (thereR_c hJ _ _) (hk _ _ ⟨(QFs.cons (QF.of U (fun _ _ A h=>R.loadAgg C U (A.w U U) (A.x U U) isAgg27 sizeOf27 (by repeat constructor) Tk5 h)) QFs.nil), ?_⟩)
   refine De 10 (some 21) [false] hok (fun _ _ A hk=>?_)
   refine R.callR C U (A.w U U) (A.x U U) (A.s U U) ((knownR_c hJ hvv hs _)) fun v1 ro1 hl1 hq1=>hk _ _ ⟨QFs.nil, ?_⟩
   rw [show(if false=true then(0:Int) else 6)=h0 from e0.symm] at hq1
   obtain⟨vL,hL,rfl⟩:=hq1
   refine Dm C 11 hok U U U<|Dp 12 hok (fun _ _ _ A h=>R.ext C U (A.w U U) (A.x U U) U h)<|Dp 13 hok (fun _ _ _ A h=>R.ext C U (A.w U U) (A.x U U) U h)<|Da C 14 hok U U<|Da C 15 hok U U<|D.done C hok (by kernel_rfl)<|X.weaken ?_ (hc9 (ro1,vL) ⟨hl1,hL⟩)
   exact⟨U,U,U,U,U,trivial⟩
omit hJ in
theorem all_takeY{α:Type}(l:List α)(q:α→Bool){i:Nat}(h:i<l.length):(l.take (i+1)).all q=((l.take i).all q && q l[i]):=by
 rw [List.take_succ_eq_append_getElem h,List.all_append];simp
theorem mostRef_c{b:Bk}{v:Value}{ro:RO}(hv:BkV ro v b)(hs:b.short)(g:Int):CallR prog J (fnv 42) [v, .int .i64 g] ro (fun w _=>w= .tuple [.int .i64 (mostR b g).1, .int .i64 (mostR b g).2].toArray):=by
 have hvv:=hv
 obtain⟨pb,pc,gb,gc,cb,cc,tb,tc,rfl,hp,hg,hc,ht⟩:=hv.all
 have hsg:=hs.gs.1
 refine CallR.intro hJ (by kernel_rfl) fun c cs tail hret=>enter_X (n:=46) func42 U U (Nl U) ?_
 have C:Ctx prog main J (bf 42 .normal):=⟨hJ,by decide⟩
 refine Xr C U U<|R.box C U U U U fun p2=>R.asg C U U U<|Ad C U U<|Xs C<|Xd C fun hok=>D5 C 0 hok U U isAgg27 sizeOf27 (by repeat constructor) Tk5<|D5 C 1 hok U U isAgg27 sizeOf27 (by repeat constructor) Tk5<|Dm C 2 hok U U U<|De 3 (some 15) [false,true] hok (fun _ _ A hk=>?_)
 refine R.callP C U (A.w U U) (A.x U U) (A.s U U) (isGearR_c hJ hvv (by omega) g) (hk _ _ ⟨(QFs.cons (QF.of U (fun _ _ A h=>R.loadAgg C U (A.w U U) (A.x U U) isAgg27 sizeOf27 (by repeat constructor) Tk5 h)) QFs.nil), ?_⟩)
 refine De 4 (some 16) [true] hok (fun _ _ A hk=>?_)
 refine R.callP C U (A.w U U) (A.x U U) (A.s U U) (thereR_c hJ _ _) (hk _ _ ⟨(QFs.cons (QF.of U (fun _ _ A h=>R.loadAgg C U (A.w U U) (A.x U U) isAgg27 sizeOf27 (by repeat constructor) Tk5 h)) QFs.nil), ?_⟩)
 refine De 5 (some 17) [false] hok (fun _ _ A hk=>?_)
 refine R.callR C U (A.w U U) (A.x U U) (A.s U U) ((knownR_c hJ hvv hs (there g b.gs.length))) fun v1 ro1 hl1 hq1=>hk _ _ ⟨QFs.nil, ?_⟩
 obtain⟨vl,hL,rfl⟩:=hq1
 rw [known_two] at*
 obtain⟨lb,lc,rfl⟩:=hL.form
 refine Dm C 6 hok U U U<|Dp 7 hok (fun _ _ _ A h=>R.ext C U (A.w U U) (A.x U U) U h)<|Dp 8 hok (fun _ _ _ A h=>R.ext C U (A.w U U) (A.x U U) U h)<|Da C 9 hok U U<|Da C 10 hok U U<|D.done C hok (by kernel_rfl)<|Xs C<|Xr C U U<|Rm C U U<|R.int C U U U U b_neq<|R.done C<|X.cond C.1 U (fun h1=>?_) (fun h1=>?_)
 ·have h1:mostH b g≠0:=by simpa [mostH] using h1
  refine Xr C U U<|Rm C U U<|R.asg C U U U<|Ad C U U<|X.ret C U U func42 U (by exact(.tmp U (.tmp U .nil)))<|Hr hret hl1 ?_
  rw [mostR,if_pos h1];rfl
 ·have h1:openH b (there g b.gs.length)=0:=by simpa using h1
  obtain⟨hb,hth,hne,hch⟩:=openH_good h1
  have hg0:=there_zero.1 hth
  rw [known_zero h1] at hL
  rw [show(knownR b (there g b.gs.length)).1.length=(bearsL b).length by rw [known_zero h1]]
  simp only at hL
  have hle:=bearsL_le hb
  have hall:=fun n=>all_bears hb g n
  have hmo:∀n:Int,0≤n∧n≤99→(n=0∨allLift b g n=true)→(∀k,n<k→k≤99→allLift b g k=false)→mostR b g=(n,0):=fun n h2 h3 h4=>by
   have h5:mostH b g=0:=h1
   rw [mostR,if_neg (fun e=>e h5),most_found hb hg0.1 hg0.2 h2 h3 h4]
  have hlen:=fun p (hp:p∈bearsL b)=>bearsL_len p hp
  generalize bearsL b=L at hL hle hall hlen⊢
  refine X.skip C.1<|Xs C<|Xr C U U<|Ad C U U<|X.block C.1<|X.loopI (ι:=Nat×RO) C.1 (fun s=>s.1≤99∧ro1.le s.2∧∀k,99- (s.1:Int)<k→k≤99→allLift b g k=false)
   (fun s=> [(1, .int .i64 g),(2, .pointer (some ⟨p2,0,none⟩)),(6, .slice lb L.length lc),(8, .int .i64 (99- (s.1:Int)))]) (fun s=>⟨s.2,(p2, .cells [.int .i64 b.w, .slice pb b.ps.length pc, .slice gb b.gs.length gc, .slice cb b.cs.length cc, .slice tb b.ts.length tc].toArray 27 (0,0))::tail⟩) (fun s=>99-s.1) (0,ro1) ⟨Nat.zero_le _,RO.le_refl _,fun k h2 h3=>by omega⟩ rfl ⟨U,U,U,U,trivial⟩ fun s hs' hnext=>?_
  obtain⟨j,ro2⟩:=s
  obtain⟨hj,hl2,hup⟩:=hs'
  simp only at hj hl2 hup hnext⊢
  refine Xs C<|Xr C U U<|Rm C U U<|R.int C U U U U b_gtr<|R.done C<|Xk C U (fun hlt=>?_) (fun hlt=>?_)
  ·obtain⟨n,hn⟩:∃n:Int,n=99- (j:Int):=⟨_,rfl⟩
   rw [←hn] at hup hlt⊢
   refine X.skip C.1<|Xs C<|X.block C.1<|Xr C U U<|Ad C U U<|Xs C<|Xr C U U<|Ad C U U<|X.block C.1<|X.loopI (ι:=Nat×RO) C.1 (fun s=>s.1≤L.length∧ro2.le s.2)
    (fun s=> [(1, .int .i64 g),(2, .pointer (some ⟨p2,0,none⟩)),(6, .slice lb L.length lc),(8, .int .i64 n),(9, .bool ((L.take s.1).all fun p=>lifts b p g n)),(10, .int .i64 (s.1:Int))]) (fun s=>⟨s.2,(p2, .cells [.int .i64 b.w, .slice pb b.ps.length pc, .slice gb b.gs.length gc, .slice cb b.cs.length cc, .slice tb b.ts.length tc].toArray 27 (0,0))::tail⟩) (fun s=>L.length-s.1) (0,ro2) ⟨Nat.zero_le _,RO.le_refl _⟩ rfl ⟨U,U,U,U,U,U,trivial⟩ fun s hs' hnext2=>?_
   obtain⟨i,ro3⟩:=s
   obtain⟨hi,hl3⟩:=hs'
   simp only at hi hl3 hnext2⊢
   have hL3:=RO.le_trans hl1 (RO.le_trans hl2 hl3)
   refine Xs C<|Xr C U U<|Rm C U U<|Rm C U U<|Rn C U U runUnderlying23<|R.int C U U U U b_lss<|R.done C<|Xk C U (fun hlt2=>?_) (fun hlt2=>?_)
   ·have hi':i<L.length:=by omega
    have hpl:=hlen _ (List.getElem_mem hi')
    obtain⟨lp,lo,lcap,ll,lty,lfq,hlsl,hlro,hlsub⟩:=hL.at (by omega)
    cases hlsl
    obtain⟨qb,qc,hqat,hqc,hqls⟩:=hlsub i hi'
    have hst:=all_takeY L (fun p=>lifts b p g n) hi'
    generalize L[i]=x at hqat hqc hqls hpl hst
    have hlro3:=RO.le_trans hl2 hl3 _ _ hlro
    generalize(L.take i).all (fun p=>lifts b p g n)=ok at hst⊢
    refine X.skip C.1<|Xs C<|X.block C.1<|Xd C fun hok=>Dm C 0 hok U U U<|Dm C 1 hok U U U<|D.fix (t:=34) U (fun hgd=>?_) (fun hgd=>?_)
    ·refine D5 C 2 hok U U isAgg27 sizeOf27 (by repeat constructor) Tk5<|Dm C 3 hok U U U<|Dm C 4 hok U U U<|Dx C 5 hok U U U runUnderlying23 sizeOf28<|D2 C 6 hok U U isAgg28 hlro3 hqat<|Dm C 7 hok U U U<|Dm C 8 hok U U U<|De 9 (some 42) [false,false] hok (fun _ _ A hk=>?_)
     refine R.callR C U (A.w U U) (A.x U U) (A.s U U) (liftsOfR_c hJ (hvv.mono hL3) hb (hqls.mono (RO.le_trans hl2 hl3)) hpl hg0 (by omega)) fun v4 ro4 hl4 hq4=>hk _ _ ⟨QFs.nil, ?_⟩
     subst hq4
     refine Dp 10 hok (fun _ _ _ A h=>R.pickT C U (A.w U U) (A.x U U) (A.x U U) h)<|Da C 11 hok U U<|D.done C hok (by kernel_rfl)<|X.inBlock C.1<|X.region C U U<|Rm C U U<|Ra C U U U<|Ad C U U<|X.weaken ?_ (hnext2 (i+1,ro4) ⟨hi',RO.le_trans hl3 hl4⟩ (by simp only;omega))
     exact⟨rfl,rfl,rfl,rfl,by simp only [look];rw [hst,hgd];rfl,by simp [look],trivial⟩
    ·refine Du C 2 hok U<|Du C 3 hok U<|Du C 4 hok U<|Du C 5 hok U<|Du C 6 hok U<|Du C 7 hok U<|Du C 8 hok U<|Du C 9 hok U<|Dp 10 hok (fun _ _ _ A h=>R.pickF C U (A.w U U) (A.x U U) (A.x U U) h)<|Da C 11 hok U U<|D.done C hok (by kernel_rfl)<|X.inBlock C.1<|X.region C U U<|Rm C U U<|Ra C U U U<|Ad C U U<|X.weaken ?_ (hnext2 (i+1,ro3) ⟨hi',hl3⟩ (by simp only;omega))
     exact⟨rfl,rfl,rfl,rfl,by simp only [look];rw [hst,hgd];rfl,by simp [look],trivial⟩
   ·obtain rfl:i=L.length:=by omega
    rw [List.take_length,hall]
    refine X.exit C.1 U<|Xr C U U<|Rm C U U<|R.done C<|X.cond C.1 U (fun hyes=>?_) (fun hyes=>?_)
    ·refine Xr C U U<|Rm C U U<|R.asg C U U U<|Ad C U U<|X.ret C U U func42 U (by exact(.tmp U (.tmp U .nil)))<|Hr hret hL3 ?_
     rw [hmo n (by omega) (.inr hyes) hup];rfl
    ·refine X.skip C.1<|X.inBlock C.1<|X.region C U U<|Rm C U U<|R.int C U U U U (b_sub (by omega) (by omega))<|Ad C U U<|X.weaken ?_ (hnext (j+1,ro3) ⟨by simp only;omega,RO.le_trans hl2 hl3,fun k h2 h3=>?_⟩ (by simp only;omega))
     ·exact⟨rfl,rfl,rfl,by simp only [look];congr 2;omega,trivial⟩
     ·by_cases h4:k=n
      ·rw [h4];exact hyes
      ·exact hup k (by simp only at h2;omega) h3
  ·refine X.exit C.1 U<|Xr C U U<|R.asg C U U U<|Ad C U U<|X.ret C U U func42 U (by exact(.tmp U (.tmp U .nil)))<|Hr hret (RO.le_trans hl1 hl2) ?_
   rw [hmo 0 (by omega) (.inl rfl) (fun k h2 h3=>hup k (by omega) h3)];rfl
theorem weakRef_c{b:Bk}{v:Value}{ro:RO}(hv:BkV ro v b)(hs:b.short)(g n:Int):CallR prog J (fnv 44) [v, .int .i64 g, .int .i64 n] ro (fun w ro'=>∃vl,LsI ro' vl (weakR b g n).1∧w= .tuple [vl, .int .i64 (weakR b g n).2].toArray):=by
 have hvv:=hv
 obtain⟨pb,pc,gb,gc,cb,cc,tb,tc,rfl,hp,hg,hc,ht⟩:=hv.all
 rw [weak_known]
 have hmem:=fun p=>known_mem (b:=b) (h:=askedH b g n) (p:=p)
 have hle:=known_le (b:=b) (h:=askedH b g n)
 refine CallR.intro hJ (by kernel_rfl) fun c cs tail hret=>enter_X (n:=40) func44 U U (Nl U) ?_
 have C:Ctx prog main J (bf 44 .normal):=⟨hJ,by decide⟩
 refine Xr C U U<|R.box C U U U U fun p3=>R.asg C U U U<|Ad C U U<|Xs C<|Xd C fun hok=>D5 C 0 hok U U isAgg27 sizeOf27 (by repeat constructor) Tk5<|D5 C 1 hok U U isAgg27 sizeOf27 (by repeat constructor) Tk5<|Dm C 2 hok U U U<|Dm C 3 hok U U U<|De 4 (some 17) [false,true] hok (fun _ _ A hk=>?_)
 refine R.callP C U (A.w U U) (A.x U U) (A.s U U) (askedR_c hJ hvv hs g n) (hk _ _ ⟨(QFs.cons (QF.of U (fun _ _ A h=>R.loadAgg C U (A.w U U) (A.x U U) isAgg27 sizeOf27 (by repeat constructor) Tk5 h)) QFs.nil), ?_⟩)
 refine De 5 (some 18) [false] hok (fun _ _ A hk=>?_)
 refine R.callR C U (A.w U U) (A.x U U) (A.s U U) ((knownR_c hJ hvv hs (askedH b g n))) fun v1 ro1 hl1 hq1=>hk _ _ ⟨QFs.nil, ?_⟩
 generalize knownR b (askedH b g n)=kn at hmem hle hq1 hret
 obtain⟨L,h0⟩:=kn
 simp only at hmem hle hq1 hret
 obtain⟨vl,hL,rfl⟩:=hq1
 obtain⟨lb,lc,rfl⟩:=hL.form
 refine Dm C 6 hok U U U<|Dp 7 hok (fun _ _ _ A h=>R.ext C U (A.w U U) (A.x U U) U h)<|Dp 8 hok (fun _ _ _ A h=>R.ext C U (A.w U U) (A.x U U) U h)<|Da C 9 hok U U<|Da C 10 hok U U<|D.done C hok (by kernel_rfl)<|Xr C U U<|Ad C U U<|Xs C<|Xr C U U<|Ad C U U<|X.block C.1<|X.loopI (ι:=Nat×RO×Value×List (Nat×Obj)) C.1 (fun s=>s.1≤L.length∧ro1.le s.2.1∧Buf 3 1 [] s.2.2.1 (((L.take s.1).flatMap fun p=>gives b p g n).flatMap ic) s.2.2.2∧((L.take s.1).flatMap fun p=>gives b p g n).length≤s.1*5)
  (fun s=> [(1, .int .i64 g),(2, .int .i64 n),(3, .pointer (some ⟨p3,0,none⟩)),(8, .slice lb L.length lc),(9, .int .i64 h0),(10,s.2.2.1),(11, .int .i64 (s.1:Int))]) (fun s=>⟨s.2.1,s.2.2.2++((p3, .cells [.int .i64 b.w, .slice pb b.ps.length pc, .slice gb b.gs.length gc, .slice cb b.cs.length cc, .slice tb b.ts.length tc].toArray 27 (0,0))::tail)⟩) (fun s=>L.length-s.1) (0,ro1, .slice none 0 0, []) ⟨Nat.zero_le _,RO.le_refl _, .nil,Nat.zero_le _⟩ rfl ⟨U,U,U,U,U,U,U,trivial⟩ fun s hs' hnext=>?_
 obtain⟨j,ro2,v3,own3⟩:=s
 obtain⟨hj,hl2,hb3,hln⟩:=hs'
 simp only at hj hl2 hb3 hln hnext⊢
 have hfl3:=flat_len ((L.take j).flatMap fun p=>gives b p g n)
 obtain⟨bs3,cap3,rfl⟩:=hb3.form (by decide)
 refine Xs C<|Xr C U U<|Rm C U U<|Rm C U U<|Rn C U U runUnderlying23<|R.int C U U U U b_lss<|R.done C<|Xk C U (fun hlt=>?_) (fun hlt=>?_)
 ·have hj':j<L.length:=by omega
  obtain⟨hgood,hth,_,hpl,_⟩:=hmem _ (List.getElem_mem hj')
  have hi:=asked_zero hth
  obtain⟨ap,ao,acap,al,aty,afq,hasl,haro,hasub⟩:=hL.at (by omega)
  cases hasl
  obtain⟨qb,qc,hqat,hqc,hqls⟩:=hasub j hj'
  have hstep:(L.take (j+1)).flatMap (fun p=>gives b p g n)=(L.take j).flatMap (fun p=>gives b p g n)++gives b L[j] g n:=by rw [List.take_succ_eq_append_getElem hj',List.flatMap_append];simp
  have hg5:(gives b L[j] g n).length≤5:=by
   have h1:=gives_len b L[j] g n
   have h2:=hgood.gearLen hi.1.1 hi.1.2
   omega
  generalize L[j]=x at hqat hqc hqls hpl hstep hg5
  have haro2:=hl2 _ _ haro
  have hfg:=flat_len (gives b x g n)
  refine X.skip C.1<|Xs C<|X.block C.1<|Xd C fun hok=>Dm C 0 hok U U U<|Dl 1 hok (fun _ _ A h=>R.loadAgg C U (A.w U U) (A.x U U) isAgg27 sizeOf27 (by repeat (first|exact Mh|apply Mt|apply List.mem_append_right)) Tk5 h)<|Dm C 2 hok U U U<|Dm C 3 hok U U U<|Dx C 4 hok U U U runUnderlying23 sizeOf28<|D2 C 5 hok U U isAgg28 haro2 hqat<|Dm C 6 hok U U U<|Dm C 7 hok U U U<|De 8 (some 35) [false,false] hok (fun _ _ A hk=>?_)
  refine R.callR C U (A.w U U) (A.x U U) (A.s U U) (givesOfR_c hJ (hvv.mono (RO.le_trans hl1 hl2)) hgood (hqls.mono hl2) hpl hi.1 (by omega)) fun v4 ro4 hl4 hq4=>hk _ _ ⟨QFs.nil, ?_⟩
  refine De 9 (some 36) [] hok (fun _ _ A hk=>?_)
  obtain⟨gb4,gc4,hv4⟩:=hq4.form
  subst hv4
  refine R.append (kk:=1) C U (A.w U U) (A.x U U) (A.x U U) runUnderlying28 runUnderlying28 (fun _=>nofun) (show prog.info? 3=some Tryz.t3 by kernel_rfl) U U U (by decide) (by decide) (hb3.app _) (hq4.rd ic_len) (ones_ic _) (by omega) fun v' own' hb'=>hk _ _ ⟨QFs.nil, ?_⟩
  refine Da C 10 hok U U<|D.done C hok (by kernel_rfl)<|X.inBlock C.1<|X.region C U U<|Rm C U U<|Ra C U U U<|Ad C U U ?_
  obtain⟨own5,rfl,hb5⟩:=hb'.unapp (tail:= [])
  refine X.weaken ?_ (hnext (j+1,ro4,v',own5) ⟨hj',RO.le_trans hl2 hl4, ?_, ?_⟩ (by simp only;omega))
  ·exact⟨rfl,rfl,rfl,rfl,rfl,rfl,by simp [look],trivial⟩
  ·rw [hstep,List.flatMap_append];exact hb5
  ·rw [hstep,List.length_append];simp only;omega
 ·obtain rfl:j=L.length:=by omega
  rw [List.take_length] at hb3 hfl3 hln⊢
  refine X.exit C.1 U<|Xs C<|X.finish C.1 ic_len (by decide) (hb3.app _) fun ro5 hl5 hls5=>X.region C U U<|Rm C U U<|R.callR C U U U U (sortedR_c hJ hls5 (by omega)) fun v6 ro6 hl6 hq6=>Rm C U U<|R.asg C U U U<|Ad C U U<|X.ret C U U func44 U (by exact(.tmp U (.tmp U .nil)))<|Hr hret (RO.le_trans hl1 (RO.le_trans hl2 (RO.le_trans hl5 hl6))) ?_
  exact⟨_,hq6,rfl⟩
end
end
section
theorem fold_cstep_len:∀ (l acc:List Int),(l.foldl cstep acc).length≤acc.length+l.length
 | [],acc=>by simp
 |x::l,acc=>by
  rw [List.foldl_cons,List.length_cons]
  have h1:=fold_cstep_len l (cstep acc x)
  have h2:(cstep acc x).length≤acc.length+1:=by
   unfold cstep
   split
   ·omega
   ·rw [List.length_append];simp
  omega
theorem numbers_le(l:List Int):(numbers l).length≤l.length:=by
 have h1:=fold_cstep_len (l.mergeSort fun x y=>decide (x≤y)) []
 rw [List.length_mergeSort,List.length_nil,Nat.zero_add] at h1
 exact h1
theorem bearsR_le(b:Bk)(i:Int):(bearsR b i).1.length≤1000000:=by
 have h1:=numbers_le ((knownR b (there i b.ps.length)).1.map fun p=>nth p i)
 have h2:=known_le (b:=b) (h:=there i b.ps.length)
 rw [List.length_map] at h1
 rw [bears_known];simp only;omega
theorem weightsR_le(b:Bk)(i:Int):(weightsR b i).1.length≤1000000:=by
 rw [weightsR]
 split
 ·exact Nat.zero_le _
 ·rename_i h
  have h1:=numbers_le ((cases b).map fun t=>nth t.2 i)
  have h2:=cases_le (openH_good (Classical.not_not.1 h)).1
  rw [List.length_map] at h1
  simp only [weightsOf];omega
theorem weakR_le(b:Bk)(g n:Int):(weakR b g n).1.length≤1000000:=by
 have h1:=numbers_le ((knownR b (askedH b g n)).1.flatMap fun p=>gives b p g n)
 have h2:=known_le (b:=b) (h:=askedH b g n)
 have h3:((knownR b (askedH b g n)).1.flatMap fun p=>gives b p g n).length≤(knownR b (askedH b g n)).1.length*5:=by
  have h4:∀p∈(knownR b (askedH b g n)).1,(gives b p g n).length≤5:=fun p hp=>by
   obtain⟨hb,hz,_⟩:=known_mem hp
   have h5:=gives_len b p g n
   have h6:=hb.gearLen (asked_zero hz).1.1 (asked_zero hz).1.2
   omega
  revert h4
  induction (knownR b (askedH b g n)).1 with
  |nil=>intro _;simp
  |cons x l ih=>
   intro h4
   have h7:=ih fun p hp=>h4 p (List.mem_cons_of_mem _ hp)
   have h8:=h4 x List.mem_cons_self
   rw [List.flatMap_cons,List.length_append,List.length_cons];omega
 rw [weak_known];simp only;omega
theorem sameInts_self(l:List Int):sameInts l l=true:=by rw [sameInts_iff];simp
theorem cases_root{b:Bk}{vb:Value}{i q g n:Int}{ro:RO}(he:Env ro)(hv:BkV ro vb b):Root prog 4 [vb, .int .i64 i, .int .i64 q, .int .i64 g, .int .i64 n] ro (fun w _=>w= .bool true):=by
 intro Post hret
 have hJ:Closed prog true (JM prog (Go.Conc.Good prog Post)):=JM.closed
 have hvv:=hv
 obtain⟨pb,pc,gb,gc,cb,cc,tb,tc,rfl,hp,hg,hc,ht⟩:=hv.all
 let main:=true
 let J:=JM prog (Go.Conc.Good prog Post)
 refine enter_X (n:=157) func4 U U (Nl U) ?_
 have C:Ctx prog main J (bf 4 .normal):=⟨hJ,by decide⟩
 refine Xr C U U<|R.box C U U U U fun p5=>Ad C U U<|Xs C<|Xr C U U<|R5 C U U isAgg27 sizeOf27 (by repeat constructor) Tk5<|R.callP C U U U U (greatR_c hJ hvv)<|R.done C<|X.cond C.1 U (fun hfit=>?_) (fun hfit=>?_)
 ·refine Xr C U U<|R.callR C U U U U ((hoisted_c _ he)) fun v9 ro9 hl9 hq9=>Ad C U U<|X.ret0 C (by kernel_rfl) U U func4 U (by exact(.tmp U .nil)) fun w9 hs9=>hret _ _ _ hl9 ?_ w9 hs9
  exact hq9
 ·have hsh:=short_of hfit
  have hlb:=bearsR_le b i
  have hlw:=weightsR_le b q
  have hlk:=weakR_le b g n
  refine X.skip C.1<|Xr C U U<|R5 C U U isAgg27 sizeOf27 (by repeat constructor) Tk5<|R.callR C U U U U (casesN_c hJ he hvv hsh) fun v1 ro1 hl1 hq1=>?_
  subst hq1
  refine Rm C U U<|R.ext C U U U U<|R.ext C U U U U<|R.asg C U U U<|Ad C U U<|Xr C U U<|R5 C U U isAgg27 sizeOf27 (by repeat constructor) Tk5<|R.callR C U U U U (casesRef_c hJ (hvv.mono hl1) hsh) fun v2 ro2 hl2 hq2=>?_
  subst hq2
  refine Rm C U U<|R.ext C U U U U<|R.ext C U U U U<|R.asg C U U U<|Ad C U U<|Xr C U U<|R5 C U U isAgg27 sizeOf27 (by repeat constructor) Tk5<|Rm C U U<|R.callR C U U U U (bears_c hJ (he.mono (RO.le_trans hl1 hl2)) (hvv.mono (RO.le_trans hl1 hl2)) hsh i) fun v3 ro3 hl3 hq3=>?_
  obtain⟨w3,y3,rfl⟩:=hq3
  obtain⟨_,_,rfl⟩:=y3.form
  refine Rm C U U<|R.ext C U U U U<|R.ext C U U U U<|R.asg C U U U<|Ad C U U<|Xr C U U<|R5 C U U isAgg27 sizeOf27 (by repeat constructor) Tk5<|Rm C U U<|R.callR C U U U U (bearsRef_c hJ (hvv.mono (RO.le_trans hl1 (RO.le_trans hl2 hl3))) hsh i) fun v4 ro4 hl4 hq4=>?_
  obtain⟨w4,y4,rfl⟩:=hq4
  obtain⟨_,_,rfl⟩:=y4.form
  refine Rm C U U<|R.ext C U U U U<|R.ext C U U U U<|R.asg C U U U<|Ad C U U<|Xs C<|Xr C U U<|Rm C U U<|Rm C U U<|R.int C U U U U b_neq<|R.fixv (t:=48) (v':= .bool false) U (Bv (by simp)) ?_;refine Rm C U U<|Rm C U U<|Rm C U U<|R.callP C U U U U (sameInts_c hJ (y3.mono hl4) y4 hlb hlb)<|R.not C U U U<|R.fixv (t:=53) (v':= .bool false) U (by(rw [sameInts_self];rfl))<|R.pickF C U U U U<|Rm C U U<|Rm C U U<|Rm C U U<|R.int C U U U U b_neq<|R.fixv (t:=58) (v':= .bool false) U (Bv (by simp)) ?_;refine R.pickF C U U U U<|Rm C U U<|Rm C U U<|Rm C U U<|R.int C U U U U b_neq<|R.fixv (t:=63) (v':= .bool false) U (Bv (by simp)) ?_;refine R.pickF C U U U U<|R.done C<|X.cond C.1 U (fun h=>nomatch h) (fun _=>?_)
  refine X.skip C.1<|Xr C U U<|R5 C U U isAgg27 sizeOf27 (by repeat constructor) Tk5<|Rm C U U<|R.callR C U U U U (weights_c hJ (he.mono (RO.le_trans hl1 (RO.le_trans hl2 (RO.le_trans hl3 hl4)))) (hvv.mono (RO.le_trans hl1 (RO.le_trans hl2 (RO.le_trans hl3 hl4)))) hsh q) fun v5 ro5 hl5 hq5=>?_
  obtain⟨w5,y5,rfl⟩:=hq5
  obtain⟨_,_,rfl⟩:=y5.form
  refine Rm C U U<|R.ext C U U U U<|R.ext C U U U U<|R.asg C U U U<|Ad C U U<|Xr C U U<|R5 C U U isAgg27 sizeOf27 (by repeat constructor) Tk5<|Rm C U U<|R.callR C U U U U (weightsRef_c hJ (hvv.mono (RO.le_trans hl1 (RO.le_trans hl2 (RO.le_trans hl3 (RO.le_trans hl4 hl5))))) hsh q) fun v6 ro6 hl6 hq6=>?_
  obtain⟨w6,y6,rfl⟩:=hq6
  obtain⟨_,_,rfl⟩:=y6.form
  refine Rm C U U<|R.ext C U U U U<|R.ext C U U U U<|R.asg C U U U<|Ad C U U<|Xr C U U<|R5 C U U isAgg27 sizeOf27 (by repeat constructor) Tk5<|Rm C U U<|Rm C U U<|R.callR C U U U U (may_c hJ (he.mono (RO.le_trans hl1 (RO.le_trans hl2 (RO.le_trans hl3 (RO.le_trans hl4 (RO.le_trans hl5 hl6)))))) (hvv.mono (RO.le_trans hl1 (RO.le_trans hl2 (RO.le_trans hl3 (RO.le_trans hl4 (RO.le_trans hl5 hl6)))))) hsh g q) fun v7 ro7 hl7 hq7=>?_
  subst hq7
  refine Rm C U U<|R.ext C U U U U<|R.ext C U U U U<|R.asg C U U U<|Ad C U U<|Xr C U U<|R5 C U U isAgg27 sizeOf27 (by repeat constructor) Tk5<|Rm C U U<|Rm C U U<|R.callR C U U U U (mayRef_c hJ (hvv.mono (RO.le_trans hl1 (RO.le_trans hl2 (RO.le_trans hl3 (RO.le_trans hl4 (RO.le_trans hl5 (RO.le_trans hl6 hl7))))))) hsh g q) fun v8 ro8 hl8 hq8=>?_
  subst hq8
  refine Rm C U U<|R.ext C U U U U<|R.ext C U U U U<|R.asg C U U U<|Ad C U U<|Xs C<|Xr C U U<|Rm C U U<|Rm C U U<|R.callP C U U U U (sameInts_c hJ (y5.mono (RO.le_trans hl6 (RO.le_trans hl7 hl8))) (y6.mono (RO.le_trans hl7 hl8)) hlw hlw)<|R.not C U U U<|R.fixv (t:=94) (v':= .bool false) U (by(rw [sameInts_self];rfl))<|Rm C U U<|Rm C U U<|Rm C U U<|R.int C U U U U b_neq<|R.fixv (t:=98) (v':= .bool false) U (Bv (by simp)) ?_;refine R.pickF C U U U U<|Rm C U U<|Rm C U U<|Rm C U U<|R.int C U U U U b_neq<|R.fixv (t:=103) (v':= .bool false) U (Bv (by simp)) ?_;refine R.pickF C U U U U<|Rm C U U<|Rm C U U<|Rm C U U<|R.int C U U U U b_neq<|R.fixv (t:=108) (v':= .bool false) U (Bv (by simp)) ?_;refine R.pickF C U U U U<|R.done C<|X.cond C.1 U (fun h=>nomatch h) (fun _=>?_)
  refine X.skip C.1<|Xr C U U<|R5 C U U isAgg27 sizeOf27 (by repeat constructor) Tk5<|Rm C U U<|R.callR C U U U U (most_c hJ (he.mono (RO.le_trans hl1 (RO.le_trans hl2 (RO.le_trans hl3 (RO.le_trans hl4 (RO.le_trans hl5 (RO.le_trans hl6 (RO.le_trans hl7 hl8)))))))) (hvv.mono (RO.le_trans hl1 (RO.le_trans hl2 (RO.le_trans hl3 (RO.le_trans hl4 (RO.le_trans hl5 (RO.le_trans hl6 (RO.le_trans hl7 hl8)))))))) hsh g) fun v9 ro9 hl9 hq9=>?_
  subst hq9
  refine Rm C U U<|R.ext C U U U U<|R.ext C U U U U<|R.asg C U U U<|Ad C U U<|Xr C U U<|R5 C U U isAgg27 sizeOf27 (by repeat constructor) Tk5<|Rm C U U<|R.callR C U U U U (mostRef_c hJ (hvv.mono (RO.le_trans hl1 (RO.le_trans hl2 (RO.le_trans hl3 (RO.le_trans hl4 (RO.le_trans hl5 (RO.le_trans hl6 (RO.le_trans hl7 (RO.le_trans hl8 hl9))))))))) hsh g) fun v10 ro10 hl10 hq10=>?_
  subst hq10
  refine Rm C U U<|R.ext C U U U U<|R.ext C U U U U<|R.asg C U U U<|Ad C U U<|Xr C U U<|R5 C U U isAgg27 sizeOf27 (by repeat constructor) Tk5<|Rm C U U<|Rm C U U<|R.callR C U U U U (weak_c hJ (he.mono (RO.le_trans hl1 (RO.le_trans hl2 (RO.le_trans hl3 (RO.le_trans hl4 (RO.le_trans hl5 (RO.le_trans hl6 (RO.le_trans hl7 (RO.le_trans hl8 (RO.le_trans hl9 hl10)))))))))) (hvv.mono (RO.le_trans hl1 (RO.le_trans hl2 (RO.le_trans hl3 (RO.le_trans hl4 (RO.le_trans hl5 (RO.le_trans hl6 (RO.le_trans hl7 (RO.le_trans hl8 (RO.le_trans hl9 hl10)))))))))) hsh g n) fun v11 ro11 hl11 hq11=>?_
  obtain⟨w11,y11,rfl⟩:=hq11
  obtain⟨_,_,rfl⟩:=y11.form
  refine Rm C U U<|R.ext C U U U U<|R.ext C U U U U<|R.asg C U U U<|Ad C U U<|Xr C U U<|R5 C U U isAgg27 sizeOf27 (by repeat constructor) Tk5<|Rm C U U<|Rm C U U<|R.callR C U U U U (weakRef_c hJ (hvv.mono (RO.le_trans hl1 (RO.le_trans hl2 (RO.le_trans hl3 (RO.le_trans hl4 (RO.le_trans hl5 (RO.le_trans hl6 (RO.le_trans hl7 (RO.le_trans hl8 (RO.le_trans hl9 (RO.le_trans hl10 hl11))))))))))) hsh g n) fun v12 ro12 hl12 hq12=>?_
  obtain⟨w12,y12,rfl⟩:=hq12
  obtain⟨_,_,rfl⟩:=y12.form
  refine Rm C U U<|R.ext C U U U U<|R.ext C U U U U<|R.asg C U U U<|Ad C U U<|Xr C U U<|Rm C U U<|Rm C U U<|R.int C U U U U b_eql<|R.fixv (t:=138) (v':= .bool true) U (Bv (by simp)) ?_;refine Rm C U U<|Rm C U U<|Rm C U U<|R.callP C U U U U (sameInts_c hJ (y11.mono hl12) y12 hlk hlk) ?_
  rw [sameInts_self]
  refine R.pickT C U U U U<|R.fixv (t:=143) (v':= .bool true) U (by rfl)<|Rm C U U<|Rm C U U<|Rm C U U<|R.int C U U U U b_eql<|R.fixv (t:=147) (v':= .bool true) U (Bv (by simp)) ?_;refine R.pickT C U U U U<|Rm C U U<|Rm C U U<|Rm C U U<|R.int C U U U U b_eql<|R.fixv (t:=152) (v':= .bool true) U (Bv (by simp)) ?_;refine R.pickT C U U U U<|Rm C U U<|R.callR C U U U U ((hoisted_c _ (he.mono (RO.le_trans hl1 (RO.le_trans hl2 (RO.le_trans hl3 (RO.le_trans hl4 (RO.le_trans hl5 (RO.le_trans hl6 (RO.le_trans hl7 (RO.le_trans hl8 (RO.le_trans hl9 (RO.le_trans hl10 (RO.le_trans hl11 hl12)))))))))))))) fun v13 ro13 hl13 hq13=>R.pickT C U U U U<|Ad C U U<|X.ret0 C (by kernel_rfl) U U func4 U (by exact(.tmp U .nil)) fun w9 hs9=>hret _ _ _ (RO.le_trans hl1 (RO.le_trans hl2 (RO.le_trans hl3 (RO.le_trans hl4 (RO.le_trans hl5 (RO.le_trans hl6 (RO.le_trans hl7 (RO.le_trans hl8 (RO.le_trans hl9 (RO.le_trans hl10 (RO.le_trans hl11 (RO.le_trans hl12 hl13)))))))))))) ?_ w9 hs9
  exact hq13
end
end Go.Lg.B
namespace Go.Lg.B
open Go Go.Proofs Go.Proofs.YtchjgmkeemdhlaaGreatDoor Go.Proofs.Tryz
theorem cases_k1:(Rows.tackleCasesRow.inPlace==prog.inPlace 4)=true:=by kernel_rfl
theorem cases_k2:(Rows.tackleCasesRow.unfollowed==prog.unfollowed 4)=true:=by kernel_rfl
theorem cases_k3:(Rows.tackleCasesRow.recurses==prog.recurses 4)=true:=by kernel_rfl
theorem cases_k4:(Rows.tackleCasesRow.named==prog.varsNamed 4)=true:=by kernel_rfl
theorem cases_name:prog.funcNamed "lagan/laganlaw07.TackleCases" =some 4:=by kernel_rfl
theorem cases_goes:true=Rows.tackleCasesRow.goesBy prog:=by kernel_rfl
theorem cases_wf:Rows.tackleCasesRow.wfByText (OpenSpec.ofChange Rows.tackleCasesSpec)=true:=by kernel_rfl
theorem cases_facts:joinedFacts prog 4 Tryz.f4 Rows.tackleCasesSpec Rows.tackleCasesRow=true:=by
 unfold joinedFacts
 exact(and_mk (and_mk (and_mk (and_mk (and_mk (and_mk (and_mk (and_mk (and_mk (and_mk (and_mk (and_mk (and_mk (and_mk (and_mk (and_mk (and_mk (and_mk (and_mk (and_mk (and_mk (and_mk (and_mk (and_mk (and_mk (and_mk (and_mk (and_mk (and_mk (and_mk (and_mk (by as_aux_lemma=>kernel_rfl)
  k_lo)
  k_mr)
  (by as_aux_lemma=>kernel_rfl))
  (by as_aux_lemma=>kernel_rfl))
  (by as_aux_lemma=>kernel_rfl))
  k_stops)
  (by as_aux_lemma=>kernel_rfl))
  k_knobs)
  cases_k1)
  cases_k2)
  cases_k3)
  cases_k4)
  (by as_aux_lemma=>kernel_rfl))
  (by as_aux_lemma=>kernel_rfl))
  (by as_aux_lemma=>kernel_rfl))
  (by as_aux_lemma=>kernel_rfl))
  (by as_aux_lemma=>kernel_rfl))
  (by as_aux_lemma=>kernel_rfl))
  (by as_aux_lemma=>kernel_rfl))
  (by as_aux_lemma=>kernel_rfl))
  (by as_aux_lemma=>kernel_rfl))
  (beq_iff_eq.2 k_pk.symm))
  (by as_aux_lemma=>kernel_rfl))
  k_heard)
  k_may)
  (beq_iff_eq.2 k_lift.symm))
  (beq_iff_eq.2 k_make))
  (by as_aux_lemma=>kernel_rfl))
  (by as_aux_lemma=>kernel_rfl))
  (by as_aux_lemma=>kernel_rfl))
  (by as_aux_lemma=>kernel_rfl))
end Go.Lg.B
namespace Go.Proofs.YtchjgmkeemdhlaaGreatDoor
open Go Go.Conc Go.Lg Go.Lg.B Go.ChangeShapes Go.RowKit Go.WideShapes
theorem cases_lifted(os:Os)(started:os.Started)(H:Type)(enc:TypeId×Value→H):
  ReturnsInLeavingWide {} Tryz.checked os 4 .any (fun w args=>(Rows.tackleCasesSpec.pre enc Tryz.prog Tryz.f4 [] false w args∧laidMetH Tryz.prog laid1 w)∧sizedMet enc Tryz.prog Tryz.f4 (OpenSpec.ofChange Rows.tackleCasesSpec) false w args)
   (Rows.tackleCasesSpec.post enc Tryz.prog Tryz.f4 false true false false):=by
 refine leaving_of_root (C:=Tryz.checked) (tb:=4) (X:=fun w _=>laidMetH Tryz.prog laid1 w) (fun _ _ _ hh h=>h.of_heap hh) own0 started Tryz.func4 laid0 (by
   intro t ht
   rw [Tryz.params4] at ht
   have hm:t∈ [27,3,3,3,3]:=ht
   have hall:([27,3,3,3,3].all fun u=>Tryz.prog.readableRec u && decide (u<Tryz.prog.types.size))=true:=by kernel_rfl
   have:=List.all_eq_true.1 hall t hm
   rw [Bool.and_eq_true,decide_eq_true_eq] at this
   exact this) rfl (by kernel_rfl) Tryz.underlying4
  (ChangeSpec.witness_shaped (enc:=enc) (C:=Tryz.checked) (os:=os) (X:=fun w _=>laidMetH Tryz.prog laid1 w) false (World.doorLaid Tryz.prog 89 os) #[.agg #[.int .i64 0, .slice none 0 0, .slice none 0 0, .slice none 0 0, .slice none 0 0], .int .i64 0, .int .i64 0, .int .i64 0, .int .i64 0] 8 rfl (door_shaped os _) (by kernel_rfl) (by kernel_rfl) (by kernel_rfl) (door_met os _)) ?_
 intro W base args ds gs before hval hW _ _ hL
 obtain⟨p,q,hA,hV,rfl,_,_⟩:=hW
 obtain⟨rfl,rfl⟩:=trodVars_none hV
 have hA:DataW.TrodAll enc Tryz.prog W 0 (fun _=>true) true Tryz.f4.params.toList args.toList ds p:=hA
 have hval:∀ (j:Nat) t v,Tryz.f4.params[j]? =some t→args[j]? =some v→Value.okWide Tryz.prog W .any base t v:=hval
 rw [Tryz.params4] at hA hval
 obtain⟨v1,l1,d1,k1,p1,q1,e1,rfl,rfl,h1,hA⟩:=trodAll_cons hA
 obtain⟨v2,l2,d2,k2,p2,q2,rfl,rfl,rfl,h2,hA⟩:=trodAll_cons hA
 obtain⟨v3,l3,d3,k3,p3,q3,rfl,rfl,rfl,h3,hA⟩:=trodAll_cons hA
 obtain⟨v4,l4,d4,k4,p4,q4,rfl,rfl,rfl,h4,hA⟩:=trodAll_cons hA
 obtain⟨v5,l5,d5,k5,p5,q5,rfl,rfl,rfl,h5,hA⟩:=trodAll_cons hA
 obtain⟨rfl,rfl,rfl⟩:=trodAll_nil hA
 have ea:args= #[v1,v2,v3,v4,v5]:=Array.toList_inj.1 e1
 subst ea
 obtain⟨b,b1⟩:=argBk (hval 0 27 v1 rfl rfl) h1
 obtain⟨a1,rfl,_⟩:=argInt (hval 1 3 v2 rfl rfl) h2
 obtain⟨a2,rfl,_⟩:=argInt (hval 2 3 v3 rfl rfl) h3
 obtain⟨a3,rfl,_⟩:=argInt (hval 3 3 v4 rfl rfl) h4
 obtain⟨a4,rfl,_⟩:=argInt (hval 4 3 v5 rfl rfl) h5
 exact⟨rfl,cases_root (env_of_laid hL) b1⟩
theorem cases_row:Rows.TackleCasesSaid:=
 OpenClaim.holds_of_wide_leaving 4 Tryz.f4 rfl rfl rfl rfl rfl rfl rfl ⟨rfl,rfl,rfl,rfl,rfl⟩ rfl rfl rfl rfl rfl cases_name Tryz.func4 cases_facts
  (of_decide_eq_true (by kernel_rfl)) (by unfold Func.isWrapper;first|(rw [if_pos (by decide+kernel)];kernel_rfl)|(rw [if_neg (by decide+kernel)];exact⟨rfl,rfl⟩))
  (fun os started H enc _=>cases_lifted os started H enc)
theorem cases_holds:Rows.TackleCasesCardSaid:=
 card_goes .later [.funcs] true (true, "6ec45924a9ef3528b91853e2f3d4ce9a8ac3f7423f5bdc8d9ecf7c969235976f") true
  cases_row cases_wf tackleCases_row_tie rfl ⟨rfl,rfl⟩ k_main rfl
  (fun f fn hf hfn=>by
   obtain rfl:f=4:=Option.some.inj (cases_name.symm.trans hf)|>.symm
   obtain rfl:fn=Tryz.f4:=(Option.some.inj (Tryz.func4.symm.trans hfn)).symm
   exact⟨k_looks,fun j t ht=>by
    rw [Tryz.params4] at ht
    have hm:t∈ [27,3,3,3,3]:=by simpa using Array.mem_of_getElem? ht
    have hall:([27,3,3,3,3].all fun u=> !Tryz.prog.wantsStandIn u)=true:=by kernel_rfl
    exact(show Tryz.prog.wantsStandIn t=false by simpa using List.all_eq_true.1 hall t hm)⟩)
  cases_goes
end Go.Proofs.YtchjgmkeemdhlaaGreatDoor
