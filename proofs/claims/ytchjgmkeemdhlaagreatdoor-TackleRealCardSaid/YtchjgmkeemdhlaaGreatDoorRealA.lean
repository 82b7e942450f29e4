/-
  It is proved that the given function answers true for every input, whatever is scheduled: the statement Real of the seat. Conditions: none but those of the given statement itself.
-/
import Derived.Test.YtchjgmkeemdhlaaGreatDoorKE
import Derived.Conc.Holds
set_option maxRecDepth 100000
set_option maxHeartbeats 2000000
set_option linter.all false
set_option linter.unusedVariables false
set_option linter.unusedSimpArgs false
set_option linter.unusedSectionVars false
namespace Go.Lg
open Go
theorem Bv{a c:Bool}(h:a=c):Value.bool a=Value.bool c:=congrArg _ h
end Go.Lg
namespace Go.Lg.B
open Go Go.Conc Go.Lg
theorem pulls_bd{b:Bk}(hb:b.good){g l:Int}(h0:0≤g)(h1:g<b.gs.length)(hl:0≤l):∀y∈pulls b g l,0≤y∧y≤l:=fun y hy=>by
 simp only [pulls,List.mem_cons] at hy
 rcases hy with rfl|hy
 ·omega
 ·exact pullsGo_bd hb (hb.gear h0 h1).2.1 hl y hy
theorem bearsL_bd{b:Bk}(hb:b.good){p:List Int}(hp:p∈bearsL b):∀x∈p,0≤x∧x≤99:=fun x hx=>by
 obtain⟨h1,h2⟩:=mem_spread.1 (mem_of_filter hp)
 obtain⟨i,hi⟩:=List.getElem?_of_mem hx
 have hil:i<b.ps.length:=by
  have:=(List.getElem?_eq_some_iff.1 hi).1
  have:p.length=(b.ps.map Pt.r).length:=h1
  simp at this;omega
 obtain⟨y,hy,h3⟩:=h2 i (b.ps[i]).r (by simp [hil])
 rw [hi] at hy;cases hy
 have:=hb.ps _ (List.getElem_mem hil)
 simp only [Pt.fine] at this;omega
end Go.Lg.B
namespace Go.Lg
open Go Go.Conc
theorem X.afterI{J:Goroutine→Mem→Prop}{b:Frame}{cs:List Frame}{n:Nat}{ds:List Deferred}{σ:Slots}{M:Mem}{k:List Item}{it:Item}{ι:Type}(Ex:ι→Prop)(σe:ι→Slots)(Me:ι→Mem)(hk:∀s,Ex s→X J b cs n k ds (σe s) (Me s))
  (h:(∀s,Ex s→X J b cs n k ds (σe s) (Me s))→X J b cs n (it::k) ds σ M):X J b cs n (it::k) ds σ M:=h hk
section
variable {P:Program}{main:Bool}{J:Goroutine→Mem→Prop}{b:Frame}(C:Ctx P main J b){cs:List Frame}{n:Nat}{ds:List Deferred}{σ:Slots}{ro:RO}{own:List (Nat×Obj)}{k:List Item}{ops:Array Oper}{i:Nat}{rest:List Nat}
variable {d:Nat}{ty:TypeId}{pos:String}{af:Array Edge}{g:Option (Nat×Bool)}
end
section
variable {P:Program}{main:Bool}{J:Goroutine→Mem→Prop}{b:Frame}(C:Ctx P main J b){cs:List Frame}{n:Nat}{ds:List Deferred}{σ:Slots}{k:List Item}{ops:Array Oper}{i:Nat}{rest:List Nat}
 {d:Nat} {ty:TypeId} {pos:String} {af:Array Edge} {g:Option (Nat×Bool)}
include C
end
end Go.Lg
namespace Go.Lg.B
open Go Go.Conc Go.Lg Go.Proofs Go.Proofs.Tryz
theorem cmpI_flip(x y:Int):cmpI y x= -cmpI x y:=by unfold cmpI;split<;>split<;>(try split)<;>omega
theorem cmpL_flip:∀a c:List Int,cmpL c a= -cmpL a c
 | [], []=>rfl
 | [],_::_=>rfl
 |_::_, []=>rfl
 |x::xs,y::ys=>by
  have h:=cmpI_flip x y
  have ih:=cmpL_flip xs ys
  simp only [cmpL]
  split<;>split<;>omega
theorem cmpL_zero:∀ {a c:List Int},cmpL a c=0→a=c
 | [], [],_=>rfl
 | [],_::_,h=>by simp [cmpL] at h
 |_::_, [],h=>by simp [cmpL] at h
 |x::xs,y::ys,h=>by
  simp only [cmpL] at h
  split at h
  ·contradiction
  ·rename_i hx
   simp only [ne_eq,Decidable.not_not] at hx
   rw [cmpI_zero.1 hx,cmpL_zero h]
theorem cmpL_refl:∀a:List Int,cmpL a a=0
 | []=>rfl
 |x::xs=>by
  have:cmpI x x=0:=cmpI_zero.2 rfl
  simp [cmpL,this,cmpL_refl xs]
theorem behind_mono{n m s:Int}(h:n≤m)(hs:0≤s∧s≤4):behind n s≤behind m s:=by
 have:s=0∨s=1∨s=2∨s=3∨s=4:=by omega
 unfold behind
 rcases this with rfl|rfl|rfl|rfl|rfl<;>omega
inductive LeL:List Int→List Int→Prop
 |nil:LeL [] []
 |cons {x y:Int} {a c:List Int}:x≤y→LeL a c→LeL (x::a) (y::c)
theorem LeL.getD{a c:List Int}(h:LeL a c):∀i,a.getD i 0≤c.getD i 0:=by
 induction h with
 |nil=>intro i;simp
 |cons h _ ih=>
  intro i
  cases i with
  |zero=>simpa using h
  |succ i=>simpa using ih i
theorem pullsGo_mono{b:Bk}(hb:b.good):∀ {g:List Int} {n m:Int},(∀x∈g,0≤x∧x<b.ps.length)→n≤m→LeL (pullsGo b n g) (pullsGo b m g)
 | [],_,_,_,_=> .nil
 |x::g,n,m,h,hn=>by
  have hx:=h x (by simp)
  have:=behind_mono hn (hb.sheaves hx.1 hx.2)
  exact .cons this (pullsGo_mono hb (fun z hz=>h z (by simp [hz])) this)
theorem pulls_mono{b:Bk}(hb:b.good){g n m:Int}(h0:0≤g)(h1:g<b.gs.length)(hn:n≤m):LeL (pulls b g n) (pulls b g m):= .cons hn (pullsGo_mono hb (hb.gear h0 h1).2.1 hn)
theorem gives_mem{b:Bk}{p:List Int}{g n x:Int}:x∈gives b p g n↔(∃i:Nat,i<(b.gear g).length∧nth p ((b.gear g).getD i 0)<(pulls b g n).getD i 0∧x=i)∨(b.w<(pulls b g n).getD (b.gear g).length 0∧x=(b.gear g).length):=by
 unfold gives
 rw [List.mem_append,List.mem_map]
 constructor
 ·rintro(⟨i,hi,rfl⟩|h)
  ·obtain⟨h1,h2⟩:=List.mem_filter.1 hi
   exact .inl ⟨i,List.mem_range.1 h1,by simpa [givesP] using h2,rfl⟩
  ·split at h
   ·rename_i h2;exact .inr ⟨h2,by simpa using h⟩
   ·cases h
 ·rintro(⟨i,h1,h2,rfl⟩|⟨h1,rfl⟩)
  ·exact .inl ⟨i,List.mem_filter.2 ⟨List.mem_range.2 h1,by simpa [givesP] using h2⟩,rfl⟩
  ·exact .inr (by rw [if_pos h1];simp)
theorem gives_sub{b:Bk}(hb:b.good){p:List Int}{g n m x:Int}(h0:0≤g)(h1:g<b.gs.length)(hn:n≤m)(h:x∈gives b p g n):x∈gives b p g m:=by
 have hm:=(pulls_mono hb h0 h1 hn).getD
 rw [gives_mem] at h⊢
 rcases h with⟨i,h2,h3,h4⟩|⟨h3,h4⟩
 ·exact .inl ⟨i,h2,by have:=hm i;omega,h4⟩
 ·exact .inr ⟨by have:=hm (b.gear g).length;omega,h4⟩
theorem gives_bd{b:Bk}{p:List Int}{g n x:Int}(h:x∈gives b p g n):0≤x∧x≤(b.gear g).length:=by
 rw [gives_mem] at h
 rcases h with⟨i,h2,_,rfl⟩|⟨_,rfl⟩<;>omega
theorem lifts_iff{b:Bk}{p:List Int}{g n:Int}(hn:n≠0):lifts b p g n=true↔gives b p g n= []:=by
 simp [lifts,hn]
theorem lifts_mono{b:Bk}(hb:b.good){p:List Int}{g n m:Int}(h0:0≤g)(h1:g<b.gs.length)(h00:0≤n)(hn:n≤m)(h:lifts b p g m=true):lifts b p g n=true:=by
 by_cases e:n=0
 ·subst e;rfl
 ·rw [lifts_iff (by omega)] at h
  rw [lifts_iff e,List.eq_nil_iff_forall_not_mem]
  intro x hx
  have:=gives_sub hb h0 h1 hn hx
  rw [h] at this;cases this
theorem numbers_mem{l:List Int}{x:Int}:x∈numbers l↔x∈l:=by
 have hs:(l.mergeSort fun x y=>decide (x≤y)).Pairwise (· ≤ ·):=by
  have:=List.pairwise_mergeSort (le:=fun x y:Int=>decide (x≤y)) (by intro a b c;simp;omega) (by intro a b;simp;omega) l
  exact this.imp (by intro a b;simp)
 have hf:=fold_asc _ [] .nil hs (by simp)
 show x∈List.foldl cstep [] _↔_
 rw [hf.2]
 simp [(List.mergeSort_perm l _).mem_iff]
theorem numbers_asc(l:List Int):(numbers l).Pairwise (· < ·):=by
 have hs:(l.mergeSort fun x y=>decide (x≤y)).Pairwise (· ≤ ·):=by
  have:=List.pairwise_mergeSort (le:=fun x y:Int=>decide (x≤y)) (by intro a b c;simp;omega) (by intro a b;simp;omega) l
  exact this.imp (by intro a b;simp)
 exact(fold_asc _ [] .nil hs (by simp)).1
theorem climbs_asc{n:Int}:∀ {l:List Int} {q:Option Int},l.Pairwise (· < ·)→(∀x∈l,0≤x∧x<n)→(∀y,q=some y→∀x∈l,y<x)→climbsH n q l=0
 | [],_,_,_,_=>rfl
 |x::l,q,hp,hb,hq=>by
  rw [List.pairwise_cons] at hp
  have hx:=hb x (by simp)
  rw [climbsH,if_neg (by have:=between_iff.2 (show 0≤x∧x≤n-1 by omega);simp [this]),if_neg,climbs_asc hp.2 (fun y hy=>hb y (by simp [hy])) (fun y hy z hz=>by cases hy;exact hp.1 z hz)]
  cases q with
  |none=>simp
  |some y=>have:=hq y rfl x (by simp);simp;omega
def allLift(b:Bk)(g n:Int):Bool:=(cases b).all fun t=>lifts b t.1 g n
theorem allLift_mono{b:Bk}(hb:b.good){g n m:Int}(h0:0≤g)(h1:g<b.gs.length)(h00:0≤n)(hn:n≤m)(h:allLift b g m=true):allLift b g n=true:=by
 unfold allLift at h⊢
 rw [List.all_eq_true] at h⊢
 exact fun t ht=>lifts_mono hb h0 h1 h00 hn (h t ht)
theorem allLift_zero(b:Bk)(g:Int):allLift b g 0=true:=by
 unfold allLift;rw [List.all_eq_true];exact fun _ _=>rfl
theorem mostGo_law{b:Bk}(hb:b.good){g:Int}(h0:0≤g)(h1:g<b.gs.length):∀ (m:Nat) (n mo:Int),0≤n→(∀k,0≤k→k<n→allLift b g k=true)→mo<n→(0<n→mo=n-1)→
  (mostGo b g n m mo=mo∨(n≤mostGo b g n m mo∧mostGo b g n m mo<n+m))∧∀k,n≤k→k<n+m→(allLift b g k=true↔k≤mostGo b g n m mo)
 |0,n,mo,_,_,_,_=>⟨.inl rfl,fun k h1 h2=>by omega⟩
 |m+1,n,mo,hn,hl,hmo,hmo2=>by
  have e:mostGo b g n (m+1) mo=if allLift b g n=true then mostGo b g (n+1) m n else mo:=rfl
  rw [e]
  by_cases hA:allLift b g n=true
  ·rw [if_pos hA]
   obtain⟨h3,h4⟩:=mostGo_law hb h0 h1 m (n+1) n (by omega) (fun k hk hk2=>by
    by_cases e2:k=n
    ·rw [e2];exact hA
    ·exact hl k hk (by omega)) (by omega) (fun _=>by omega)
   refine⟨.inr ?_,fun k hk hk2=>?_⟩
   ·rcases h3 with h3|h3<;>omega
   ·by_cases e2:k=n
    ·subst e2
     refine⟨fun _=>?_,fun _=>hA⟩
     rcases h3 with h3|h3<;>omega
    ·exact h4 k (by omega) (by omega)
  ·rw [if_neg hA]
   refine⟨.inl rfl,fun k hk _=>⟨fun h=>?_,fun h=>by omega⟩⟩
   exact absurd (allLift_mono hb h0 h1 hn hk h) hA
theorem most_law{b:Bk}(hb:b.good){g:Int}(h0:0≤g)(h1:g<b.gs.length):0≤most b g∧most b g≤99∧∀k,0≤k→k≤99→(allLift b g k=true↔k≤most b g):=by
 have e:most b g=if allLift b g 0=true then mostGo b g 1 99 0 else 0:=rfl
 rw [e,if_pos (allLift_zero b g)]
 obtain⟨h3,h4⟩:=mostGo_law hb h0 h1 99 1 0 (by omega) (fun k hk hk2=>(show 0=k by omega)▸allLift_zero b g) (by omega) (fun _=>by omega)
 refine⟨by rcases h3 with h3|h3<;>omega,by rcases h3 with h3|h3<;>omega,fun k hk hk2=>?_⟩
 by_cases e2:k=0
 ·subst e2
  exact⟨fun _=>by rcases h3 with h3|h3<;>omega,fun _=>allLift_zero b g⟩
 ·exact h4 k (by omega) (by omega)
theorem weak_mem{b:Bk}{g n x:Int}:x∈weak b g n↔ ∃t∈cases b,x∈gives b t.1 g n:=by
 rw [weak,numbers_mem,List.mem_flatMap]
theorem weak_nil{b:Bk}{g n:Int}(hn:n≠0):weak b g n= []↔allLift b g n=true:=by
 rw [List.eq_nil_iff_forall_not_mem]
 simp only [weak_mem,allLift,List.all_eq_true,lifts_iff hn,List.eq_nil_iff_forall_not_mem]
 exact⟨fun h t ht x hx=>h x ⟨t,ht,hx⟩,fun h x ⟨t,ht,hx⟩=>h t ht x hx⟩
theorem weak_bd{b:Bk}{g n:Int}:∀x∈weak b g n,0≤x∧x≤(b.gear g).length:=fun x hx=>by
 obtain⟨t,_,h⟩:=weak_mem.1 hx
 exact gives_bd h
theorem weights_hi{b:Bk}(hb:b.good){k:Int}(h0:0≤k)(h1:k<b.cs.length){x:Int}(hx:(b.piece k).r.lo≤x∧x≤(b.piece k).r.hi):∃w∈weightsL b,nth w k=x:=by
 have hk:k.toNat<b.cs.length:=by omega
 have hpk:b.piece k=b.cs[k.toNat]:=by simp [Bk.piece,List.getD_eq_getElem?_getD,hk]
 refine⟨(b.cs.map fun c=>c.r.lo).set k.toNat x,mem_spread.2 ⟨by simp,fun i r hr=>?_⟩, ?_⟩
 ·rw [List.getElem?_map] at hr
  obtain⟨c,hc,rfl⟩:=Option.map_eq_some_iff.1 hr
  have hi:i<b.cs.length:=(List.getElem?_eq_some_iff.1 hc).1
  have hf:=hb.cs c (List.mem_of_getElem? hc)
  rw [List.getElem?_set]
  by_cases e:k.toNat=i
  ·subst e
   rw [if_pos rfl,if_pos (by simpa using hi)]
   have:c=b.piece k:=by rw [hpk];rw [List.getElem?_eq_getElem hi] at hc;exact(Option.some.inj hc).symm
   exact⟨x,rfl,by simpa [this] using hx⟩
  ·rw [if_neg e,List.getElem?_map,hc]
   exact⟨_,rfl,Int.le_refl _,hf.2.1⟩
 ·simp [nth,List.getD_eq_getElem?_getD,List.getElem?_set,hk]
theorem weights_in{b:Bk}{k:Int}(h0:0≤k)(h1:k<b.cs.length){w:List Int}(hw:w∈weightsL b):(b.piece k).r.lo≤nth w k∧nth w k≤(b.piece k).r.hi:=by
 have hk:k.toNat<b.cs.length:=by omega
 have hpk:b.piece k=b.cs[k.toNat]:=by simp [Bk.piece,List.getD_eq_getElem?_getD,hk]
 obtain⟨_,h⟩:=mem_spread.1 hw
 obtain⟨x,hx,h3⟩:=h k.toNat (b.cs[k.toNat]).r (by simp [hk])
 rw [hpk]
 simpa [nth,List.getD_eq_getElem?_getD,hx] using h3
theorem how_one{n all:Nat}(h:0<all):how n all=1↔n=all:=by
 unfold how
 split
 ·constructor
  ·intro h2;cases h2
  ·intro h2;omega
 ·split
  ·simp_all
  ·constructor
   ·intro h2;cases h2
   ·intro h2;contradiction
theorem filter_all{α:Type}{p:α→Bool}{l:List α}:(l.filter p).length=l.length↔l.all p=true:=by
 rw [List.length_filter_eq_length_iff,List.all_eq_true]
theorem open_zero{b:Bk}(h:checkBook b=0)(hL:cases b≠ []):openH b 0=0:=by rw [openH_zero,if_neg (fun e=>e h),if_neg hL]
theorem mostH_eq{b:Bk}{g:Int}(h:there g b.gs.length=0):mostH b g=openH b 0:=by simp [mostH,firstH,h]
theorem weakH_eq{b:Bk}{g l:Int}(h:there g b.gs.length=0)(h2:loadH l=0):weakH b g l=openH b 0:=by simp [weakH,firstH,h,h2]
theorem mayH_eq{b:Bk}{g k:Int}(h:there g b.gs.length=0)(h2:there k b.cs.length=0):mayH b g k=openH b 0:=by simp [mayH,firstH,h,h2]
theorem loadOf_bd{x:Int}:1≤loadOf x∧loadOf x≤99:=by unfold loadOf;omega
theorem weak_len{b:Bk}(hb:b.good){g n:Int}(h0:0≤g)(h1:g<b.gs.length):(weak b g n).length≤5:=by
 have hl:=hb.gearLen h0 h1
 exact nodup_len (m:=5) ((numbers_asc _).imp fun h=>by omega) fun x hx=>by have:=weak_bd x hx;omega
theorem lenB{n:Nat}{p:Prop} [Decidable p] (h:n=0↔p):((n:Int)==0)=decide p:=by
 rw [Bool.eq_iff_iff,beq_iff_eq,decide_eq_true_eq, ←h];omega
end Go.Lg.B
namespace Go.Lg
open Go Go.Conc
theorem R.finish{P:Program}{main:Bool}{J:Goroutine→Mem→Prop}{b:Frame}{cs:List Frame}{n:Nat}{ds:List Deferred}{σ:Slots}{ro:RO}{own:List (Nat×Obj)}{k:List Item}{ops:Array Oper}{l:List Nat}{α:Type}{enc:α→List Value}{e:TypeId}{kk:Nat}{v:Value}{xs:List α}{tail:List (Nat×Obj)}(hJ:Closed P main J)(hk:∀x,(enc x).length=kk)(hkp:0<kk)(hb:Buf e kk tail v (xs.flatMap enc) own)
  (h:∀ro':RO,ro.le ro'→Ls enc kk ro' v xs→R J b cs n ops l k ds σ ⟨ro',tail⟩):R J b cs n ops l k ds σ ⟨ro,own⟩:=fun hok=>X.finish hJ hk hkp hb fun ro' hl hls=>h ro' hl hls hok
end Go.Lg
namespace Go.Lg.B
open Go Go.Conc Go.Lg Go.Proofs Go.Proofs.Tryz
section
variable {main:Bool}{J:Goroutine→Mem→Prop}(hJ:Closed prog main J)
include hJ
end
end Go.Lg.B
namespace Go.Lg.B
open Go Go.Conc Go.Lg Go.Proofs Go.Proofs.Tryz
def liftsOne(b:Bk)(l:List Int)(p:Nat):Bool:=l.any fun g=>may b g p==1
def liftedL(b:Bk)(l:List Int):Bool:=(List.range b.cs.length).all (liftsOne b l)
theorem bitsFrom_mem(mask:Nat)(x:Int):∀ (m i:Nat),x∈bitsFrom mask i m↔ ∃j:Nat,i≤j∧j<i+m∧mask.testBit j=true∧x=j
 |0,i=>by
  simp only [bitsFrom,List.not_mem_nil,false_iff]
  rintro⟨j,h1,h2,_⟩;omega
 |m+1,i=>by
  have ih:=bitsFrom_mem mask x m (i+1)
  rw [bitsFrom]
  split
  ·rename_i h
   rw [List.mem_cons,ih]
   constructor
   ·rintro(rfl|⟨j,h1,h2,h3,h4⟩)
    ·exact⟨i,by omega,by omega,h,rfl⟩
    ·exact⟨j,by omega,by omega,h3,h4⟩
   ·rintro⟨j,h1,h2,h3,h4⟩
    by_cases e:j=i
    ·subst e;exact .inl h4
    ·exact .inr ⟨j,by omega,by omega,h3,h4⟩
  ·rename_i h
   rw [ih]
   constructor
   ·rintro⟨j,h1,h2,h3,h4⟩;exact⟨j,by omega,by omega,h3,h4⟩
   ·rintro⟨j,h1,h2,h3,h4⟩
    by_cases e:j=i
    ·subst e;exact absurd h3 h
    ·exact⟨j,by omega,by omega,h3,h4⟩
theorem bitsFrom_asc(mask:Nat):∀ (m i:Nat),(bitsFrom mask i m).Pairwise (· < ·)
 |0,_=> .nil
 |m+1,i=>by
  rw [bitsFrom]
  split
  ·refine List.pairwise_cons.2 ⟨fun x hx=>?_,bitsFrom_asc mask m (i+1)⟩
   obtain⟨j,h1,_,_,rfl⟩:=(bitsFrom_mem mask x m (i+1)).1 hx
   omega
  ·exact bitsFrom_asc mask m (i+1)
theorem listOf_mem{n mask:Nat}{x:Int}:x∈listOf n mask↔ ∃j:Nat,j<n∧mask.testBit j=true∧x=j:=by
 rw [listOf,bitsFrom_mem]
 constructor
 ·rintro⟨j,_,h2,h3,h4⟩;exact⟨j,by omega,h3,h4⟩
 ·rintro⟨j,h2,h3,h4⟩;exact⟨j,by omega,by omega,h3,h4⟩
theorem listOf_asc(n mask:Nat):(listOf n mask).Pairwise (· < ·):=bitsFrom_asc mask n 0
def maskL:List Int→Nat
 | []=>0
 |k::l=>2^k.toNat|||maskL l
theorem maskL_bit(i:Nat):∀ {l:List Int},(∀k∈l,0≤k)→((maskL l).testBit i=true↔(i:Int)∈l)
 | [],_=>by simp [maskL]
 |k::l,h=>by
  have hk:=h k (by simp)
  rw [maskL,Nat.testBit_or,Bool.or_eq_true,maskL_bit i (fun x hx=>h x (by simp [hx])),Nat.testBit_two_pow,decide_eq_true_eq,List.mem_cons]
  constructor
  ·rintro(h1|h1)
   ·exact .inl (by omega)
   ·exact .inr h1
  ·rintro(h1|h1)
   ·exact .inl (by omega)
   ·exact .inr h1
theorem maskL_lt{n:Nat}:∀ {l:List Int},(∀k∈l,0≤k∧k<n)→maskL l<2^n
 | [],_=>Nat.two_pow_pos n
 |k::l,h=>by
  have hk:=h k (by simp)
  exact Nat.or_lt_two_pow (Nat.pow_lt_pow_right (by omega) (by omega)) (maskL_lt fun x hx=>h x (by simp [hx]))
theorem listOf_mask{n:Nat}{l:List Int}(ha:l.Pairwise (· < ·))(h:∀k∈l,0≤k∧k<n):listOf n (maskL l)=l:=by
 refine asc_unique (listOf_asc _ _) ha fun x=>?_
 rw [listOf_mem]
 constructor
 ·rintro⟨j,_,h2,rfl⟩
  exact(maskL_bit j fun k hk=>(h k hk).1).1 h2
 ·intro hx
  have:=h x hx
  exact⟨x.toNat,by omega,(maskL_bit x.toNat fun k hk=>(h k hk).1).2 (by rw [show((x.toNat:Nat):Int)=x by omega];exact hx),by omega⟩
theorem smaller_iff{a c:List Int}:smaller a c=true↔a.length<c.length∨a.length=c.length∧cmpL a c<0:=by simp [smaller]
theorem cmpL_trans:∀ {a c e:List Int},cmpL a c<0→cmpL c e<0→cmpL a e<0
 | [], [],_,h,_=>by simp [cmpL] at h
 | [],_::_, [],_,h=>by simp [cmpL] at h
 | [],_::_,_::_,_,_=>by simp [cmpL]
 |_::_, [],_,h,_=>by simp [cmpL] at h
 |_::_,_::_, [],_,h=>by simp [cmpL] at h
 |x::xs,y::ys,z::zs,h1,h2=>by
  simp only [cmpL] at h1 h2⊢
  by_cases e1:cmpI x y=0
  ·rw [if_neg (by simp [e1])] at h1
   have:=cmpI_zero.1 e1
   subst this
   by_cases e2:cmpI x z=0
   ·rw [if_neg (by simp [e2])] at h2⊢
    exact cmpL_trans h1 h2
   ·rw [if_pos e2] at h2⊢;exact h2
  ·rw [if_pos e1] at h1
   have h3:=cmpI_neg.1 h1
   by_cases e2:cmpI y z=0
   ·have:=cmpI_zero.1 e2
    subst this
    rw [if_pos e1];exact h1
   ·rw [if_pos e2] at h2
    have h4:=cmpI_neg.1 h2
    have h5:cmpI x z<0:=cmpI_neg.2 (by omega)
    rw [if_pos (by omega)];exact h5
theorem smaller_trans{a c e:List Int}(h1:smaller a c=true)(h2:smaller c e=true):smaller a e=true:=by
 rw [smaller_iff] at*
 rcases h1 with h1|⟨h1,h1'⟩
 ·rcases h2 with h2|⟨h2,_⟩<;>exact .inl (by omega)
 ·rcases h2 with h2|⟨h2,h2'⟩
  ·exact .inl (by omega)
  ·exact .inr ⟨by omega,cmpL_trans h1' h2'⟩
theorem smaller_irr(a:List Int):¬smaller a a=true:=by rw [smaller_iff,cmpL_refl];omega
theorem smaller_total{a c:List Int}(h1:¬smaller a c=true)(h2:¬smaller c a=true):a=c:=by
 rw [smaller_iff] at*
 have h3:=cmpL_flip a c
 refine cmpL_zero ?_
 have e1:a.length=c.length:=by omega
 have e2:¬cmpL a c<0:=fun h=>h1 (.inr ⟨e1,h⟩)
 have e3:¬cmpL c a<0:=fun h=>h2 (.inr ⟨e1.symm,h⟩)
 omega
theorem offer_least:∀ (l:List (List Int)) (o:List Int),∃y,l.foldl offer (some o)=some y∧(y=o∨y∈l)∧(∀x,x=o∨x∈l→¬smaller x y=true)
 | [],o=>⟨o,rfl, .inl rfl,fun x hx=>by
  rcases hx with rfl|hx
  ·exact smaller_irr _
  ·cases hx⟩
 |x::l,o=>by
  rw [List.foldl_cons,offer]
  by_cases h:smaller x o=true
  ·rw [if_pos h]
   obtain⟨y,h1,h2,h3⟩:=offer_least l x
   refine⟨y,h1, ?_,fun z hz=>?_⟩
   ·rcases h2 with rfl|h2
    ·exact .inr (by simp)
    ·exact .inr (by simp [h2])
   ·rcases hz with rfl|hz
    ·exact fun hz=>h3 x (.inl rfl) (smaller_trans h hz)
    ·rcases List.mem_cons.1 hz with rfl|hz
     ·exact h3 _ (.inl rfl)
     ·exact h3 z (.inr hz)
  ·rw [if_neg h]
   obtain⟨y,h1,h2,h3⟩:=offer_least l o
   refine⟨y,h1, ?_,fun z hz=>?_⟩
   ·rcases h2 with rfl|h2
    ·exact .inl rfl
    ·exact .inr (by simp [h2])
   ·rcases hz with rfl|hz
    ·exact h3 _ (.inl rfl)
    ·rcases List.mem_cons.1 hz with rfl|hz
     ·intro hz
      have h4:=h3 o (.inl rfl)
      by_cases h5:smaller o z=true
      ·exact h4 (smaller_trans h5 hz)
      ·rw [smaller_total h h5] at hz
       exact h4 hz
     ·exact h3 z (.inr hz)
theorem fewestOf_none{n:Nat}{is:Nat→Bool}(h:∀m,m<2^n→is m=false):fewestOf n is=none:=by
 have:(List.range (2^n)).filter is= []:=by
  rw [List.filter_eq_nil_iff]
  intro m hm
  rw [h m (List.mem_range.1 hm)];simp
 rw [fewestOf,this];rfl
theorem fewestOf_some{n:Nat}{is:Nat→Bool}{m:Nat}(hm:m<2^n)(h:is m=true):∃y,fewestOf n is=some y∧(∃m',m'<2^n∧is m'=true∧y=listOf n m')∧∀m',m'<2^n→is m'=true→¬smaller (listOf n m') y=true:=by
 have hmem:m∈(List.range (2^n)).filter is:=List.mem_filter.2 ⟨List.mem_range.2 hm,h⟩
 have hall:∀m',m'∈(List.range (2^n)).filter is↔m'<2^n∧is m'=true:=fun m'=>by rw [List.mem_filter,List.mem_range]
 unfold fewestOf
 generalize(List.range (2^n)).filter is=L at hmem hall
 cases L with
 |nil=>cases hmem
 |cons k L=>
  obtain⟨y,h1,h2,h3⟩:=offer_least (L.map (listOf n)) (listOf n k)
  refine⟨y,by simpa [offer] using h1, ?_,fun m' hm' his=>?_⟩
  ·rcases h2 with rfl|h2
   ·have:=(hall k).1 (by simp)
    exact⟨k,this.1,this.2,rfl⟩
   ·obtain⟨m',hm',rfl⟩:=List.mem_map.1 h2
    have:=(hall m').1 (by simp [hm'])
    exact⟨m',this.1,this.2,rfl⟩
  ·have:=(hall m').2 ⟨hm',his⟩
   rcases List.mem_cons.1 this with rfl|this
   ·exact h3 _ (.inl rfl)
   ·exact h3 _ (.inr (List.mem_map_of_mem this))
theorem renew_zero(p:List Int):renew 0 p=p:=by
 have:∀ (l:List Int) (i:Nat),renewGo 0 i l=l:=fun l=>by
  induction l with
  |nil=>exact fun _=>rfl
  |cons x l ih=>exact fun i=>by simp [renewGo,ih]
 exact this p 0
theorem lifted_list{b:Bk}(hne:cases b≠ [])(m:Nat):lifted b (sureM b 0) m=liftedL b (listOf b.gs.length m):=by
 unfold lifted liftedL
 have key:∀p,p<b.cs.length→((List.range b.gs.length).any fun g=>m.testBit g && sureM b 0 g p)=liftsOne b (listOf b.gs.length m) p:=fun p hp=>by
  have e:∀g:Nat,sure b 0 g p=decide (may b g p=1):=fun g=>by
   rw [Bool.eq_iff_iff,decide_eq_true_eq,may,how_one (List.length_pos_iff.2 hne),filter_all]
   have:(fun t:Tn=>lifts b (renew 0 (pad 4 t.1)) g (nth t.2 p))=fun t=>lifts b t.1 g (nth t.2 p):=by
    funext t;rw [renew_zero,lifts_pad]
   rw [sure,this]
  unfold liftsOne
  rw [Bool.eq_iff_iff,List.any_eq_true,List.any_eq_true]
  constructor
  ·rintro⟨g,h1,h2⟩
   simp only [sureM,Bool.and_eq_true,decide_eq_true_eq,e] at h2
   exact⟨(g:Int),listOf_mem.2 ⟨g,List.mem_range.1 h1,h2.1,rfl⟩,by simpa using h2.2.2.2⟩
  ·rintro⟨x,h1,h2⟩
   obtain⟨g,h3,h4,rfl⟩:=listOf_mem.1 h1
   refine⟨g,List.mem_range.2 h3, ?_⟩
   simp only [sureM,Bool.and_eq_true,decide_eq_true_eq,e]
   exact⟨h4,h3,hp,by simpa using h2⟩
 rw [Bool.eq_iff_iff,List.all_eq_true,List.all_eq_true]
 exact⟨fun h p hp=>by rw [←key p (List.mem_range.1 hp)];exact h p hp,fun h p hp=>by rw [key p (List.mem_range.1 hp)];exact h p hp⟩
theorem liftedL_mono{b:Bk}{a c:List Int}(h:∀x∈a,x∈c)(hl:liftedL b a=true):liftedL b c=true:=by
 unfold liftedL liftsOne at*
 rw [List.all_eq_true] at hl⊢
 intro p hp
 have:=hl p hp
 rw [List.any_eq_true] at this⊢
 obtain⟨g,h1,h2⟩:=this
 exact⟨g,h g h1,h2⟩
theorem fewest_law{b:Bk}(hne:cases b≠ []):
  (fewestOf b.gs.length (lifted b (sureM b 0))=none∧∀x:List Int,x.Pairwise (· < ·)→(∀k∈x,0≤k∧k<(b.gs.length:Int))→liftedL b x=false)∨
  ∃y,fewestOf b.gs.length (lifted b (sureM b 0))=some y∧y.Pairwise (· < ·)∧(∀k∈y,0≤k∧k<(b.gs.length:Int))∧liftedL b y=true∧∀x:List Int,x.Pairwise (· < ·)→(∀k∈x,0≤k∧k<(b.gs.length:Int))→liftedL b x=true→¬smaller x y=true:=by
 have hm:∀x:List Int,x.Pairwise (· < ·)→(∀k∈x,0≤k∧k<(b.gs.length:Int))→maskL x<2^b.gs.length∧listOf b.gs.length (maskL x)=x∧lifted b (sureM b 0) (maskL x)=liftedL b x:=fun x h1 h2=>by
  have h3:=listOf_mask h1 h2
  exact⟨maskL_lt h2,h3,by rw [lifted_list hne,h3]⟩
 by_cases h:∃m,m<2^b.gs.length∧lifted b (sureM b 0) m=true
 ·obtain⟨m,h1,h2⟩:=h
  obtain⟨y,h3,⟨m',h4,h5,rfl⟩,h6⟩:=fewestOf_some h1 h2
  refine .inr ⟨_,h3,listOf_asc _ _,fun k hk=>?_,by rw [←lifted_list hne];exact h5,fun x hx1 hx2 hx3=>?_⟩
  ·obtain⟨j,h7,_,rfl⟩:=listOf_mem.1 hk;omega
  ·obtain⟨k1,k2,k3⟩:=hm x hx1 hx2
   have:=h6 _ k1 (by rw [k3];exact hx3)
   rwa [k2] at this
 ·refine .inl ⟨fewestOf_none fun m hm=>?_,fun x hx1 hx2=>?_⟩
  ·cases e:lifted b (sureM b 0) m
   ·rfl
   ·exact absurd ⟨m,hm,e⟩ h
  ·obtain⟨k1,k2,k3⟩:=hm x hx1 hx2
   cases e:liftedL b x
   ·rfl
   ·exact absurd ⟨_,k1,k3.trans e⟩ h
theorem rz_asc:∀ (m:Nat) (n:Int),(rz n m).Pairwise (· < ·)
 |0,_=> .nil
 |m+1,n=>List.pairwise_cons.2 ⟨fun x hx=>by have:=mem_rz.1 hx;omega,rz_asc m (n+1)⟩
section
variable {main:Bool}{J:Goroutine→Mem→Prop}(hJ:Closed prog main J)
include hJ
end
end Go.Lg.B
namespace Go.Lg.B
open Go Go.Conc Go.Lg Go.Proofs Go.Proofs.Tryz
theorem testsGo_of{m:Int}:∀ {l:List Ts},(∀t∈l,(0≤t.g∧t.g<m)∧1≤t.l∧t.l≤99)→testsGo m l=0
 | [],_=>rfl
 |t::l,h=>by
  have ht:=h t (by simp)
  rw [testsGo,if_neg (fun e=>e (there_zero.2 ht.1)),if_neg (fun e=>e (loadH_zero.2 ht.2))]
  exact testsGo_of fun x hx=>h x (by simp [hx])
theorem check_ts{b:Bk}(hch:checkBook b=0){l:List Ts}(hn:l.length≤3)(h:∀t∈l,(0≤t.g∧t.g<b.gs.length)∧1≤t.l∧t.l≤99):checkBook {b with ts:=l}=0:=by
 obtain⟨w,p,g,c,_⟩:=check_parts hch
 have hts:Bk.testsH {b with ts:=l}=0:=by
  unfold Bk.testsH
  rw [if_neg (by show¬l.length>3;omega)]
  exact testsGo_of h
 have hw:Bk.winchH {b with ts:=l}=0:=w
 have hp:Bk.partsH {b with ts:=l}=0:=p
 have hg:Bk.gearsH {b with ts:=l}=0:=g
 have hc:Bk.piecesH {b with ts:=l}=0:=c
 unfold checkBook
 rw [hw,hp,hg,hc,hts];rfl
theorem lifts_ts{b:Bk}{l:List Ts}(p:List Int)(g n:Int):lifts {b with ts:=l} p g n=lifts b p g n:=by
 have e:∀x y,pullsGo {b with ts:=l} x y=pullsGo b x y:=fun x y=>by
  induction y generalizing x with
  |nil=>rfl
  |cons z y ih=>rw [pullsGo,pullsGo,ih];rfl
 unfold lifts gives pulls
 rw [e];rfl
theorem right_ts{b:Bk}{l:List Ts}(p:List Int):right {b with ts:=l} p=l.all fun t=>lifts b p t.g t.l==t.held:=by
 unfold right
 simp only [lifts_ts]
theorem pullsGo_alike{b c:Bk}(h:∀x,b.sheaves x=c.sheaves x):∀ (q:List Int) (n:Int),pullsGo b n q=pullsGo c n q
 | [],_=>rfl
 |x::q,n=>by rw [pullsGo,pullsGo,h,pullsGo_alike h q]
theorem gives_alike{b c:Bk}(hw:b.w=c.w)(hg:b.gs=c.gs)(h:∀x,b.sheaves x=c.sheaves x)(p:List Int)(g n:Int):gives b p g n=gives c p g n:=by
 have e:∀g,b.gear g=c.gear g:=fun g=>by unfold Bk.gear;rw [hg]
 unfold gives pulls
 rw [hw,e,pullsGo_alike h]
theorem lifts_alike{b c:Bk}(hw:b.w=c.w)(hg:b.gs=c.gs)(h:∀x,b.sheaves x=c.sheaves x)(p:List Int)(g n:Int):lifts b p g n=lifts c p g n:=by
 unfold lifts;rw [gives_alike hw hg h]
structure RenOk(b c:Bk)(l:List Int):Prop where
 w:c.w=b.w
 gs:c.gs=b.gs
 cs:c.cs=b.cs
 ts:c.ts=b.ts
 np:c.ps.length=b.ps.length
 sh:∀x,c.sheaves x=b.sheaves x
 ps:∀i:Nat,c.ps[i]? =b.ps[i]?.map fun p=>if(i:Int)∈l then {p with r:=⟨99,99⟩ } else p
 ch:checkBook b=0→checkBook c=0
theorem may_all{b:Bk}(hne:cases b≠ []){g p:Nat}:may b g p=1↔((cases b).all fun t=>lifts b t.1 g (nth t.2 p))=true:=by
 rw [may,how_one (List.length_pos_iff.2 hne),filter_all]
def allGears(b:Bk):Bool:=liftedL b (rz 0 b.gs.length)
theorem fewest_found{b:Bk}(hne:cases b≠ []):(fewestOf b.gs.length (lifted b (sureM b 0))).isSome=allGears b:=by
 have hrb:∀k∈rz 0 b.gs.length,0≤k∧k<(b.gs.length:Int):=fun k hk=>by have:=mem_rz.1 hk;omega
 rcases fewest_law hne with⟨h,h1⟩|⟨y,h,h1,h2,h3,h4⟩
 ·rw [h];exact(h1 _ (rz_asc _ _) hrb).symm
 ·rw [h]
  exact(liftedL_mono (fun x hx=>mem_rz.2 (by have:=h2 x hx;omega)) h3).symm
def shOk(ng:Nat)(s:Nat→Nat→Bool):List Int→List Int→Bool
 |_, []=>true
 |gs,g::z=>between g 0 ((ng:Int) -1) && (!decide (g∈gs) && (s g.toNat gs.length && shOk ng s (gs++ [g]) z))
theorem range_first{α:Type}(f:Nat→Option α):∀n:Nat,(∀j,j<n→f j=none)∨∃g,g<n∧(∀j,j<g→f j=none)∧∃x,f g=some x
 |0=> .inl fun j h=>by omega
 |n+1=>by
  rcases range_first f n with h|⟨g,h1,h2⟩
  ·cases e:f n with
   |none=>
    refine .inl fun j hj=>?_
    by_cases e2:j=n
    ·rw [e2];exact e
    ·exact h j (by omega)
   |some x=>exact .inr ⟨n,by omega,h,x,e⟩
  ·exact .inr ⟨g,by omega,h2⟩
theorem share_law(ng:Nat)(s:Nat→Nat→Bool):∀ (r:Nat) (gs:List Int),
  (shareGo ng s r gs=none∧∀z:List Int,z.length=r→shOk ng s gs z=false)∨
  ∃z,shareGo ng s r gs=some (gs++z)∧z.length=r∧shOk ng s gs z=true∧∀z':List Int,z'.length=r→shOk ng s gs z'=true→¬cmpL z' z<0
 |0,gs=> .inr ⟨[],by simp [shareGo],rfl,rfl,fun z' hz _=>by
   rw [List.length_eq_zero_iff] at hz;subst hz;simp [cmpL]⟩
 |r+1,gs=>by
  have ih:=share_law ng s r
  have inv:∀ (g:Int) (z:List Int),shOk ng s gs (g::z)=true→∃j:Nat,g=j∧j<ng∧(j:Int)∉gs∧s j gs.length=true∧shOk ng s (gs++ [g]) z=true:=fun g z h=>by
   simp only [shOk,Bool.and_eq_true,between_iff,Bool.not_eq_true',decide_eq_false_iff_not] at h
   obtain⟨j,rfl⟩:=Int.eq_ofNat_of_zero_le h.1.1
   exact⟨j,rfl,by omega,h.2.1,by simpa using h.2.2.1,h.2.2.2⟩
  have e:shareGo ng s (r+1) gs=(List.range ng).findSome? fun g=>if s g gs.length && !decide ((g:Int)∈gs) then shareGo ng s r (gs++ [(g:Int)]) else none:=rfl
  rw [e]
  generalize hf:(fun g:Nat=>if s g gs.length && !decide ((g:Int)∈gs) then shareGo ng s r (gs++ [(g:Int)]) else none)=f
  have hfe:∀g:Nat,s g gs.length=true→(g:Int)∉gs→f g=shareGo ng s r (gs++ [(g:Int)]):=fun g h1 h2=>by rw [←hf];simp [h1,h2]
  rcases range_first f ng with h|⟨g,h1,h2,x,h3⟩
  ·refine .inl ⟨findSome_miss h,fun z hz=>?_⟩
   cases z with
   |nil=>simp at hz
   |cons g z=>
    cases hs:shOk ng s gs (g::z) with
    |false=>rfl
    |true=>
     obtain⟨j,rfl,h4,h5,h6,h7⟩:=inv g z hs
     have h8:=h j h4
     rw [hfe j h6 h5] at h8
     rcases ih (gs++ [(j:Int)]) with⟨_,k2⟩|⟨z',k1,_⟩
     ·have:=k2 z (by simpa using hz)
      rw [h7] at this;cases this
     ·rw [k1] at h8;cases h8
  ·have hg:s g gs.length=true∧(g:Int)∉gs:=by
    rw [←hf] at h3
    simp only at h3
    split at h3
    ·rename_i h4;simpa using h4
    ·cases h3
   rw [findSome_hit h1 h2 h3]
   rw [hfe g hg.1 hg.2] at h3
   rcases ih (gs++ [(g:Int)]) with⟨k1,_⟩|⟨z,k1,k2,k3,k4⟩
   ·rw [k1] at h3;cases h3
   ·rw [k1] at h3
    have hx:=Option.some.inj h3
    refine .inr ⟨(g:Int)::z,by rw [←hx];simp,by simp [k2], ?_,fun z' hz hs=>?_⟩
    ·simp only [shOk,Bool.and_eq_true,between_iff,Bool.not_eq_true',decide_eq_false_iff_not,Int.toNat_natCast]
     exact⟨by omega,hg.2,hg.1,k3⟩
    ·cases z' with
     |nil=>simp at hz
     |cons g' z'=>
      obtain⟨j,rfl,h4,h5,h6,h7⟩:=inv g' z' hs
      by_cases hlt:j<g
      ·have h8:=h2 j hlt
       rw [hfe j h6 h5] at h8
       rcases ih (gs++ [(j:Int)]) with⟨_,q2⟩|⟨z2,q1,_⟩
       ·have:=q2 z' (by simpa using hz)
        rw [h7] at this;cases this
       ·rw [q1] at h8;cases h8
      ·rw [cmpL]
       by_cases heq:j=g
       ·subst heq
        rw [if_neg (by simp [cmpI])]
        exact k4 z' (by simpa using hz) h7
       ·have:cmpI (j:Int) g=1:=by unfold cmpI;rw [if_neg (by omega),if_pos (by omega)]
        rw [this,if_pos (by decide)];decide
theorem shOk_cong{ng:Nat}{s s':Nat→Nat→Bool}{nc:Nat}(h:∀g p,g<ng→p<nc→s g p=s' g p):∀ (z gs:List Int),gs.length+z.length≤nc→shOk ng s gs z=shOk ng s' gs z
 | [],_,_=>rfl
 |g::z,gs,hn=>by
  rw [List.length_cons] at hn
  simp only [shOk]
  by_cases hb:between g 0 ((ng:Int) -1)=true
  ·have hb':=between_iff.1 hb
   rw [h g.toNat gs.length (by omega) (by omega),shOk_cong h z (gs++ [g]) (by simp;omega)]
  ·simp only [Bool.not_eq_true] at hb
   rw [hb];rfl
def mayS(b:Bk)(g p:Nat):Bool:=may b g p==1
theorem sureM_may{b:Bk}(hne:cases b≠ []){g p:Nat}(hg:g<b.gs.length)(hp:p<b.cs.length):sureM b 0 g p=mayS b g p:=by
 have e:sure b 0 g p=decide (may b g p=1):=by
  rw [Bool.eq_iff_iff,decide_eq_true_eq,may_all hne]
  have:(fun t:Tn=>lifts b (renew 0 (pad 4 t.1)) g (nth t.2 p))=fun t=>lifts b t.1 g (nth t.2 p):=by
   funext t;rw [renew_zero,lifts_pad]
  rw [sure,this]
 unfold sureM mayS
 rw [e]
 simp only [hg,hp,decide_true,Bool.true_and]
 rw [Bool.eq_iff_iff];simp
theorem shareR_law{b:Bk}(hch:checkBook b=0)(hne:cases b≠ []):
  ((shareR b)=(none,0)∧∀z:List Int,z.length=b.cs.length→shOk b.gs.length (mayS b) [] z=false)∨
  ∃z,shareR b=(some z,0)∧z.length=b.cs.length∧shOk b.gs.length (mayS b) [] z=true∧∀z':List Int,z'.length=b.cs.length→shOk b.gs.length (mayS b) [] z'=true→¬cmpL z' z<0:=by
 have hop:=open_zero hch hne
 have hcg:∀z:List Int,z.length=b.cs.length→shOk b.gs.length (sureM b 0) [] z=shOk b.gs.length (mayS b) [] z:=fun z hz=>shOk_cong (nc:=b.cs.length) (fun g p hg hp=>sureM_may hne hg hp) z [] (by simp [hz])
 have e:shareR b=(shareGo b.gs.length (sureM b 0) b.cs.length [],0):=by rw [shareR,hop];rfl
 rw [e]
 rcases share_law b.gs.length (sureM b 0) b.cs.length [] with⟨h1,h2⟩|⟨z,h1,h2,h3,h4⟩
 ·exact .inl ⟨by rw [h1],fun z hz=>by rw [←hcg z hz];exact h2 z hz⟩
 ·exact .inr ⟨z,by rw [h1];rfl,h2,by rw [←hcg z h2];exact h3,fun z' hz hs=>h4 z' hz (by rw [hcg z' hz];exact hs)⟩
theorem bearsOf_mem{b:Bk}{i x:Int}:x∈bearsOf b i↔ ∃t∈cases b,nth t.1 i=x:=by rw [bearsOf,numbers_mem,List.mem_map]
theorem weightsOf_mem{b:Bk}{i x:Int}:x∈weightsOf b i↔ ∃t∈cases b,nth t.2 i=x:=by rw [weightsOf,numbers_mem,List.mem_map]
theorem bears_in{b:Bk}{i:Int}(h0:0≤i)(h1:i<b.ps.length){p:List Int}(hp:p∈bearsL b):(b.part i).r.lo≤nth p i∧nth p i≤(b.part i).r.hi:=by
 have hk:i.toNat<b.ps.length:=by omega
 have hpk:b.part i=b.ps[i.toNat]:=by simp [Bk.part,List.getD_eq_getElem?_getD,hk]
 obtain⟨_,h⟩:=mem_spread.1 (mem_of_filter hp)
 obtain⟨x,hx,h3⟩:=h i.toNat (b.ps[i.toNat]).r (by simp [hk])
 rw [hpk]
 simpa [nth,List.getD_eq_getElem?_getD,hx] using h3
theorem asc_len{lo:Int}{m:Nat}{l:List Int}(ha:l.Pairwise (· < ·))(h:∀x∈l,lo≤x∧x<lo+m):l.length≤m:=by
 have h1:(l.map fun x=>x-lo).Nodup:=by
  refine List.pairwise_map.2 (ha.imp fun h=>?_)
  omega
 have:=nodup_len (m:=m) h1 fun n hn=>by
  obtain⟨x,hx,rfl⟩:=List.mem_map.1 hn
  have:=h x hx;omega
 simpa using this
theorem weightsOf_eq{b:Bk}(hb:b.good)(hne:cases b≠ []){k:Int}(h0:0≤k)(h1:k<b.cs.length):weightsOf b k=(b.piece k).r.nums:=by
 refine asc_unique (numbers_asc _) (rz_asc _ _) fun x=>?_
 show x∈weightsOf b k↔x∈(b.piece k).r.nums
 rw [weightsOf_mem,mem_nums]
 constructor
 ·rintro⟨t,ht,rfl⟩
  exact weights_in h0 h1 (mem_cases.1 ht).2
 ·intro hx
  obtain⟨w,hw,e⟩:=weights_hi hb h0 h1 hx
  cases hc:cases b with
  |nil=>exact absurd hc hne
  |cons t T=>
   have ht:t∈cases b:=by rw [hc];simp
   rw [←hc]
   exact⟨(t.1,w),mem_cases.2 ⟨(mem_cases.1 ht).1,hw⟩,e⟩
structure NoLess(b c:Bk):Prop where
 gs:c.gs.length=b.gs.length
 cs:c.cs.length=b.cs.length
 ps:c.ps.length=b.ps.length
 sure:∀m g p:Nat,g<b.gs.length→p<b.cs.length→sure b m g p=true→sure c m g p=true
 most:∀g:Int,0≤g→g<b.gs.length→most b g≤most c g
 weak:∀g n:Int,0≤g→g<b.gs.length→∀x∈weak c g n,x∈weak b g n
theorem NoLess.sureM{b c:Bk}(h:NoLess b c)(m g p:Nat)(hs:sureM b m g p=true):sureM c m g p=true:=by
 simp only [Go.Lg.B.sureM,Bool.and_eq_true,decide_eq_true_eq] at hs⊢
 rw [h.gs,h.cs]
 exact⟨hs.1,hs.2.1,h.sure _ _ _ hs.1 hs.2.1 hs.2.2⟩
structure Fewer(b c:Bk):Prop where
 w:c.w=b.w
 gs:c.gs=b.gs
 nc:c.cs.length=b.cs.length
 np:c.ps.length=b.ps.length
 sh:∀x,c.sheaves x=b.sheaves x
 cases:(cases c).Sublist (cases b)
theorem Fewer.lifts{b c:Bk}(h:Fewer b c)(p:List Int)(g n:Int):lifts c p g n=lifts b p g n:=lifts_alike h.w h.gs h.sh p g n
theorem Fewer.allLift{b c:Bk}(h:Fewer b c){g n:Int}(ha:allLift b g n=true):allLift c g n=true:=by
 unfold Go.Lg.B.allLift at ha⊢
 rw [List.all_eq_true] at ha⊢
 intro t ht
 rw [h.lifts];exact ha t (h.cases.subset ht)
theorem Fewer.bears{b c:Bk}(h:Fewer b c)(i:Int):insideL (bearsOf c i) (bearsOf b i)=true:=by
 unfold insideL
 rw [List.all_eq_true]
 intro x hx
 rw [List.contains_iff_mem]
 obtain⟨t,ht,e⟩:=bearsOf_mem.1 hx
 exact bearsOf_mem.2 ⟨t,h.cases.subset ht,e⟩
end Go.Lg.B
namespace Go.Lg
open Go Go.Conc
inductive FsOk(P:Program)(d:Nat)(a b:List Value):List Field→Bool→Prop
 |nil:FsOk P d a b [] true
 |cons {f:Field} {fs:List Field} {x y:Value} {r rs:Bool}:f.name≠ "_" →(∀ (M:Mem) (K:Value→Mem→Prop),K x M→Sm P M (part f.type a.toArray f.offset) K)→(∀ (M:Mem) (K:Value→Mem→Prop),K y M→Sm P M (part f.type b.toArray f.offset) K)→Eq1 P d f.type x y r→FsOk P d a b fs rs→FsOk P d a b (f::fs) (r && rs)
theorem Eq1.int{P:Program}{d:Nat}{t:TypeId}{x y:Int}(hu:∀w,Sem.run P (Go.underlying t) w= .ok (.int .i64) w):Eq1 P (d+1) t (.int .i64 x) (.int .i64 y) (x==y):=by
 intro M K hk
 unfold Op.equalIn
 refine Sm.bind (Sm.underlying hu ?_)
 simp only [if_true]
 exact Sm.pure hk
theorem Eq1.bool{P:Program}{d:Nat}{t:TypeId}{x y:Bool}(hu:∀w,Sem.run P (Go.underlying t) w= .ok .bool w):Eq1 P (d+1) t (.bool x) (.bool y) (x==y):=by
 intro M K hk
 unfold Op.equalIn
 refine Sm.bind (Sm.underlying hu ?_)
 exact Sm.pure hk
theorem bts_beq(x y:List UInt8):((⟨x.toArray⟩:ByteArray)==⟨y.toArray⟩)=(x==y):=by
 show(x.toArray==y.toArray)=(x==y)
 simp
theorem Eq1.str{P:Program}{d:Nat}{t:TypeId}{x y:List UInt8}(hu:∀w,Sem.run P (Go.underlying t) w= .ok .string w):Eq1 P (d+1) t (strV x) (strV y) (x==y):=by
 intro M K hk
 unfold Op.equalIn
 refine Sm.bind (Sm.underlying hu ?_)
 simp only [bts_beq]
 exact Sm.pure hk
end Go.Lg
namespace Go.Lg.B
open Go Go.Conc Go.Lg Go.Proofs Go.Proofs.Tryz
structure Bk.tiny(b:Bk):Prop where
 ps:b.ps.length≤1000
 gs:b.gs.length≤1000∧∀g∈b.gs,g.length≤1000
 cs:b.cs.length≤1000
 ts:b.ts.length≤1000
theorem mostR_eq{b:Bk}(hch:checkBook b=0)(hne:cases b≠ []){g:Int}(h:0≤g∧g<b.gs.length):mostR b g=(most b g,0):=by
 rw [mostR,mostH_eq (there_zero.2 h),open_zero hch hne];rfl
theorem weakR_eq{b:Bk}(hch:checkBook b=0)(hne:cases b≠ []){g n:Int}(h:0≤g∧g<b.gs.length)(hn:1≤n∧n≤99):weakR b g n=(weak b g n,0):=by
 rw [weakR,weakH_eq (there_zero.2 h) (loadH_zero.2 hn),open_zero hch hne];rfl
theorem mayR_eq{b:Bk}(hch:checkBook b=0)(hne:cases b≠ []){g k:Int}(h:0≤g∧g<b.gs.length)(hk:0≤k∧k<b.cs.length):mayR b g k=(may b g k,0):=by
 rw [mayR,mayH_eq (there_zero.2 h) (there_zero.2 hk),open_zero hch hne];rfl
theorem bearsR_eq{b:Bk}(hch:checkBook b=0)(hne:cases b≠ []){i:Int}(h:0≤i∧i<b.ps.length):bearsR b i=(bearsOf b i,0):=by
 rw [bearsR,there_zero.2 h,open_zero hch hne];rfl
theorem weightsR_eq{b:Bk}(hch:checkBook b=0)(hne:cases b≠ []){i:Int}(h:0≤i∧i<b.cs.length):weightsR b i=(weightsOf b i,0):=by
 rw [weightsR,there_zero.2 h,open_zero hch hne];rfl
theorem casesOf_eq{b:Bk}(hch:checkBook b=0):casesOf b=(((cases b).length:Int),0):=by rw [casesOf,if_neg (fun h=>h hch)]
theorem fewestR_zero{b:Bk}(hch:checkBook b=0)(hne:cases b≠ []):(fewestR b).2=0:=by rw [fewestR,open_zero hch hne];rfl
theorem shareR_zero{b:Bk}(hch:checkBook b=0)(hne:cases b≠ []):(shareR b).2=0:=by rw [shareR,open_zero hch hne];rfl
theorem bearsOf_len{b:Bk}(hb:b.good){i:Int}(h:0≤i∧i<b.ps.length):(bearsOf b i).length≤3:=by
 have hk:i.toNat<b.ps.length:=by omega
 have hp:b.part i=b.ps[i.toNat]:=by simp [Bk.part,List.getD_eq_getElem?_getD,hk]
 have hf:=hb.ps _ (List.getElem_mem hk)
 rw [←hp] at hf
 unfold Pt.fine at hf
 refine asc_len (lo:=(b.part i).r.lo) (m:=3) (numbers_asc _) fun x hx=>?_
 obtain⟨t,ht,rfl⟩:=bearsOf_mem.1 hx
 have:=bears_in h.1 h.2 (mem_cases.1 ht).1
 omega
section
end
section
variable {main:Bool}{J:Goroutine→Mem→Prop}(hJ:Closed prog main J)
include hJ
end
end Go.Lg.B
namespace Go.Lg.B
open Go Go.Conc Go.Lg Go.Proofs Go.Proofs.Tryz
theorem getLastD_snoc(l:List Int)(x:Int):(l++ [x]).getLastD 0=x:=by simp [List.getLastD_eq_getLast?]
variable {main:Bool}{J:Goroutine→Mem→Prop}(hJ:Closed prog main J)
include hJ
theorem behindR_c{n s:Int}(hn:0≤n∧n≤99)(hs:0≤s∧s≤4)(ro:RO):CallP prog J (fnv 171) [.int .i64 n, .int .i64 s] ro (.int .i64 (behind n s)):=by
 have hm:=mul_bd hn.1 hn.2 hs.1 hs.2
 refine CallP.intro hJ (by kernel_rfl) fun c cs tail hret=>enter_X (n:=18) func171 U U (Nl U) ?_
 have C:Ctx prog main J (bf 171 .normal):=⟨hJ,by decide⟩
 refine Xr C U U<|Ad C U U<|Xr C U U<|Rm C U U<|Ra C U U U<|R.int C U U U U (b_mul (by omega) (by omega))<|Ad C U U<|Xr C U U<|Rm C U U<|Rm C U U<|Ra C U U U<|R.int C U U U U (b_mul (by omega) (by omega))<|Rm C U U<|Ra C U U U<|R.int C U U U U (b_sub (by omega) (by omega))<|Rm C U U<|R.int C U U U U (b_quoP (by omega) (by omega) (by omega))<|Ad C U U<|Xt C func171<|Hp hret ?_
 rfl
theorem pullsOfR_c{b:Bk}{v:Value}{ro:RO}(hv:BkV ro v b)(hb:b.good){g l:Int}(hg:0≤g∧g<b.gs.length)(hl:0≤l∧l≤99):CallR prog J (fnv 102) [v, .int .i64 g, .int .i64 l] ro (fun w ro'=>LsI ro' w (pulls b g l)):=by
 obtain⟨vp,vg,vc,vt,rfl,hp,hgs,hc,ht⟩:=hv
 obtain⟨pb,pc,rfl⟩:=hp.form
 obtain⟨cb,cc,rfl⟩:=hc.form
 obtain⟨tb,tc,rfl⟩:=ht.form
 obtain⟨pp,po,pcap,pl,ptt,pfq,hpe,hpro,hpsub⟩:=hp.at Pt.len (by have:=hb.np;omega)
 cases hpe
 obtain⟨gp,go,gcap,gl,gt,gfq,rfl,hgro,hgsub⟩:=hgs.at (by omega)
 obtain⟨qb,qc,hqat,hqcap,hq⟩:=hgsub g.toNat (by omega)
 have hgear:b.gs[g.toNat]'(by omega)=b.gear g:=by simp [Bk.gear,List.getD_eq_getElem?_getD,show g.toNat<b.gs.length by omega]
 rw [hgear] at hqat hqcap hq
 have hgn:=hb.gear hg.1 hg.2
 have hgl:=hb.gearLen hg.1 hg.2
 have hpl:pulls b g l=l::pullsGo b l (b.gear g):=rfl
 rw [hpl]
 generalize b.gear g=q at hqat hqcap hq hgn hgl
 refine CallR.intro hJ (by kernel_rfl) fun c cs tail hret=>enter_X (n:=39) func102 U U (Nl U) ?_
 have C:Ctx prog main J (bf 102 .normal):=⟨hJ,by decide⟩
 refine Xr C U U<|R.box C U U U U fun p3=>Ad C U U<|Xr C U U<|Rm C U U<|R.buildSlice C (vs:=_) U U (show pvals _ _=some (numbered 0 [_]) from rfl) U runUnderlying28 sizeOf3 zeroValue3 (by decide) (Cat.one U U) fun p11=>Ad C U U<|Xr C U U<|Rf C 2 U U runUnderlying27 U sizeOf23<|Rl C U U isAgg23 (by repeat constructor) U<|Rm C U U<|Rx C U U U runUnderlying23 sizeOf28<|R.loadOneRo C U U U isAgg28 hgro hqat<|Ad C U U<|Xs C<|Xr C U U<|Ad C U U<|X.block C.1<|X.loopI (ι:=Nat×Value×List (Nat×Obj)) C.1 (fun s=>s.1≤q.length∧Buf 3 1 ((p3, .cells [.int .i64 b.w, .slice (some ⟨pp,po,none⟩) b.ps.length pc, .slice (some ⟨gp,go,none⟩) b.gs.length gcap, .slice cb b.cs.length cc, .slice tb b.ts.length tc].toArray 27 (0,0))::tail) s.2.1 ((l::pullsGo b l (q.take s.1)).flatMap ic) s.2.2)
  (fun s=> [(2, .int .i64 ((l::pullsGo b l (q.take s.1)).getLastD 0)),(7,s.2.1),(8, .slice qb q.length qc),(9, .int .i64 (s.1:Int)),(3, .pointer (some ⟨p3,0,none⟩))])
  (fun s=>⟨ro,s.2.2⟩) (fun s=>q.length-s.1) (0,_,_) ⟨Nat.zero_le _, ?_⟩ rfl ⟨U,U,U,U,U,trivial⟩ fun s hi hnext=>?_
 ·exact .blk (p:=p11) (cells:= [.int .i64 l]) (spare:= []) (cap:=1) (len:=1) rfl rfl (Nat.le_refl _)
 obtain⟨i,vo,own⟩:=s
 obtain⟨hi,hbuf⟩:=hi
 simp only at hi hbuf hnext⊢
 obtain⟨p9,cap9,spare9,rfl,rfl⟩:=bufAt hbuf (by simp [ic])
 refine Xs C<|Xr C U U<|Rm C U U<|Rm C U U<|Rn C U U runUnderlying28<|R.int C U U U U b_lss<|R.done C<|Xk C U (fun hlt=>?_) (fun hlt=>?_)
 ·have hi':i<q.length:=by omega
  obtain⟨p,off,cap,ll,t,fq,hsl',hrop,hsub⟩:=hq.at ic_len (by omega)
  cases hsl'
  have hat:=ic_at hsub hi'
  have hn:=hgn.2.1 _ (List.getElem_mem hi')
  have htk:q.take (i+1)=q.take i++ [q[i]]:=List.take_succ_eq_append_getElem hi'
  have hacc:=pullsGo_snoc b (q.take i) l q[i]
  rw [←htk] at hacc
  generalize q[i]=m at hat hn hacc
  have hs:=hb.sheaves hn.1 hn.2
  have hsh:(b.ps[m.toNat]'(by omega)).sh=b.sheaves m:=by simp [Bk.sheaves,List.getD_eq_getElem?_getD,show m.toNat<b.ps.length by omega]
  have hpt:=pt_sh (hpsub m.toNat (by omega))
  rw [hsh] at hpt
  have hbd:0≤(l::pullsGo b l (q.take i)).getLastD 0∧(l::pullsGo b l (q.take i)).getLastD 0≤99:=by
   have h1:(l::pullsGo b l (q.take i)).getLastD 0∈l::pullsGo b l (q.take i):=by
    rw [List.getLastD_eq_getLast?,List.getLast?_eq_getLast (by simp)];exact List.getLast_mem _
   rcases List.mem_cons.1 h1 with h2|h2
   ·rw [h2];exact hl
   ·have:=pullsGo_bd hb (fun x hx=>hgn.2.1 x (List.mem_of_mem_take hx)) hl.1 _ h2;omega
  have hlen:(pullsGo b l (q.take i)).length=i:=by rw [pullsGo_len];simp;omega
  have hfl:((l::pullsGo b l (q.take i)).flatMap ic).length=i+1:=by rw [flat_len,List.length_cons,hlen]
  have hlast:(l::pullsGo b l (q.take (i+1))).getLastD 0=behind ((l::pullsGo b l (q.take i)).getLastD 0) (b.sheaves m):=by
   rw [hacc, ←List.cons_append,getLastD_snoc]
  generalize hx:(l::pullsGo b l (q.take i)).getLastD 0=x at hbd hacc hlast
  generalize b.sheaves m=sm at hs hpt hacc hlast
  refine X.skip C.1<|Xs C<|X.block C.1<|Xs C<|Xd C fun hok=>Dm C 0 hok U U U<|Df (off':=1) C 1 hok U U U runUnderlying27 U sizeOf22 U<|D1 C 2 hok U U isAgg22 (by repeat constructor) U<|Dm C 3 hok U U U<|Dm C 4 hok U U U<|Dx C 5 hok U U U runUnderlying28 sizeOf3<|D2 C 6 hok U U isAgg3 hrop hat<|Dx C 7 hok U U U runUnderlying22 sizeOf67<|Df C 8 hok U U U runUnderlying67 U sizeOf3 U<|D2 C 9 hok U U isAgg3 hpro hpt<|De 10 (some 33) [false,false,false] hok (fun _ _ A hk=>?_)
  refine R.callP C U (A.w U U) (A.x U U) (A.s U U) (behindR_c hJ hbd hs _) (hk _ _ ⟨QFs.nil, ?_⟩)
  refine Da C 11 hok U U<|D.done C hok (by kernel_rfl)<|X.region C U U<|Rm C U U<|Rm C U U<|R.buildSlice C (vs:=_) U U (show pvals _ _=some (numbered 0 [_]) from rfl) U runUnderlying28 sizeOf3 zeroValue3 (by decide) (Cat.one U U) fun p36=>R.append1 (kk:=1) C U U U U runUnderlying28 runUnderlying28 (fun _=>nofun) (show prog.info? 3=some Tryz.t3 by kernel_rfl) U U U (by decide) (by decide) hbuf U U (by simp only [List.length_append,List.length_cons,List.length_nil];omega) fun v' own' hb'=>Ad C U U<|X.inBlock C.1<|X.region C U U<|Rm C U U<|Ra C U U U<|Ad C U U<|X.weaken ?_ (hnext (i+1,v',own') ⟨hi', ?_⟩ ?_)
  ·exact⟨by simp only [look];rw [hlast],rfl,rfl,by simp [look],rfl,trivial⟩
  ·rw [hacc, ←List.cons_append,List.flatMap_append]
   exact hb'
  ·simp only;omega
 ·obtain rfl:i=q.length:=by omega
  rw [List.take_length] at hbuf⊢
  refine X.exit C.1 U<|Xr C U U<|R.finish C.1 ic_len (by decide) hbuf fun ro' hle hls=>Rm C U U<|Ad C U U<|Xt C func102<|Hr hret hle ?_
  exact hls
theorem givesOfR_c{b:Bk}{v vp':Value}{ro:RO}{p:List Int}(hv:BkV ro v b)(hb:b.good)(hp0:LsI ro vp' p)(hpl:p.length=b.ps.length){g l:Int}(hg:0≤g∧g<b.gs.length)(hl:0≤l∧l≤99):CallR prog J (fnv 60) [v,vp', .int .i64 g, .int .i64 l] ro (fun w ro'=>LsI ro' w (gives b p g l)):=by
 have hvv:=hv
 obtain⟨vp,vg,vc,vt,rfl,hp,hgs,hc,ht⟩:=hv
 obtain⟨pb,pc,rfl⟩:=hp.form
 obtain⟨cb,cc,rfl⟩:=hc.form
 obtain⟨tb,tc,rfl⟩:=ht.form
 obtain⟨gp,go,gcap,gl,gt,gfq,rfl,hgro,hgsub⟩:=hgs.at (by omega)
 obtain⟨qb,qc,hqat,hqcap,hq⟩:=hgsub g.toNat (by omega)
 have hgear:b.gs[g.toNat]'(by omega)=b.gear g:=by simp [Bk.gear,List.getD_eq_getElem?_getD,show g.toNat<b.gs.length by omega]
 rw [hgear] at hqat hqcap hq
 have hgn:=hb.gear hg.1 hg.2
 have hgl:=hb.gearLen hg.1 hg.2
 have hpn:=pulls_len b g l
 have hnp:=hb.np
 have hwb:=hb.w
 have hpb:=pulls_bd hb hg.1 hg.2 hl.1
 obtain⟨kp,ko,kcap,kl,kt,kfq,hks,hkro,hksub⟩:=hp0.at ic_len (by omega)
 subst hks
 have hgv:gives b p g l=givesTo p (b.gear g) (pulls b g l) (b.gear g).length++(if b.w<(pulls b g l).getD (b.gear g).length 0 then [((b.gear g).length:Int)] else []):=rfl
 have hpo:=pullsOfR_c hJ hvv hb hg hl
 rw [hgv]
 generalize b.gear g=q at hqat hqcap hq hgn hgl hpn
 generalize pulls b g l=ls at hpn hpo hpb
 refine CallR.intro hJ (by kernel_rfl) fun c cs tail hret=>enter_X (n:=58) func60 U U (Nl U) ?_
 have C:Ctx prog main J (bf 60 .normal):=⟨hJ,by decide⟩
 refine Xr C U U<|R.box C U U U U fun p4=>Ad C U U<|Xs C<|Xd C fun hok=>Df (off':=2) C 0 hok U U U runUnderlying27 U sizeOf23 U<|D1 C 1 hok U U isAgg23 (by repeat constructor) U<|Dm C 2 hok U U U<|Dx C 3 hok U U U runUnderlying23 sizeOf28<|D2 C 4 hok U U isAgg28 (by first|exact hgro|exact hl1 _ _ hgro) hqat<|D5 C 5 hok U U isAgg27 sizeOf27 (by repeat constructor) Tk5<|Dm C 6 hok U U U<|Dm C 7 hok U U U<|De 8 (some 21) [false,true,true] hok (fun _ _ A hk=>?_)
 refine R.callR C U (A.w U U) (A.x U U) (A.s U U) (hpo) fun w1 ro1 hl1 hw=>hk _ _ ⟨(QFs.cons (QF.of U (fun _ _ A h=>R.loadOneRo C U (A.w U U) (A.x U U) isAgg28 (by first|exact hgro|exact hl1 _ _ hgro) hqat h)) (QFs.cons (QF.of U (fun _ _ A h=>R.loadOne C U (A.w U U) (A.x U U) isAgg23 (by repeat constructor) U h)) QFs.nil)), ?_⟩
 obtain⟨wp,wo,wcap,wl,wt,wfq,rfl,hwro,hwsub⟩:=hw.at ic_len (by omega)
 refine Da C 9 hok U U<|Da C 10 hok U U<|D.done C hok (by kernel_rfl)<|Xr C U U<|Ad C U U<|Xs C<|Xr C U U<|Ad C U U<|X.block C.1<|X.loopI (ι:=Nat×Value×List (Nat×Obj)) C.1 (fun s=>s.1≤q.length∧Buf 3 1 [] s.2.1 ((givesTo p q ls s.1).flatMap ic) s.2.2)
  (fun s=> [(1, .slice (some ⟨kp,ko,none⟩) p.length kcap),(9, .slice qb q.length qc),(10, .slice (some ⟨wp,wo,none⟩) ls.length wcap),(11,s.2.1),(12, .int .i64 (s.1:Int)),(4, .pointer (some ⟨p4,0,none⟩))])
  (fun s=>⟨ro1,s.2.2++((p4, .cells [.int .i64 b.w, .slice pb b.ps.length pc, .slice (some ⟨gp,go,none⟩) b.gs.length gcap, .slice cb b.cs.length cc, .slice tb b.ts.length tc].toArray 27 (0,0))::tail)⟩) (fun s=>q.length-s.1) (0, .slice none 0 0, []) ⟨Nat.zero_le _, .nil⟩ rfl ⟨U,U,U,U,U,U,trivial⟩ fun s hi hnext=>?_
 obtain⟨i,vo,own⟩:=s
 obtain⟨hi,hbuf⟩:=hi
 simp only at hi hbuf hnext⊢
 have hgn0:=givesTo_len p q ls i
 have hgn1:=flat_len (givesTo p q ls i)
 refine Xs C<|Xr C U U<|Rm C U U<|Rm C U U<|Rn C U U runUnderlying28<|R.int C U U U U b_lss<|R.done C<|Xk C U (fun hlt=>?_) (fun hlt=>?_)
 ·have hi':i<q.length:=by omega
  obtain⟨p9,off,cap,ll,t,fq,hsl',hrop,hsub⟩:=hq.at ic_len (by omega)
  cases hsl'
  have hat:=ic_at hsub hi'
  have hwat:=ic_at hwsub (i:=i) (by omega)
  have hn:=hgn.2.1 _ (List.getElem_mem hi')
  have hkl:q[i].toNat<p.length:=by omega
  have hkat:=ic_at hksub hkl
  have hstep:=givesTo_succ p q ls i
  have hgp:givesP p q ls i=decide (p[q[i].toNat]<ls[i]'(by omega)):=by
   unfold givesP nth
   simp [List.getD_eq_getElem?_getD,hi',hkl,show i<ls.length by omega]
  rw [hgp] at hstep
  generalize p[q[i].toNat]=y at hkat hstep
  generalize ls[i]'(by omega)=z at hwat hstep
  generalize q[i]=m at hat hn hkl hkat
  have hrop1:=hl1 _ _ hrop
  have hkro1:=hl1 _ _ hkro
  refine X.skip C.1<|Xs C<|X.block C.1<|Xs C<|Xd C fun hok=>Dm C 0 hok U U U<|Dm C 1 hok U U U<|Dx C 2 hok U U U runUnderlying28 sizeOf3<|D2 C 3 hok U U isAgg3 hwro hwat<|Dm C 4 hok U U U<|Dm C 5 hok U U U<|Dm C 6 hok U U U<|Dx C 7 hok U U U runUnderlying28 sizeOf3<|D2 C 8 hok U U isAgg3 hrop1 hat<|Dx C 9 hok U U U runUnderlying28 sizeOf3<|D2 C 10 hok U U isAgg3 hkro1 hkat<|Di C 11 hok U U U U U b_gtr<|D.done C hok (by kernel_rfl)<|X.cond C.1 U (fun hgv1=>?_) (fun hgv1=>?_)
  ·rw [if_pos (by simpa using hgv1)] at hstep
   refine X.region C U U<|Rm C U U<|Rm C U U<|R.buildSlice C (vs:=_) U U (show pvals _ _=some (numbered 0 [_]) from rfl) U runUnderlying28 sizeOf3 zeroValue3 (by decide) (Cat.one U U) fun p42=>R.append1 (kk:=1) C U U U U runUnderlying28 runUnderlying28 (fun _=>nofun) (show prog.info? 3=some Tryz.t3 by kernel_rfl) U U U (by decide) (by decide) (hbuf.app _) U U (by simp only [List.length_append,List.length_cons,List.length_nil];omega) fun v' own' hb'=>Ad C U U<|X.inBlock C.1<|X.region C U U<|Rm C U U<|Ra C U U U<|Ad C U U ?_
   obtain⟨own3,rfl,hb3⟩:=Buf.unapp (tail:= []) hb'
   refine X.weaken ?_ (hnext (i+1,v',own3) ⟨hi', ?_⟩ (by simp only;omega))
   ·exact⟨rfl,rfl,rfl,rfl,by simp [look],rfl,trivial⟩
   ·rw [hstep,List.flatMap_append];exact hb3
  ·rw [if_neg (by simpa using hgv1)] at hstep
   refine X.skip C.1<|X.inBlock C.1<|X.region C U U<|Rm C U U<|Ra C U U U<|Ad C U U<|X.weaken ?_ (hnext (i+1,vo,own) ⟨hi',by rw [hstep];exact hbuf⟩ (by simp only;omega))
   exact⟨rfl,rfl,rfl,rfl,by simp [look],rfl,trivial⟩
 ·obtain rfl:i=q.length:=by omega
  have hwat:=ic_at hwsub (i:=q.length) (by omega)
  have hlsD:ls.getD q.length 0=ls[q.length]'(by omega):=by simp [List.getD_eq_getElem?_getD,show q.length<ls.length by omega]
  rw [hlsD] at hret
  generalize ls[q.length]'(by omega)=z at hwat hlsD hret
  refine X.exit C.1 U<|Xs C<|Xs C<|Xd C fun hok=>Dm C 0 hok U U U<|Dm C 1 hok U U U<|Ds C 2 hok U U runUnderlying28<|Dx C 3 hok U U U runUnderlying28 sizeOf3<|D2 C 4 hok U U isAgg3 hwro hwat<|Df (off':=0) C 5 hok U U U runUnderlying27 U sizeOf3 U<|Dl 6 hok (fun _ _ A h=>R.loadOne C U (A.w U U) (A.x U U) isAgg3 (by repeat (first|exact Mh|apply Mt|apply List.mem_append_right)) U h)<|Di C 7 hok U U U U U b_gtr<|D.done C hok (by kernel_rfl)<|X.cond C.1 U (fun hz=>?_) (fun hz=>?_)
  ·have hz:b.w<z:=by simpa using hz
   refine X.region C U U<|Rm C U U<|Rm C U U<|Rn C U U runUnderlying28<|R.buildSlice C (vs:=_) U U (show pvals _ _=some (numbered 0 [_]) from rfl) U runUnderlying28 sizeOf3 zeroValue3 (by decide) (Cat.one U U) fun p55=>R.append1 (kk:=1) C U U U U runUnderlying28 runUnderlying28 (fun _=>nofun) (show prog.info? 3=some Tryz.t3 by kernel_rfl) U U U (by decide) (by decide) (hbuf.app _) U U (by simp only [List.length_append,List.length_cons,List.length_nil];omega) fun v' own' hb'=>Ad C U U<|Xs C ?_
   obtain⟨own3,rfl,hb3⟩:=Buf.unapp (tail:= []) hb'
   have hcat:(givesTo p q ls q.length).flatMap ic++ [Value.int .i64 (q.length:Int)]=(givesTo p q ls q.length++ [(q.length:Int)]).flatMap ic:=by rw [List.flatMap_append];rfl
   rw [hcat] at hb3
   refine X.finish C.1 ic_len (by decide) (hb3.app _) fun ro4 hl4 hls4=>X.region C U U<|Rm C U U<|Ad C U U<|Xt C func60<|Hr hret (RO.le_trans hl1 hl4) ?_
   rw [if_pos hz];exact hls4
  ·have hz:¬b.w<z:=by simpa using hz
   refine X.skip C.1<|Xs C<|X.finish C.1 ic_len (by decide) (hbuf.app _) fun ro4 hl4 hls4=>X.region C U U<|Rm C U U<|Ad C U U<|Xt C func60<|Hr hret (RO.le_trans hl1 hl4) ?_
   rw [if_neg hz,List.append_nil];exact hls4
theorem liftsOfR_c{b:Bk}{v vp':Value}{ro:RO}{p:List Int}(hv:BkV ro v b)(hb:b.good)(hp0:LsI ro vp' p)(hpl:p.length=b.ps.length){g l:Int}(hg:0≤g∧g<b.gs.length)(hl:1≤l∧l≤99):CallR prog J (fnv 59) [v,vp', .int .i64 g, .int .i64 l] ro (fun w _=>w= .bool (lifts b p g l)):=by
 have hvv:=hv
 obtain⟨vp,vg,vc,vt,rfl,hp,hgs,hc,ht⟩:=hv
 obtain⟨_,_,rfl⟩:=hp.form
 obtain⟨_,_,rfl⟩:=hgs.form
 obtain⟨_,_,rfl⟩:=hc.form
 obtain⟨_,_,rfl⟩:=ht.form
 have hgl:=gives_len b p g l
 have hgl2:=hb.gearLen hg.1 hg.2
 refine CallR.intro hJ (by kernel_rfl) fun c cs tail hret=>enter_X (n:=16) func59 U U (Nl U) ?_
 have C:Ctx prog main J (bf 59 .normal):=⟨hJ,by decide⟩
 refine Xr C U U<|R.box C U U U U fun p4=>Ad C U U<|Xr C U U<|R5 C U U isAgg27 sizeOf27 (by repeat constructor) Tk5<|Rm C U U<|Rm C U U<|Rm C U U<|R.callR C U U U U (givesOfR_c hJ hvv hb hp0 hpl hg (by omega)) fun w1 ro1 hl1 hw=>?_
 obtain⟨_,_,rfl⟩:=hw.form
 refine Rn C U U runUnderlying28<|R.int C U U U U b_eql<|Ad C U U<|Xt C func59<|Hr hret hl1 ?_
 unfold lifts
 rw [show(l==0)=false by rw [beq_eq_false_iff_ne];omega,Bool.false_or]
 refine congrArg Value.bool ?_
 rw [Bool.eq_iff_iff,beq_iff_eq,beq_iff_eq];omega
end Go.Lg.B
namespace Go.Lg.B
open Go Go.Conc Go.Lg Go.Proofs Go.Proofs.Tryz
def nothing:Bk:=⟨0, [], [], [], []⟩
def newB(b:Bk)(h:Int):Bk:=if h=0 then b else nothing
theorem noBk_v(ro:RO):BkV ro noBk nothing:=⟨_,_,_,_,rfl, .nil,⟨[], .nil,rfl,fun z hz=>by cases hz⟩, .nil, .nil⟩
theorem NewV.bk{ro:RO}{b:Bk}{h:Int}{w:Value}(hn:NewV ro b h w):∃v,BkV ro v (newB b h)∧w= .tuple [v, .int .i64 h].toArray:=by
 rcases hn with⟨h0,rfl⟩|⟨rfl,v,hv,rfl⟩
 ·exact⟨_,by rw [newB,if_neg h0];exact noBk_v ro,rfl⟩
 ·exact⟨v,hv,rfl⟩
theorem piece_fine{b:Bk}(hb:b.good){i:Int}(h:0≤i∧i<b.cs.length):(b.piece i).fine:=by
 have hk:i.toNat<b.cs.length:=by omega
 have hp:b.piece i=b.cs[i.toNat]:=by simp [Bk.piece,List.getD_eq_getElem?_getD,hk]
 rw [hp];exact hb.cs _ (List.getElem_mem hk)
theorem sub_part{off n m k:Nat}{l c:List Value}(h:Sub off (n+1) l c)(hk:k+m≤n+1)(hc:c.length=n+1):Sub (off+k) m l ((c.drop k).take m):=by
 have h1:=h.get n (by omega)
 rw [List.getElem?_eq_getElem (show n<c.length by omega)] at h1
 have h2:=(List.getElem?_eq_some_iff.1 h1).1
 refine Sub.of_get (by omega) (by rw [List.length_take,List.length_drop];omega) fun i hi=>?_
 rw [Nat.add_assoc,h.get (k+i) (by omega),List.getElem?_take,if_pos hi,List.getElem?_drop]
theorem any_none{α:Type}{p:α→Bool}{l:List α}(h:∀j (hj:j<l.length),j<l.length→p l[j]=false):l.any p=false:=by
 rw [List.any_eq_false]
 intro x hx
 obtain⟨j,hj,rfl⟩:=List.getElem_of_mem hx
 simp [h j hj hj]
theorem case_iff{b:Bk}{p w:List Int}:((p,w):Tn)∈cases b↔(p.length=b.ps.length∧∀ (i:Nat) (x:Int) (q:Pt),p[i]? =some x→b.ps[i]? =some q→q.r.lo≤x∧x≤q.r.hi)∧(w.length=b.cs.length∧∀ (i:Nat) (x:Int) (q:Pc),w[i]? =some x→b.cs[i]? =some q→q.r.lo≤x∧x≤q.r.hi)∧right b p=true:=by
 have key:∀ (rs:List Rc) (l:List Int),l∈spread rs↔l.length=rs.length∧∀ (i:Nat) (x:Int) (r:Rc),l[i]? =some x→rs[i]? =some r→r.lo≤x∧x≤r.hi:=fun rs l=>by
  rw [mem_spread]
  constructor
  ·rintro⟨h1,h2⟩
   refine⟨h1,fun i x r hx hr=>?_⟩
   obtain⟨y,hy,h3⟩:=h2 i r hr
   rw [hx] at hy;cases hy;exact h3
  ·rintro⟨h1,h2⟩
   refine⟨h1,fun i r hr=>?_⟩
   have hi:i<l.length:=by rw [h1];exact(List.getElem?_eq_some_iff.1 hr).1
   exact⟨l[i],List.getElem?_eq_getElem hi,h2 i _ r (List.getElem?_eq_getElem hi) hr⟩
 rw [mem_cases]
 unfold bearsL weightsL
 rw [List.mem_filter,key,key,List.length_map,List.length_map]
 constructor
 ·rintro⟨⟨⟨h1,h2⟩,h3⟩,h4,h5⟩
  exact⟨⟨h1,fun i x q hx hq=>h2 i x q.r hx (by rw [List.getElem?_map,hq];rfl)⟩,⟨h4,fun i x q hx hq=>h5 i x q.r hx (by rw [List.getElem?_map,hq];rfl)⟩,h3⟩
 ·rintro⟨⟨h1,h2⟩,⟨h4,h5⟩,h3⟩
  refine⟨⟨⟨h1,fun i x r hx hr=>?_⟩,h3⟩,h4,fun i x r hx hr=>?_⟩
  ·rw [List.getElem?_map] at hr
   obtain⟨q,hq,rfl⟩:=Option.map_eq_some_iff.1 hr
   exact h2 i x q hx hq
  ·rw [List.getElem?_map] at hr
   obtain⟨q,hq,rfl⟩:=Option.map_eq_some_iff.1 hr
   exact h5 i x q hx hq
section
variable {main:Bool}{J:Goroutine→Mem→Prop}(hJ:Closed prog main J)
include hJ
end
end Go.Lg.B
namespace Go.Lg.B
open Go Go.Conc Go.Lg Go.Proofs Go.Proofs.Tryz
abbrev U16:={n:Int//0≤n∧n≤65535}
def uc(n:U16):List Value:= [.int .u16 n.1]
theorem uc_len(n:U16):(uc n).length=1:=rfl
theorem b_subW{P:Program}{t:TypeId}{m n:Int}:∀M K,K (.int .i64 (IntKind.i64.wrap (m-n))) M→Sm P M (binOp .sub t (.int .i64 m) (.int .i64 n)) K:=fun M K h=>by
 unfold binOp;simp only [ne_eq,not_true_eq_false,if_false,Op.intArith];exact Sm.pure h
theorem wrap_le{m:Int}(h: -1≤m):IntKind.i64.wrap m≤m:=by
 by_cases h0:m≤9223372036854775807
 ·rw [wrap64 (by omega) h0];exact Int.le_refl _
 ·unfold IntKind.wrap
  simp only [IntKind.bits,IntKind.signed]
  have:m%18446744073709551616<18446744073709551616:=Int.emod_lt_of_pos _ (by decide)
  have:0≤m%18446744073709551616:=Int.emod_nonneg _ (by decide)
  show(if(true && decide (m%18446744073709551616≥9223372036854775808))=true then m%18446744073709551616-18446744073709551616 else m%18446744073709551616)≤m
  split
  ·omega
  ·rename_i hn
   simp at hn;omega
theorem getD_at{l:List Int}{i:Nat}(h:i<l.length):l.getD i 0=l[i]:=by simp [List.getD_eq_getElem?_getD,h]
def choice(p:List U16)(k:Int):Int:=if between k 0 (IntKind.i64.wrap ((p.length:Int) -1))=true then(p.map (·.1)).getD k.toNat 0 else 0
theorem choice_range(p:List U16)(k:Int):0≤choice p k∧choice p k≤65535:=by
 unfold choice
 split
 ·by_cases h:k.toNat<p.length
  ·rw [getD_at (by simpa using h),List.getElem_map]
   exact p[k.toNat].2
  ·rw [List.getD_eq_getElem?_getD,List.getElem?_eq_none (by simp;omega)]
   decide
 ·decide
section
end
section
variable {main:Bool}{J:Goroutine→Mem→Prop}(hJ:Closed prog main J)
include hJ
theorem choiceR_c{v:Value}{ro:RO}{p:List U16}(hp:Ls uc 1 ro v p)(k:Int):CallP prog J (fnv 144) [v, .int .i64 k] ro (.int .i64 (choice p k)):=by
 have hp0:=hp
 obtain⟨pb,pc,rfl⟩:=hp.form
 refine CallP.intro hJ (by kernel_rfl) fun c cs tail hret=>enter_X (n:=15) func144 U U (Nl U) ?_
 have C:Ctx prog main J (bf 144 .normal):=⟨hJ,by decide⟩
 refine Xr C U U<|Ad C U U<|Xs C<|Xr C U U<|Rm C U U<|Rm C U U<|Rn C U U runUnderlying52<|R.int C U U U U b_subW<|R.callP C U U U U (betweenR_c hJ _ _ _ _)<|R.done C<|X.cond C.1 U (fun hq=>?_) (fun hq=>?_)
 ·have hq':=hq
  simp only [between,Bool.and_eq_true,decide_eq_true_eq] at hq'
  have hw:=wrap_le (m:=(p.length:Int) -1) (by omega)
  have hki:k.toNat<p.length:=by omega
  obtain⟨pp,off,cap,ll,t,fq,hsl,hrop,hsub⟩:=hp0.at uc_len (by omega)
  cases hsl
  have hx:ll[off+k.toNat*1]? =some (.int .u16 p[k.toNat].1):=by have:=(hsub k.toNat hki).get 0 (by decide);simpa [uc] using this
  have hr:=p[k.toNat].2
  have hce:choice p k=p[k.toNat].1:=by rw [choice,if_pos hq,getD_at (by simpa using hki),List.getElem_map]
  rw [hce] at hret
  generalize p[k.toNat].1=z at hx hr hret
  refine Xr C U U<|Rm C U U<|Rm C U U<|R.indexAddr C U U U U runUnderlying52 sizeOf235 hq'.1 (by omega)<|R.loadOneRo C U U U isAgg235 hrop hx<|R.convInt C U U U runUnderlying235 runUnderlying3 (wrap64 (by omega) (by omega))<|Ad C U U<|Xt C func144<|Hp hret ?_
  rfl
 ·refine X.skip C.1<|Xr C U U<|Ad C U U<|Xt C func144<|Hp hret ?_
  rw [choice,if_neg (by rw [hq];simp)];rfl
end
end Go.Lg.B
namespace Go.Lg.B
open Go Go.Conc Go.Lg Go.Proofs Go.Proofs.Tryz
theorem shOk_iff{ng:Nat}{s:Nat→Nat→Bool}:∀ {z gs:List Int},shOk ng s gs z=true↔(∀g∈z,0≤g∧g<(ng:Int))∧z.Nodup∧(∀g∈z,g∉gs)∧∀ (i:Nat) (g:Int),z[i]? =some g→s g.toNat (gs.length+i)=true
 | [],_=>by simp [shOk]
 |x::z,gs=>by
  simp only [shOk,Bool.and_eq_true,between_iff,Bool.not_eq_true',decide_eq_false_iff_not,shOk_iff (z:=z),List.nodup_cons]
  constructor
  ·rintro⟨h1,h2,h3,h4,h5,h6,h7⟩
   refine⟨fun g hg=>?_,⟨fun hx=>h6 x hx (by simp),h5⟩,fun g hg=>?_,fun i g hg=>?_⟩
   ·rcases List.mem_cons.1 hg with rfl|hg
    ·omega
    ·exact h4 g hg
   ·rcases List.mem_cons.1 hg with rfl|hg
    ·exact h2
    ·exact fun hd=>h6 g hg (by simp [hd])
   ·cases i with
    |zero=>simp at hg;subst hg;simpa using h3
    |succ i=>
     have:=h7 i g (by simpa using hg)
     rw [List.length_append,List.length_singleton] at this
     rw [show gs.length+(i+1)=gs.length+1+i by omega];exact this
  ·rintro⟨h1,⟨h2,h3⟩,h4,h5⟩
   have hx:=h1 x (by simp)
   refine⟨by omega,h4 x (by simp),by simpa using h5 0 x rfl,fun g hg=>h1 g (by simp [hg]),h3,fun g hg hd=>?_,fun i g hg=>?_⟩
   ·rcases List.mem_append.1 hd with hd|hd
    ·exact h4 g (by simp [hg]) hd
    ·rw [List.mem_singleton] at hd;subst hd;exact h2 hg
   ·have:=h5 (i+1) g (by simpa using hg)
    rw [List.length_append,List.length_singleton,show gs.length+1+i=gs.length+(i+1) by omega];exact this
theorem how_two'{n all:Nat}:how n all=2↔n=0:=by
 unfold how
 split
 ·simp_all
 ·split
  ·simp_all
  ·simp_all
def chosen(x:Rc)(n:Int):Int:=x.lo+n% (x.hi-x.lo+1)
theorem chosen_in{x:Rc}(h:x.lo≤x.hi)(n:Int):x.lo≤chosen x n∧chosen x n≤x.hi:=by
 unfold chosen
 have:=Int.emod_nonneg n (show x.hi-x.lo+1≠0 by omega)
 have:=Int.emod_lt_of_pos n (show 0<x.hi-x.lo+1 by omega)
 omega
def ksTo(b:Bk)(p:List U16)(n:Nat):List Int:=(List.range n).map fun i:Nat=>chosen (b.part i).r (choice p i)
def wsTo(b:Bk)(p:List U16)(n:Nat):List Int:=(List.range n).map fun i:Nat=>chosen (b.piece i).r (choice p ((i:Int)+4))
theorem ksTo_len(b:Bk)(p:List U16)(n:Nat):(ksTo b p n).length=n:=by simp [ksTo]
theorem wsTo_len(b:Bk)(p:List U16)(n:Nat):(wsTo b p n).length=n:=by simp [wsTo]
theorem ksTo_succ(b:Bk)(p:List U16)(n:Nat):ksTo b p (n+1)=ksTo b p n++ [chosen (b.part n).r (choice p n)]:=by simp [ksTo,List.range_succ]
theorem wsTo_succ(b:Bk)(p:List U16)(n:Nat):wsTo b p (n+1)=wsTo b p n++ [chosen (b.piece n).r (choice p ((n:Int)+4))]:=by simp [wsTo,List.range_succ]
def realK(b:Bk)(p:List U16):Ks:=⟨ksTo b p b.ps.length,wsTo b p b.cs.length⟩
def Bk.truly(b:Bk)(ks:List Int):Bk:={b with ts:=b.ts.map fun t=>{t with held:=lifts b ks t.g t.l} }
theorem truly_check{b:Bk}(hch:checkBook b=0)(ks:List Int):checkBook (b.truly ks)=0:=by
 have hb:=good_of hch
 refine check_ts hch (by rw [List.length_map];exact hb.nt) fun t ht=>?_
 obtain⟨s,hs,rfl⟩:=List.mem_map.1 ht
 exact hb.ts s hs
theorem part_get{b:Bk}{i:Nat}{q:Pt}(h:b.ps[i]? =some q):b.part (i:Int)=q:=by
 simp [Bk.part,List.getD_eq_getElem?_getD,h]
theorem piece_get{b:Bk}{i:Nat}{q:Pc}(h:b.cs[i]? =some q):b.piece (i:Int)=q:=by
 simp [Bk.piece,List.getD_eq_getElem?_getD,h]
theorem real_case{b:Bk}(hch:checkBook b=0)(p:List U16):(((realK b p).ks,(realK b p).ws):Tn)∈cases (b.truly (realK b p).ks):=by
 have hb:=good_of hch
 refine case_iff.2 ⟨⟨ksTo_len _ _ _,fun i x q hx hq=>?_⟩,⟨wsTo_len _ _ _,fun i x q hx hq=>?_⟩, ?_⟩
 ·have hf:=hb.ps q (List.mem_of_getElem? hq)
  unfold Pt.fine at hf
  have hi:i<b.ps.length:=(List.getElem?_eq_some_iff.1 hq).1
  have:x=chosen (b.part i).r (choice p i):=by
   simp only [realK,ksTo,List.getElem?_map,List.getElem?_range hi,Option.map_some,Option.some.injEq] at hx
   exact hx.symm
  rw [this,part_get (b:=b) hq]
  exact chosen_in (by omega) _
 ·have hf:=hb.cs q (List.mem_of_getElem? hq)
  unfold Pc.fine at hf
  have hi:i<b.cs.length:=(List.getElem?_eq_some_iff.1 hq).1
  have:x=chosen (b.piece i).r (choice p ((i:Int)+4)):=by
   simp only [realK,wsTo,List.getElem?_map,List.getElem?_range hi,Option.map_some,Option.some.injEq] at hx
   exact hx.symm
  rw [this,piece_get (b:=b) hq]
  exact chosen_in (by omega) _
 ·have:right (b.truly (realK b p).ks) (realK b p).ks=(b.ts.map fun t=>{t with held:=lifts b (realK b p).ks t.g t.l}).all fun t=>lifts b (realK b p).ks t.g t.l==t.held:=right_ts _
  rw [this,List.all_eq_true]
  intro t ht
  obtain⟨s,_,rfl⟩:=List.mem_map.1 ht
  simp
structure RealOk(d:Bk)(k:Ks):Prop where
 ch:checkBook d=0
 cs:((k.ks,k.ws):Tn)∈cases d
theorem RealOk.ne{d:Bk}{k:Ks}(h:RealOk d k):cases d≠ []:=fun e=>by have:=h.cs;rw [e] at this;cases this
theorem RealOk.lens{d:Bk}{k:Ks}(h:RealOk d k):k.ks.length=d.ps.length∧k.ws.length=d.cs.length:=⟨(case_iff.1 h.cs).1.1,(case_iff.1 h.cs).2.1.1⟩
theorem RealOk.isCase{d:Bk}{k:Ks}(h:RealOk d k):isCaseOf d k=(true,0):=by
 have hb:=good_of h.ch
 have h1:=(mem_cases.1 h.cs).1
 have h2:=(mem_cases.1 h.cs).2
 obtain⟨l1,l2⟩:=h.lens
 have e:handedH d k=0:=by
  unfold handedH
  rw [if_neg (by omega),if_neg]
  rw [Bool.or_eq_true,not_or]
  refine⟨?_, ?_⟩
  ·rw [Bool.not_eq_true,List.any_eq_false]
   intro x hx
   have:=between_iff.2 (bearsL_bd hb h1 x hx)
   simp [this]
  ·rw [Bool.not_eq_true,List.any_eq_false]
   intro x hx
   have:=loadH_zero.2 (weightsL_bd hb h2 x hx)
   simp [this]
 have e2:lookedH d k=0:=by rw [lookedH,if_neg (fun e=>e h.ch),e]
 rw [isCaseOf,if_neg (fun e=>e e2),decide_eq_true h.cs]
theorem RealOk.clash{d:Bk}{k:Ks}(h:RealOk d k):clashR d=([],0):=by rw [clashR,if_neg (fun e=>e h.ch),if_pos h.ne]
theorem RealOk.bears{d:Bk}{k:Ks}(h:RealOk d k)(i:Int):(bearsOf d i).contains (nth k.ks i)=true:=by
 rw [List.contains_iff_mem];exact bearsOf_mem.2 ⟨_,h.cs,rfl⟩
theorem RealOk.weights{d:Bk}{k:Ks}(h:RealOk d k)(i:Int):(weightsOf d i).contains (nth k.ws i)=true:=by
 rw [List.contains_iff_mem];exact weightsOf_mem.2 ⟨_,h.cs,rfl⟩
theorem RealOk.sure{d:Bk}{k:Ks}(h:RealOk d k){g p:Int}(hm:may d g p=1):lifts d k.ks g (nth k.ws p)=true:=by
 rw [may,how_one (List.length_pos_iff.2 h.ne),filter_all,List.all_eq_true] at hm
 exact hm _ h.cs
theorem RealOk.said{d:Bk}{k:Ks}(h:RealOk d k)(g p:Int):(may d g p==0||(may d g p==1)==lifts d k.ks g (nth k.ws p))=true:=by
 by_cases h1:may d g p=1
 ·rw [h1,h.sure h1];rfl
 ·have hm:may d g p=0∨may d g p=2:=by
   unfold may how at h1⊢
   split
   ·exact .inr rfl
   ·split
    ·rename_i h2 h3
     rw [if_neg h2,if_pos h3] at h1;exact absurd rfl h1
    ·exact .inl rfl
  rcases hm with h2|h2
  ·rw [h2];rfl
  ·rw [h2]
   have hn:lifts d k.ks g (nth k.ws p)=false:=by
    rw [may,how_two',List.length_eq_zero_iff,List.filter_eq_nil_iff] at h2
    have:=h2 _ h.cs
    simpa using this
   rw [hn];rfl
theorem RealOk.most{d:Bk}{k:Ks}(h:RealOk d k){g:Int}(hg:0≤g∧g<d.gs.length):lifts d k.ks g (Go.Lg.B.most d g)=true:=by
 obtain⟨a1,a2,a3⟩:=most_law (good_of h.ch) hg.1 hg.2
 have:=(a3 _ a1 a2).2 (Int.le_refl _)
 unfold allLift at this
 rw [List.all_eq_true] at this
 exact this (k.ks,k.ws) h.cs
theorem weak_most{d:Bk}(hb:d.good){g n:Int}(hg:0≤g∧g<d.gs.length)(hn:1≤n∧n≤99):(weak d g n).length=0↔n≤most d g:=by
 obtain⟨_,_,a3⟩:=most_law hb hg.1 hg.2
 rw [List.length_eq_zero_iff,weak_nil (by omega),a3 n (by omega) hn.2]
theorem RealOk.weak{d:Bk}{k:Ks}(h:RealOk d k){g n x:Int}(hx:x∈gives d k.ks g n):(Go.Lg.B.weak d g n).contains x=true:=by
 have hm:x∈Go.Lg.B.weak d g n:=weak_mem.2 ⟨(k.ks,k.ws),h.cs,hx⟩
 exact List.contains_iff_mem.2 hm
theorem RealOk.few{d:Bk}{k:Ks}(h:RealOk d k){p:Int}(hp:0≤p∧p<d.cs.length):
  ((fewestR d).1.getD []).Pairwise (· < ·)∧(∀g∈(fewestR d).1.getD [],0≤g∧g<(d.gs.length:Int))∧((fewestR d).1.isSome=true→((fewestR d).1.getD []).any (fun g=>lifts d k.ks g (nth k.ws p))=true)∧
  ((shareR d).1.isSome=true→(fewestR d).1.isSome=true∧((shareR d).1.getD []).length=d.cs.length∧∀g,((shareR d).1.getD [])[p.toNat]? =some g→(0≤g∧g<d.gs.length)∧lifts d k.ks g (nth k.ws p)=true):=by
 have hne:=h.ne
 have e:fewestR d=(fewestOf d.gs.length (lifted d (sureM d 0)),0):=by rw [fewestR,open_zero h.ch hne];rfl
 have ff:=fewest_found hne
 have hpn:((p.toNat:Nat):Int)=p:=by omega
 have hsome:(shareR d).1.isSome=true→(fewestR d).1.isSome=true∧((shareR d).1.getD []).length=d.cs.length∧∀g,((shareR d).1.getD [])[p.toNat]? =some g→(0≤g∧g<d.gs.length)∧lifts d k.ks g (nth k.ws p)=true:=fun hs=>by
  rcases shareR_law h.ch hne with⟨e2,_⟩|⟨z,e2,z1,z2,_⟩
  ·rw [e2] at hs;cases hs
  ·rw [e2]
   obtain⟨s1,_,_,s4⟩:=shOk_iff.1 z2
   have hmay:∀ (j:Nat) (g:Int),z[j]? =some g→may d g j=1:=fun j g hj=>by
    have h1:=s4 j g hj
    have h2:=s1 g (List.mem_of_getElem? hj)
    simp only [List.length_nil,Nat.zero_add,mayS] at h1
    rw [show((g.toNat:Nat):Int)=g by omega] at h1
    simpa using h1
   refine⟨?_,z1,fun g hg=>⟨?_, ?_⟩⟩
   ·rw [e]
    show(fewestOf _ _).isSome=true
    rw [ff]
    unfold allGears liftedL liftsOne
    rw [List.all_eq_true]
    intro j hj
    have hj:=List.mem_range.1 hj
    rw [List.any_eq_true]
    have hzj:z[j]? =some z[j]:=List.getElem?_eq_getElem (by omega)
    have h2:=s1 _ (List.mem_of_getElem? hzj)
    exact⟨z[j],mem_rz.2 (by omega),by simpa using hmay j _ hzj⟩
   ·exact s1 g (List.mem_of_getElem? hg)
   ·have:=hmay _ _ hg
    rw [hpn] at this
    exact h.sure this
 refine⟨?_, ?_, ?_,hsome⟩
 ·rw [e]
  rcases fewest_law hne with⟨h1,_⟩|⟨y,h1,h2,_⟩
  ·rw [h1];exact .nil
  ·rw [h1];exact h2
 ·rw [e]
  rcases fewest_law hne with⟨h1,_⟩|⟨y,h1,_,h3,_⟩
  ·rw [h1];intro g hg;cases hg
  ·rw [h1];exact h3
 ·rw [e]
  intro hs
  rcases fewest_law hne with⟨h1,_⟩|⟨y,h1,_,_,h4,_⟩
  ·simp only at hs;rw [h1] at hs;cases hs
  ·simp only
   rw [h1]
   unfold liftedL at h4
   rw [List.all_eq_true] at h4
   have:=h4 p.toNat (List.mem_range.2 (by omega))
   unfold liftsOne at this
   rw [List.any_eq_true] at this
   obtain⟨g,hg,hm⟩:=this
   rw [Option.getD_some,List.any_eq_true]
   refine⟨g,hg,h.sure ?_⟩
   rw [hpn] at hm
   simpa using hm
variable {main:Bool}{J:Goroutine→Mem→Prop}(hJ:Closed prog main J)
include hJ
theorem chosenR_c(x:Rc)(n:Int)(hx:0≤x.lo∧x.lo≤x.hi∧x.hi≤99)(hn:0≤n∧n≤65535)(ro:RO):CallP prog J (fnv 143) [x.val, .int .i64 n] ro (.int .i64 (chosen x n)):=by
 have h1:=Int.emod_nonneg n (show x.hi-x.lo+1≠0 by omega)
 have h2:=Int.emod_lt_of_pos n (show 0<x.hi-x.lo+1 by omega)
 refine CallP.intro hJ (by kernel_rfl) fun c cs tail hret=>enter_X (n:=16) func143 U U (Nl U) ?_
 have C:Ctx prog main J (bf 143 .normal):=⟨hJ,by decide⟩
 refine Xr C U U<|R.box C U U U U fun p2=>Ad C U U<|Xs C<|Xd C fun hok=>Df (off':=0) C 0 hok U U U runUnderlying65 U sizeOf3 U<|D1 C 1 hok U U isAgg3 (by repeat constructor) U<|Dm C 2 hok U U U<|Df (off':=1) C 3 hok U U U runUnderlying65 U sizeOf3 U<|D1 C 4 hok U U isAgg3 (by repeat constructor) U<|Df (off':=0) C 5 hok U U U runUnderlying65 U sizeOf3 U<|D1 C 6 hok U U isAgg3 (by repeat constructor) U<|Di C 7 hok U U U U U (b_sub (by omega) (by omega))<|Di C 8 hok U U U U U (b_add (by omega) (by omega))<|Di C 9 hok U U U U U (b_remP (by omega) (by omega))<|Di C 10 hok U U U U U (b_add (by omega) (by omega))<|Da C 11 hok U U<|D.done C hok (by kernel_rfl)<|Xt C func143<|Hp hret ?_
 rfl
theorem saidR_c(u:Int)(is:Bool)(ro:RO):CallP prog J (fnv 58) [.int .i64 u, .bool is] ro (.bool (u==0||(u==1)==is)):=by
 refine CallP.intro hJ (by kernel_rfl) fun c cs tail hret=>enter_X (n:=13) func58 U U (Nl U) ?_
 have C:Ctx prog main J (bf 58 .normal):=⟨hJ,by decide⟩
 by_cases h:u=0
 ·have _:=h
  refine Xr C U U<|Ad C U U<|Xr C U U<|Rm C U U<|R.int C U U U U b_eql<|R.fixv (t:=6) (v':= .bool true) U (Bv (by simp [h])) ?_;refine Rm C U U<|R.pass C U U<|R.pass C U U<|R.pass C U U<|R.pass C U U<|R.pickT C U U U U<|Ad C U U<|Xt C func58<|Hp hret ?_
  rw [h];rfl
 ·have hu:(u==0)=false:=by simpa using h
  refine Xr C U U<|Ad C U U<|Xr C U U<|Rm C U U<|R.int C U U U U b_eql<|R.fixv (t:=6) (v':= .bool false) U (Bv (by simp [h])) ?_;refine Rm C U U<|Rm C U U<|R.int C U U U U b_eql<|Rm C U U<|R.eqBool C U U U U runUnderlying4<|R.pickF C U U U U<|Ad C U U<|Xt C func58<|Hp hret ?_
  rw [hu];rfl
theorem realR_c{b:Bk}{v vk:Value}{ro:RO}{p:List U16}(hv:BkV ro v b)(hb:b.good)(hkk:Ls uc 1 ro vk p):CallR prog J (fnv 52) [v,vk] ro (fun w ro'=>KsV ro' w (realK b p)):=by
 have hvv:=hv
 obtain⟨vp,vg,vc,vt,rfl,hp,hg,hc,ht⟩:=hv
 obtain⟨pb,pc,rfl⟩:=hp.form
 obtain⟨gb,gc,rfl⟩:=hg.form
 obtain⟨cb,cc,rfl⟩:=hc.form
 obtain⟨tb,tc,rfl⟩:=ht.form
 have hnp:=hb.np
 have hnc:=hb.nc
 have hk0:=hkk
 obtain⟨kb,kc,rfl⟩:=hkk.form
 refine CallR.intro hJ (by kernel_rfl) fun c cs tail hret=>enter_X (n:=54) func52 U U (Nl U) ?_
 have C:Ctx prog main J (bf 52 .normal):=⟨hJ,by decide⟩
 refine Xr C U U<|R.box C U U U U fun p2=>R.alloc C U U zeroValue30 U fun p4=>R.done C<|Xr C U U<|R.alloc C U U zeroValue30 U fun p5=>R.done C<|Xs C<|Xr C U U<|Ad C U U<|X.block C.1<|X.loopI (ι:=Nat×Value×List (Nat×Obj)) C.1 (fun s=>s.1≤b.ps.length∧Buf 3 1 [] s.2.1 ((ksTo b p s.1).flatMap ic) s.2.2) (fun s=> [(1, .slice kb p.length kc),(2, .pointer (some ⟨p2,0,none⟩)),(4, .pointer (some ⟨p4,0,none⟩)),(5, .pointer (some ⟨p5,0,none⟩)),(6, .int .i64 (s.1:Int))])
  (fun s=>⟨ro,(p5, .cells [s.2.1, .slice none 0 0].toArray 30 (0,0))::(s.2.2++((p4, .cells [.slice none 0 0, .slice none 0 0].toArray 30 (0,0))::(p2, .cells [.int .i64 b.w, .slice pb b.ps.length pc, .slice gb b.gs.length gc, .slice cb b.cs.length cc, .slice tb b.ts.length tc].toArray 27 (0,0))::tail))⟩) (fun s=>b.ps.length-s.1) (0, .slice none 0 0, []) ⟨Nat.zero_le _, .nil⟩ rfl ⟨U,U,U,U,U,trivial⟩ fun s hs hnext=>?_
 obtain⟨i,v0,own0⟩:=s
 obtain⟨hi,hbuf⟩:=hs
 simp only at hi hbuf hnext⊢
 obtain⟨bs0,cap0,rfl⟩:=hbuf.form (by decide)
 refine Xs C<|Xr C U U<|Rm C U U<|Rf C 1 U U runUnderlying27 U sizeOf22<|R.loadOne C U U U isAgg22 (by repeat (first|exact Mh|apply Mt|apply List.mem_append_right)) U<|Rn C U U runUnderlying22<|R.int C U U U U b_lss<|R.done C<|Xk C U (fun hlt=>?_) (fun hlt=>?_)
 ·have hi':i<b.ps.length:=by omega
  obtain⟨pp,off,cap,ll,ty,fq,hsl,hrop,hsub⟩:=hp.at Pt.len (by omega)
  cases hsl
  have hpi:b.part (i:Int)=b.ps[i]:=part_get (List.getElem?_eq_getElem hi')
  have hf:=hb.ps _ (List.getElem_mem hi')
  rw [←hpi] at hf
  unfold Pt.fine at hf
  have hrc:Sub (off+i*4+2) 2 ll [.int .i64 (b.part i).r.lo, .int .i64 (b.part i).r.hi]:=by
   have:=sub_part (k:=2) (m:=2) (hsub i hi') (by decide) (Pt.len _)
   rw [←hpi] at this
   exact this
  have hcr:=choice_range p (i:Int)
  have hstep:=ksTo_succ b p i
  have hfl:((ksTo b p i).flatMap ic).length=i:=by rw [flat_len,ksTo_len]
  generalize(b.part (i:Int)).r=rr at hf hrc hstep
  have hin:=chosen_in (x:=rr) (by omega) (choice p (i:Int))
  refine X.skip C.1<|Xs C<|X.block C.1<|Xd C fun hok=>Df (off':=0) C 0 hok U U U runUnderlying30 U sizeOf28 U<|Dl 1 hok (fun _ _ A h=>R.loadOne C U (A.w U U) (A.x U U) isAgg28 (by repeat (first|exact Mh|apply Mt|apply List.mem_append_right)) U h)<|Df (off':=1) C 2 hok U U U runUnderlying27 U sizeOf22 U<|Dl 3 hok (fun _ _ A h=>R.loadOne C U (A.w U U) (A.x U U) isAgg22 (by repeat (first|exact Mh|apply Mt|apply List.mem_append_right)) U h)<|Dm C 4 hok U U U<|Dx C 5 hok U U U runUnderlying22 sizeOf67<|Df C 6 hok U U U runUnderlying67 U sizeOf65 U<|Dl 7 hok (fun _ _ A h=>R.loadAggRo C U (A.w U U) (A.x U U) isAgg65 sizeOf65 hrop hrc h)<|Dm C 8 hok U U U<|Dm C 9 hok U U U<|De 10 (some 25) [true,true,true] hok (fun _ _ A hk=>?_)
  refine R.callP C U (A.w U U) (A.x U U) (A.s U U) (choiceR_c hJ hk0 (i:Int)) (hk _ _ ⟨(QFs.cons (QF.of U (fun _ _ A h=>R.loadAggRo C U (A.w U U) (A.x U U) isAgg65 sizeOf65 hrop hrc h)) (QFs.cons (QF.of U (fun _ _ A h=>R.loadOne C U (A.w U U) (A.x U U) isAgg22 (by repeat (first|exact Mh|apply Mt|apply List.mem_append_right)) U h)) (QFs.cons (QF.of U (fun _ _ A h=>R.loadOne C U (A.w U U) (A.x U U) isAgg28 (by repeat (first|exact Mh|apply Mt|apply List.mem_append_right)) U h)) QFs.nil))), ?_⟩)
  refine De 11 (some 26) [false,false,true] hok (fun _ _ A hk=>?_)
  refine R.callP C U (A.w U U) (A.x U U) (A.s U U) (chosenR_c hJ rr _ (by omega) hcr _) (hk _ _ ⟨(QFs.cons (QF.of U (fun _ _ A h=>R.loadOne C U (A.w U U) (A.x U U) isAgg28 (by repeat (first|exact Mh|apply Mt|apply List.mem_append_right)) U h)) QFs.nil), ?_⟩)
  refine De 12 (some 27) [true] hok (fun _ _ A hk=>?_)
  refine R.buildSlice C (vs:=_) U (A.w U U) (show pvals _ _=some (numbered 0 [_]) from(A.p U U)) U runUnderlying28 sizeOf3 zeroValue3 (by decide) (Cat.one U U) fun p27=>hk _ _ ⟨(QFs.cons (QF.of U (fun _ _ A h=>R.loadOne C U (A.w U U) (A.x U U) isAgg28 (by repeat (first|exact Mh|apply Mt|apply List.mem_append_right)) U h)) QFs.nil), ?_⟩
  refine De 13 (some 28) [false] hok (fun _ _ A hk=>?_)
  refine R.append2 (kk:=1) C [_] U (A.w U U) (A.x U U) (A.x U U) runUnderlying28 runUnderlying28 (fun _=>nofun) (show prog.info? 3=some Tryz.t3 by kernel_rfl) U U U (by decide) (by decide) (hbuf.app _) U U (by(try simp only [List.length_append,List.length_cons,List.length_nil]);omega) fun v' own' hb'=>hk _ _ ⟨QFs.nil, ?_⟩
  refine Df (off':=0) C 14 hok U U U runUnderlying30 U sizeOf28 U<|De 15 none [] hok (fun _ _ A hk=>?_)
  obtain⟨own1,rfl,hb1⟩:=hb'.unapp (tail:= [])
  refine R.store C U (A.w U U) (A.x U U) (A.x U U) sizeOf28 hb'.cells1 U hb'.ones1 (by repeat (first|exact Uh|apply Ut|apply Upd.app)) (.here .nil) (hk undef _ ⟨QFs.nil, ?_⟩)
  refine D.done C hok (by kernel_rfl)<|X.inBlock C.1<|X.region C U U<|Rm C U U<|Ra C U U U<|Ad C U U ?_
  have hcat:(ksTo b p i).flatMap ic++ [Value.int .i64 (chosen rr (choice p (i:Int)))]=(ksTo b p (i+1)).flatMap ic:=by rw [hstep,List.flatMap_append];rfl
  rw [hcat] at hb1
  refine X.weaken ?_ (hnext (i+1,v',own1) ⟨hi',hb1⟩ (by simp only;omega))
  exact⟨rfl,rfl,rfl,rfl,by simp [look],trivial⟩
 ·obtain rfl:i=b.ps.length:=by omega
  refine X.exit C.1 U<|Xs C<|Xs C<|X.finishA [_] C.1 ic_len (by decide) (hbuf.app _) fun ro1 hl1 hls1=>?_
  have hc1:=hc.mono hl1
  have hk1:=hk0.mono hl1
  obtain⟨kb1,kc1,hkv⟩:=hls1.form
  rw [hkv]
  rw [hkv] at hls1
  refine X.region C U U<|Ad C U U<|X.block C.1<|X.loopI (ι:=Nat×Value×List (Nat×Obj)) C.1 (fun s=>s.1≤b.cs.length∧Buf 3 1 [] s.2.1 ((wsTo b p s.1).flatMap ic) s.2.2) (fun s=> [(1, .slice kb p.length kc),(2, .pointer (some ⟨p2,0,none⟩)),(4, .pointer (some ⟨p4,0,none⟩)),(5, .pointer (some ⟨p5,0,none⟩)),(7, .int .i64 (s.1:Int))])
   (fun s=>⟨ro1,(p5, .cells [.slice kb1 (ksTo b p b.ps.length).length kc1,s.2.1].toArray 30 (0,0))::(s.2.2++((p4, .cells [.slice none 0 0, .slice none 0 0].toArray 30 (0,0))::(p2, .cells [.int .i64 b.w, .slice pb b.ps.length pc, .slice gb b.gs.length gc, .slice cb b.cs.length cc, .slice tb b.ts.length tc].toArray 27 (0,0))::tail))⟩) (fun s=>b.cs.length-s.1) (0, .slice none 0 0, []) ⟨Nat.zero_le _, .nil⟩ rfl ⟨U,U,U,U,U,trivial⟩ fun s hs hnext=>?_
  obtain⟨i,v0,own0⟩:=s
  obtain⟨hi,hbuf⟩:=hs
  simp only at hi hbuf hnext⊢
  obtain⟨bs0,cap0,rfl⟩:=hbuf.form (by decide)
  refine Xs C<|Xr C U U<|Rm C U U<|Rf C 3 U U runUnderlying27 U sizeOf24<|R.loadOne C U U U isAgg24 (by repeat (first|exact Mh|apply Mt|apply List.mem_append_right)) U<|Rn C U U runUnderlying24<|R.int C U U U U b_lss<|R.done C<|Xk C U (fun hlt=>?_) (fun hlt=>?_)
  ·have hi':i<b.cs.length:=by omega
   obtain⟨pp,off,cap,ll,ty,fq,hsl,hrop,hsub⟩:=hc1.at Pc.len (by omega)
   cases hsl
   have hpi:b.piece (i:Int)=b.cs[i]:=piece_get (List.getElem?_eq_getElem hi')
   have hf:=hb.cs _ (List.getElem_mem hi')
   rw [←hpi] at hf
   unfold Pc.fine at hf
   have hrc:Sub (off+i*3+1) 2 ll [.int .i64 (b.piece i).r.lo, .int .i64 (b.piece i).r.hi]:=by
    have:=sub_part (k:=1) (m:=2) (hsub i hi') (by decide) (Pc.len _)
    rw [←hpi] at this
    exact this
   have hcr:=choice_range p ((i:Int)+4)
   have hstep:=wsTo_succ b p i
   have hfl:((wsTo b p i).flatMap ic).length=i:=by rw [flat_len,wsTo_len]
   generalize(b.piece (i:Int)).r=rr at hf hrc hstep
   have hin:=chosen_in (x:=rr) (by omega) (choice p ((i:Int)+4))
   refine X.skip C.1<|Xs C<|X.block C.1<|Xd C fun hok=>Df (off':=1) C 0 hok U U U runUnderlying30 U sizeOf28 U<|Dl 1 hok (fun _ _ A h=>R.loadOne C U (A.w U U) (A.x U U) isAgg28 (by repeat (first|exact Mh|apply Mt|apply List.mem_append_right)) U h)<|Df (off':=3) C 2 hok U U U runUnderlying27 U sizeOf24 U<|Dl 3 hok (fun _ _ A h=>R.loadOne C U (A.w U U) (A.x U U) isAgg24 (by repeat (first|exact Mh|apply Mt|apply List.mem_append_right)) U h)<|Dm C 4 hok U U U<|Dx C 5 hok U U U runUnderlying24 sizeOf79<|Df C 6 hok U U U runUnderlying79 U sizeOf65 U<|Dl 7 hok (fun _ _ A h=>R.loadAggRo C U (A.w U U) (A.x U U) isAgg65 sizeOf65 hrop hrc h)<|Dm C 8 hok U U U<|Dm C 9 hok U U U<|Di C 10 hok U U U U U (b_add (by omega) (by omega))<|De 11 (some 48) [true,true,true] hok (fun _ _ A hk=>?_)
   refine R.callP C U (A.w U U) (A.x U U) (A.s U U) (choiceR_c hJ hk1 ((i:Int)+4)) (hk _ _ ⟨(QFs.cons (QF.of U (fun _ _ A h=>R.loadAggRo C U (A.w U U) (A.x U U) isAgg65 sizeOf65 hrop hrc h)) (QFs.cons (QF.of U (fun _ _ A h=>R.loadOne C U (A.w U U) (A.x U U) isAgg24 (by repeat (first|exact Mh|apply Mt|apply List.mem_append_right)) U h)) (QFs.cons (QF.of U (fun _ _ A h=>R.loadOne C U (A.w U U) (A.x U U) isAgg28 (by repeat (first|exact Mh|apply Mt|apply List.mem_append_right)) U h)) QFs.nil))), ?_⟩)
   refine De 12 (some 49) [false,false,true] hok (fun _ _ A hk=>?_)
   refine R.callP C U (A.w U U) (A.x U U) (A.s U U) (chosenR_c hJ rr _ (by omega) hcr _) (hk _ _ ⟨(QFs.cons (QF.of U (fun _ _ A h=>R.loadOne C U (A.w U U) (A.x U U) isAgg28 (by repeat (first|exact Mh|apply Mt|apply List.mem_append_right)) U h)) QFs.nil), ?_⟩)
   refine De 13 (some 50) [true] hok (fun _ _ A hk=>?_)
   refine R.buildSlice C (vs:=_) U (A.w U U) (show pvals _ _=some (numbered 0 [_]) from(A.p U U)) U runUnderlying28 sizeOf3 zeroValue3 (by decide) (Cat.one U U) fun p50=>hk _ _ ⟨(QFs.cons (QF.of U (fun _ _ A h=>R.loadOne C U (A.w U U) (A.x U U) isAgg28 (by repeat (first|exact Mh|apply Mt|apply List.mem_append_right)) U h)) QFs.nil), ?_⟩
   refine De 14 (some 51) [false] hok (fun _ _ A hk=>?_)
   refine R.append2 (kk:=1) C [_] U (A.w U U) (A.x U U) (A.x U U) runUnderlying28 runUnderlying28 (fun _=>nofun) (show prog.info? 3=some Tryz.t3 by kernel_rfl) U U U (by decide) (by decide) (hbuf.app _) U U (by(try simp only [List.length_append,List.length_cons,List.length_nil]);omega) fun v' own' hb'=>hk _ _ ⟨QFs.nil, ?_⟩
   refine Df (off':=1) C 15 hok U U U runUnderlying30 U sizeOf28 U<|De 16 none [] hok (fun _ _ A hk=>?_)
   obtain⟨own1,rfl,hb1⟩:=hb'.unapp (tail:= [])
   refine R.store C U (A.w U U) (A.x U U) (A.x U U) sizeOf28 hb'.cells1 U hb'.ones1 (by repeat (first|exact Uh|apply Ut|apply Upd.app)) (.skip (.here .nil)) (hk undef _ ⟨QFs.nil, ?_⟩)
   refine D.done C hok (by kernel_rfl)<|X.inBlock C.1<|X.region C U U<|Rm C U U<|Ra C U U U<|Ad C U U ?_
   have hcat:(wsTo b p i).flatMap ic++ [Value.int .i64 (chosen rr (choice p ((i:Int)+4)))]=(wsTo b p (i+1)).flatMap ic:=by rw [hstep,List.flatMap_append];rfl
   rw [hcat] at hb1
   refine X.weaken ?_ (hnext (i+1,v',own1) ⟨hi',hb1⟩ (by simp only;omega))
   exact⟨rfl,rfl,rfl,rfl,by simp [look],trivial⟩
  ·obtain rfl:i=b.cs.length:=by omega
   refine X.exit C.1 U<|Xs C<|X.finishA [_] C.1 ic_len (by decide) (hbuf.app _) fun ro2 hl2 hls2=>?_
   obtain⟨kb2,kc2,hkv2⟩:=hls2.form
   rw [hkv2]
   rw [hkv2] at hls2
   refine X.region C U U<|R5 C U U isAgg30 sizeOf30 (by repeat constructor) Tk2<|R.store C U U U U sizeOf30 U U U (by repeat constructor) Ph2<|R.done C<|X.ret C U U func52 U (by exact(.agg U isAgg30 sizeOf30 (by repeat constructor) Tk2 .nil))<|Hr hret (RO.le_trans hl1 hl2) ?_
   exact⟨_,_,rfl,hls1.mono hl2,hls2⟩
theorem trulyR_c{b:Bk}{k:Ks}{v vk:Value}{ro:RO}(hv:BkV ro v b)(hb:b.good)(hks:KsV ro vk k)(hkl:k.ks.length=b.ps.length):CallR prog J (fnv 53) [v,vk] ro (fun w ro'=>BkV ro' w (b.truly k.ks)):=by
 have hvv:=hv
 obtain⟨vp,vg,vc,vt,rfl,hp,hg,hc,ht⟩:=hv
 obtain⟨pb,pc,rfl⟩:=hp.form
 obtain⟨gb,gc,rfl⟩:=hg.form
 obtain⟨cb,cc,rfl⟩:=hc.form
 obtain⟨tb,tc,rfl⟩:=ht.form
 have hnt:=hb.nt
 obtain⟨vk1,vk2,rfl,hkk,hw⟩:=hks
 obtain⟨kb,kc,hkf⟩:=hkk.form
 subst hkf
 obtain⟨wb,wc,hwf⟩:=hw.form
 subst hwf
 refine CallR.intro hJ (by kernel_rfl) fun c cs tail hret=>enter_X (n:=38) func53 U U (Nl U) ?_
 have C:Ctx prog main J (bf 53 .normal):=⟨hJ,by decide⟩
 refine Xr C U U<|R.box C U U U U fun p2=>R.box C U U U U fun p3=>R.alloc C U U zeroValue27 U fun p4=>R.done C<|Xr C U U<|R5 C U U isAgg27 sizeOf27 (by repeat constructor) Tk5<|R.alloc C U U zeroValue27 U fun p5=>R.store C U U U U sizeOf27 U U U (by repeat constructor) Ph5<|R.done C<|Xr C U U<|Rf C 4 U U runUnderlying27 U sizeOf25<|R.store C U U U U sizeOf25 U U U (by repeat constructor) (.skip (.skip (.skip (.skip (.here .nil)))))<|R.done C<|Xs C<|Xr C U U<|Ad C U U<|X.block C.1<|X.loopI (ι:=Nat×RO×Value×List (Nat×Obj)) C.1 (fun s=>s.1≤b.ts.length∧ro.le s.2.1∧Buf 92 3 [] s.2.2.1 (((b.truly k.ks).ts.take s.1).flatMap Ts.cells) s.2.2.2)
  (fun s=> [(2, .pointer (some ⟨p2,0,none⟩)),(3, .pointer (some ⟨p3,0,none⟩)),(4, .pointer (some ⟨p4,0,none⟩)),(5, .pointer (some ⟨p5,0,none⟩)),(6, .int .i64 (s.1:Int))])
  (fun s=>⟨s.2.1,(p5, .cells [.int .i64 b.w, .slice pb b.ps.length pc, .slice gb b.gs.length gc, .slice cb b.cs.length cc,s.2.2.1].toArray 27 (0,0))::(s.2.2.2++((p4, .cells [.int .i64 0, .slice none 0 0, .slice none 0 0, .slice none 0 0, .slice none 0 0].toArray 27 (0,0))::(p3, .cells [.slice kb k.ks.length kc, .slice wb k.ws.length wc].toArray 30 (0,0))::(p2, .cells [.int .i64 b.w, .slice pb b.ps.length pc, .slice gb b.gs.length gc, .slice cb b.cs.length cc, .slice tb b.ts.length tc].toArray 27 (0,0))::tail))⟩) (fun s=>b.ts.length-s.1) (0,ro, .slice none 0 0, []) ⟨Nat.zero_le _,RO.le_refl _, .nil⟩ rfl ⟨U,U,U,U,U,trivial⟩ fun s hs' hnext=>?_
 obtain⟨i,ro1,v0,own0⟩:=s
 obtain⟨hi,hle,hbuf⟩:=hs'
 simp only at hi hle hbuf hnext⊢
 obtain⟨bs0,cap0,rfl⟩:=hbuf.form (by decide)
 have htl:(b.truly k.ks).ts.length=b.ts.length:=List.length_map ..
 refine Xs C<|Xr C U U<|Rm C U U<|Rf C 4 U U runUnderlying27 U sizeOf25<|R.loadOne C U U U isAgg25 (by repeat (first|exact Mh|apply Mt|apply List.mem_append_right)) U<|Rn C U U runUnderlying25<|R.int C U U U U b_lss<|R.done C<|Xk C U (fun hlt=>?_) (fun hlt=>?_)
 ·have hi':i<b.ts.length:=by omega
  obtain⟨pp,off,cap,ll,ty,fq,hsl,hrop,hsub⟩:=(ht.mono hle).at Ts.len (by omega)
  cases hsl
  have hsi:=hsub i hi'
  have hts:=hb.ts _ (List.getElem_mem hi')
  have hstep:(b.truly k.ks).ts.take (i+1)=(b.truly k.ks).ts.take i++ [{b.ts[i] with held:=lifts b k.ks (b.ts[i]).g (b.ts[i]).l}]:=by
   have hg:(b.truly k.ks).ts[i]'(by omega)={b.ts[i] with held:=lifts b k.ks (b.ts[i]).g (b.ts[i]).l}:=List.getElem_map _
   rw [List.take_succ_eq_append_getElem (by omega),hg]
  have hfl:(((b.truly k.ks).ts.take i).flatMap Ts.cells).length=i*3:=by
   rw [flatMap_len Ts.len,List.length_take,htl,Nat.min_eq_left hi]
  generalize b.ts[i]=t at hsi hts hstep
  have hsi:Sub (off+i*3) 3 ll [.int .i64 t.g, .int .i64 t.l, .bool t.held]:=hsi
  refine X.skip C.1<|Xs C<|X.block C.1<|Xr C U U<|Rf C 4 U U runUnderlying27 U sizeOf25<|R.loadOne C U U U isAgg25 (by repeat (first|exact Mh|apply Mt|apply List.mem_append_right)) U<|Rm C U U<|Rx C U U U runUnderlying25 sizeOf92<|R.loadAggRo C U U U isAgg92 sizeOf92 hrop hsi<|R.alloc C U U zeroValue92 U fun p7=>R.store C U U U U sizeOf92 U U U (by repeat (first|exact Uh|apply Ut|apply Upd.app)) Ph3<|R.done C<|Xr C U U<|R.loadAgg C U U U isAgg27 sizeOf27 (by repeat (first|exact Mh|apply Mt|apply List.mem_append_right)) Tk5<|Rf C 0 U U runUnderlying30 U sizeOf28<|R.loadOne C U U U isAgg28 (by repeat (first|exact Mh|apply Mt|apply List.mem_append_right)) U<|Rf C 0 U U runUnderlying92 U sizeOf3<|R.loadOne C U U U isAgg3 (by repeat (first|exact Mh|apply Mt|apply List.mem_append_right)) U<|Rf C 1 U U runUnderlying92 U sizeOf3<|R.loadOne C U U U isAgg3 (by repeat (first|exact Mh|apply Mt|apply List.mem_append_right)) U<|R.callR C U U U U (liftsOfR_c hJ (hvv.mono hle) hb (hkk.mono hle) hkl hts.1 hts.2) fun w2 ro2 hl2 hw2=>?_
  subst hw2
  refine Rf C 2 U U runUnderlying92 U sizeOf4<|R.store C U U U U sizeOf4 U U U (by repeat (first|exact Uh|apply Ut|apply Upd.app)) (.skip (.skip (.here .nil)))<|R.done C<|X.region C U U<|Rf C 4 U U runUnderlying27 U sizeOf25<|R.loadOne C U U U isAgg25 (by repeat (first|exact Mh|apply Mt|apply List.mem_append_right)) U<|R.loadAgg C U U U isAgg92 sizeOf92 (by repeat (first|exact Mh|apply Mt|apply List.mem_append_right)) Tk3<|R.buildSlice C (vs:=_) U U (show pvals _ _=some (numbered 0 [_]) from rfl) U runUnderlying25 sizeOf92 zeroValue92 (by decide) (Cat.one U U) fun p34=>R.append2 (kk:=3) C [_,_] U U U U runUnderlying25 runUnderlying25 (fun _=>nofun) (show prog.info? 92=some Tryz.t92 by kernel_rfl) U U U (by decide) (by decide) (hbuf.app _) U U (by(try simp only [List.length_append,List.length_cons,List.length_nil]);omega) fun v' own' hb'=>Rf C 4 U U runUnderlying27 U sizeOf25 ?_
  obtain⟨own1,rfl,hb1⟩:=hb'.unapp (tail:= [])
  refine R.store C U U U U sizeOf25 hb'.cells1 U hb'.ones1 (by repeat constructor) (.skip (.skip (.skip (.skip (.here .nil)))))<|R.done C<|X.inBlock C.1<|X.region C U U<|Rm C U U<|Ra C U U U<|Ad C U U<|X.drop C.1 (own':=_::(own1++_)) (List.sublist_cons_self _ _)<|X.weaken ?_ (hnext (i+1,ro2,v',own1) ⟨hi',RO.le_trans hle hl2, ?_⟩ (by simp only;omega))
  ·exact⟨rfl,rfl,rfl,rfl,by simp [look],trivial⟩
  ·rw [hstep,List.flatMap_append];exact hb1
 ·obtain rfl:i=b.ts.length:=by omega
  refine X.exit C.1 U<|Xs C<|X.finishA [_] C.1 Ts.len (by decide) (hbuf.app _) fun ro2 hl2 hls=>?_
  have e:(b.truly k.ks).ts.take b.ts.length=(b.truly k.ks).ts:=List.take_of_length_le (by rw [htl];exact Nat.le_refl _)
  rw [e] at hls⊢
  obtain⟨tb2,tc2,htv⟩:=hls.form
  rw [htv]
  rw [htv] at hls
  refine X.region C U U<|R5 C U U isAgg27 sizeOf27 (by repeat constructor) Tk5<|R.store C U U U U sizeOf27 U U U (by repeat constructor) Ph5<|R.done C<|X.ret C U U func53 U (by exact(.agg U isAgg27 sizeOf27 (by repeat constructor) Tk5 .nil))<|Hr hret (RO.le_trans hle hl2) ?_
  have k2:=RO.le_trans hle hl2
  exact⟨_,_,_,_,rfl,hp.mono k2,hg.mono k2,hc.mono k2,hls⟩
end Go.Lg.B
namespace Go.Lg.B
open Go Go.Conc Go.Lg Go.Proofs Go.Proofs.Tryz
theorem real_root{b:Bk}{vb vk:Value}{p:List U16}{i0 g0 k0 n0:Int}(hi0:0≤i0∧i0≤255)(hg0:0≤g0∧g0≤255)(hk0:0≤k0∧k0≤255)(hn0:0≤n0∧n0≤255){ro:RO}(he:Env ro)(hv:BkV ro vb b)(hkk:Ls uc 1 ro vk p):
  Root prog 6 [vb,vk, .int .u8 i0, .int .u8 g0, .int .u8 k0, .int .u8 n0] ro (fun w _=>w= .bool true):=by
 intro Post hret
 have hJ:Closed prog true (JM prog (Go.Conc.Good prog Post)):=JM.closed
 have hvv:=hv
 obtain⟨vp,vg,vc,vt,rfl,hp,hg,hc,ht⟩:=hv
 obtain⟨pb,pc,rfl⟩:=hp.form
 obtain⟨gb,gc,rfl⟩:=hg.form
 obtain⟨cb,cc,rfl⟩:=hc.form
 obtain⟨tb,tc,rfl⟩:=ht.form
 let main:=true
 let J:=JM prog (Go.Conc.Good prog Post)
 refine enter_X (n:=344) func6 U U (Nl U) ?_
 have C:Ctx prog main J (bf 6 .normal):=⟨hJ,by decide⟩
 refine Xr C U U<|R.box C U U U U fun p6=>Ad C U U<|Xs C<|Xr C U U<|R5 C U U isAgg27 sizeOf27 (by repeat constructor) Tk5<|R.callP C U U U U (fitR_c hJ hvv)<|R.not C U U U<|R.done C<|X.cond C.1 U (fun hfit=>?_) (fun hfit=>?_)
 ·refine Xr C U U<|R.callR C U U U U ((hoisted_c _ he)) fun v9 ro9 hl9 hq9=>Ad C U U<|X.ret0 C (by kernel_rfl) U U func6 U (by exact(.tmp U .nil)) fun w9 hs9=>hret _ _ _ hl9 ?_ w9 hs9
  exact hq9
 ·have hchb:checkBook b=0:=by simpa using hfit
  have hbb:=good_of hchb
  refine X.skip C.1<|Xr C U U<|R5 C U U isAgg27 sizeOf27 (by repeat constructor) Tk5<|Rm C U U<|R.callR C U U U U (realR_c hJ hvv hbb hkk) fun v1 ro1 hl1 hq1=>?_
  have hks1:=hq1
  obtain⟨a1,a2,rfl,ha,hw⟩:=hq1
  have hro:RealOk (b.truly (realK b p).ks) (realK b p):=⟨truly_check hchb _,real_case hchb p⟩
  have htr:=trulyR_c hJ (hvv.mono hl1) hbb hks1 (ksTo_len b p _)
  generalize realK b p=k at ha hw hro htr hks1
  generalize b.truly k.ks=d at hro htr
  have hch:=hro.ch
  have hb:=good_of hch
  have hne:=hro.ne
  obtain⟨len1,len2⟩:=hro.lens
  have hnp:=hb.np
  have hng:=hb.ng
  have hnc:=hb.nc
  have hsh:=short_of (not_great hch)
  have hk2:k.short:=⟨by omega,by omega⟩
  obtain⟨kp,ko,kc,kl,kt,kq,rfl,hkro,hksub⟩:=ha.at ic_len (by omega)
  obtain⟨wp,wo,wc,wl,wt,wq,rfl,hwro,hwsub⟩:=hw.at ic_len (by omega)
  refine R.alloc C U U zeroValue30 U fun p13=>R.store C U U U U sizeOf30 U U U (by repeat constructor) Ph2<|R.done C<|Xr C U U<|R5 C U U isAgg27 sizeOf27 (by repeat constructor) Tk5<|R5 C U U isAgg30 sizeOf30 (by repeat constructor) Tk2<|R.callR C U U U U (htr) fun v2 ro2 hl2 hq2=>?_
  have hvd:=hq2
  obtain⟨_,_,_,_,rfl,hd⟩:=hq2
  obtain⟨pb2,pc2,rfl⟩:=hd.1.form
  obtain⟨gb2,gc2,rfl⟩:=hd.2.1.form
  obtain⟨cb2,cc2,rfl⟩:=hd.2.2.1.form
  obtain⟨tb2,tc2,rfl⟩:=hd.2.2.2.form
  have k2:=RO.le_trans hl1 hl2
  have ha2:=ha.mono hl2
  have hw2:=hw.mono hl2
  have hks2:=hks1.mono hl2
  refine R.store C U U U U sizeOf27 U U U (by repeat constructor) Ph5<|R.done C<|Xs C<|Xd C fun hok=>Dm C 0 hok U U U<|Dp 1 hok (fun _ _ _ A h=>R.convInt C U (A.w U U) (A.x U U) runUnderlying5 runUnderlying3 (wrap64 (by omega) (by omega)) h)<|Df (off':=1) C 2 hok U U U runUnderlying27 U sizeOf22 U<|D1 C 3 hok U U isAgg22 (by repeat constructor) U<|Ds C 4 hok U U runUnderlying22<|Di C 5 hok U U U U U (b_remP (by omega) (by omega))<|Dm C 6 hok U U U<|Dp 7 hok (fun _ _ _ A h=>R.convInt C U (A.w U U) (A.x U U) runUnderlying5 runUnderlying3 (wrap64 (by omega) (by omega)) h)<|Df (off':=2) C 8 hok U U U runUnderlying27 U sizeOf23 U<|D1 C 9 hok U U isAgg23 (by repeat constructor) U<|Ds C 10 hok U U runUnderlying23<|Di C 11 hok U U U U U (b_remP (by omega) (by omega))<|Dm C 12 hok U U U<|Dp 13 hok (fun _ _ _ A h=>R.convInt C U (A.w U U) (A.x U U) runUnderlying5 runUnderlying3 (wrap64 (by omega) (by omega)) h)<|Df (off':=3) C 14 hok U U U runUnderlying27 U sizeOf24 U<|D1 C 15 hok U U isAgg24 (by repeat constructor) U<|Ds C 16 hok U U runUnderlying24<|Di C 17 hok U U U U U (b_remP (by omega) (by omega))<|Dm C 18 hok U U U<|De 19 (some 71) [true,true,true] hok (fun _ _ A hk=>?_)
  refine R.callP C U (A.w U U) (A.x U U) (A.s U U) (loadR_c hJ (by omega) _) (hk _ _ ⟨(QFs.cons (QF.of U (fun _ _ A h=>R.loadOne C U (A.w U U) (A.x U U) isAgg24 (by repeat constructor) U h)) (QFs.cons (QF.of U (fun _ _ A h=>R.loadOne C U (A.w U U) (A.x U U) isAgg23 (by repeat constructor) U h)) (QFs.cons (QF.of U (fun _ _ A h=>R.loadOne C U (A.w U U) (A.x U U) isAgg22 (by repeat constructor) U h)) QFs.nil))), ?_⟩)
  refine Da C 20 hok U U<|Da C 21 hok U U<|Da C 22 hok U U<|Da C 23 hok U U<|D.done C hok (by kernel_rfl)<|Xs C ?_
  have hi:0≤i0% (d.ps.length:Int)∧i0% (d.ps.length:Int)<d.ps.length:=⟨Int.emod_nonneg _ (by omega),Int.emod_lt_of_pos _ (by omega)⟩
  have hgb:0≤g0% (d.gs.length:Int)∧g0% (d.gs.length:Int)<d.gs.length:=⟨Int.emod_nonneg _ (by omega),Int.emod_lt_of_pos _ (by omega)⟩
  have hqb:0≤k0% (d.cs.length:Int)∧k0% (d.cs.length:Int)<d.cs.length:=⟨Int.emod_nonneg _ (by omega),Int.emod_lt_of_pos _ (by omega)⟩
  have hlo:1≤loadOf n0∧loadOf n0≤99:=loadOf_bd
  generalize i0% (d.ps.length:Int)=i at hi⊢
  generalize g0% (d.gs.length:Int)=g at hgb⊢
  generalize k0% (d.cs.length:Int)=q at hqb⊢
  generalize loadOf n0=n at hlo⊢
  have hat1:kl[ko+i.toNat*1]? =some (.int .i64 (nth k.ks i)):=by
   rw [ic_at hksub (show i.toNat<k.ks.length by omega)]
   simp [nth,List.getD_eq_getElem?_getD,show i.toNat<k.ks.length by omega]
  have hat2:wl[wo+q.toNat*1]? =some (.int .i64 (nth k.ws q)):=by
   rw [ic_at hwsub (show q.toNat<k.ws.length by omega)]
   simp [nth,List.getD_eq_getElem?_getD,show q.toNat<k.ws.length by omega]
  have hwz:1≤nth k.ws q∧nth k.ws q≤99:=by
   have h1:(d.piece q).r.lo≤nth k.ws q∧nth k.ws q≤(d.piece q).r.hi:=weights_in hqb.1 hqb.2 (mem_cases.1 hro.cs).2
   have h2:=piece_fine hb hqb
   unfold Pc.fine at h2
   omega
  have hbl:=bearsOf_len hb hi
  have hwl2:(weightsOf d q).length≤3:=by
   have h2:=piece_fine hb hqb
   unfold Pc.fine at h2
   rw [weightsOf_eq hb hne hqb.1 hqb.2,Rc.nums,rz_len];omega
  have hwkl:=weak_len hb (n:=n) hgb.1 hgb.2
  obtain⟨mo1,mo2,_⟩:=most_law hb hgb.1 hgb.2
  have hc1:=hro.bears i
  have hc2:=hro.weights q
  have hsd:=hro.said g q
  have hmt:=hro.most hgb
  have hwm:=weak_most hb hgb hlo
  refine X.region C U U<|R5 C U U isAgg27 sizeOf27 (by repeat constructor) Tk5<|R5 C U U isAgg30 sizeOf30 (by repeat constructor) Tk2<|R.callR C U U U U (isCase_c hJ (he.mono k2) hvd hsh hks2 hk2) fun v3 ro3 hl3 hq3=>?_
  subst hq3
  rw [hro.isCase]
  have k3:=RO.le_trans k2 hl3
  refine Rm C U U<|R.ext C U U U U<|R.ext C U U U U<|R.asg C U U U<|Ad C U U<|Xr C U U<|R5 C U U isAgg27 sizeOf27 (by repeat constructor) Tk5<|R.callR C U U U U (casesN_c hJ (he.mono k3) (hvd.mono hl3) hsh) fun v4 ro4 hl4 hq4=>?_
  subst hq4
  rw [casesOf_eq hch]
  have k4:=RO.le_trans k3 hl4
  have m4:=RO.le_trans hl3 hl4
  refine Rm C U U<|R.ext C U U U U<|R.ext C U U U U<|R.asg C U U U<|Ad C U U<|Xr C U U<|R5 C U U isAgg27 sizeOf27 (by repeat constructor) Tk5<|R.callR C U U U U (clash_c hJ (he.mono k4) (hvd.mono m4) hsh) fun v5 ro5 hl5 hq5=>?_
  obtain⟨w5,y5,rfl⟩:=hq5
  rw [hro.clash] at y5⊢
  have y5:LsI ro5 w5 []:=y5
  obtain⟨_,_,rfl⟩:=y5.form
  have k5:=RO.le_trans k4 hl5
  have m5:=RO.le_trans m4 hl5
  refine Rm C U U<|R.ext C U U U U<|R.ext C U U U U<|R.asg C U U U<|Ad C U U<|Xr C U U<|R5 C U U isAgg27 sizeOf27 (by repeat constructor) Tk5<|Rm C U U<|R.callR C U U U U (bears_c hJ (he.mono k5) (hvd.mono m5) hsh i) fun v6 ro6 hl6 hq6=>?_
  obtain⟨w6,y6,rfl⟩:=hq6
  rw [bearsR_eq hch hne hi] at y6⊢
  simp only at y6
  obtain⟨_,_,rfl⟩:=y6.form
  have k6:=RO.le_trans k5 hl6
  have m6:=RO.le_trans m5 hl6
  refine Rm C U U<|R.ext C U U U U<|R.ext C U U U U<|R.asg C U U U<|Ad C U U<|Xr C U U<|R5 C U U isAgg27 sizeOf27 (by repeat constructor) Tk5<|Rm C U U<|R.callR C U U U U (weights_c hJ (he.mono k6) (hvd.mono m6) hsh q) fun v7 ro7 hl7 hq7=>?_
  obtain⟨w7,y7,rfl⟩:=hq7
  rw [weightsR_eq hch hne hqb] at y7⊢
  simp only at y7
  obtain⟨_,_,rfl⟩:=y7.form
  have k7:=RO.le_trans k6 hl7
  have m7:=RO.le_trans m6 hl7
  refine Rm C U U<|R.ext C U U U U<|R.ext C U U U U<|R.asg C U U U<|Ad C U U<|Xr C U U<|R5 C U U isAgg27 sizeOf27 (by repeat constructor) Tk5<|Rm C U U<|Rm C U U<|R.callR C U U U U (may_c hJ (he.mono k7) (hvd.mono m7) hsh g q) fun v8 ro8 hl8 hq8=>?_
  subst hq8
  rw [mayR_eq hch hne hgb hqb]
  have k8:=RO.le_trans k7 hl8
  have m8:=RO.le_trans m7 hl8
  refine Rm C U U<|R.ext C U U U U<|R.ext C U U U U<|R.asg C U U U<|Ad C U U<|Xr C U U<|R5 C U U isAgg27 sizeOf27 (by repeat constructor) Tk5<|Rm C U U<|R.callR C U U U U (most_c hJ (he.mono k8) (hvd.mono m8) hsh g) fun v10 ro10 hl10 hq10=>?_
  subst hq10
  rw [mostR_eq hch hne hgb]
  have k10:=RO.le_trans k8 hl10
  have m10:=RO.le_trans m8 hl10
  refine Rm C U U<|R.ext C U U U U<|R.ext C U U U U<|R.asg C U U U<|Ad C U U<|Xr C U U<|R5 C U U isAgg27 sizeOf27 (by repeat constructor) Tk5<|Rm C U U<|Rm C U U<|R.callR C U U U U (weak_c hJ (he.mono k10) (hvd.mono m10) hsh g n) fun v11 ro11 hl11 hq11=>?_
  obtain⟨w11,y11,rfl⟩:=hq11
  rw [weakR_eq hch hne hgb hlo] at y11⊢
  simp only at y11
  obtain⟨zb,zc,rfl⟩:=y11.form
  have k11:=RO.le_trans k10 hl11
  have m11:=RO.le_trans m10 hl11
  have hpos:=List.length_pos_iff.2 hne
  have x1:kl[ko+i.toNat*1]? =some (.int .i64 (nth k.ks i)):=hat1
  have hkr:=(RO.le_trans hl2 m11) _ _ hkro
  have hwr:=(RO.le_trans hl2 m11) _ _ hwro
  have ha11:=ha2.mono m11
  refine Rm C U U<|R.ext C U U U U<|R.ext C U U U U<|R.asg C U U U<|Ad C U U<|Xs C<|Xr C U U<|Rm C U U<|R.int C U U U U b_neq<|R.fixv (t:=121) (v':= .bool false) U (by rfl)<|Rm C U U<|Rm C U U<|R.int C U U U U b_neq<|R.fixv (t:=124) (v':= .bool false) U (by rfl)<|R.pickF C U U U U<|Rm C U U<|Rm C U U<|R.int C U U U U b_neq<|R.fixv (t:=128) (v':= .bool false) U (by rfl)<|R.pickF C U U U U<|Rm C U U<|Rm C U U<|R.int C U U U U b_neq<|R.fixv (t:=132) (v':= .bool false) U (by rfl)<|R.pickF C U U U U<|Rm C U U<|Rm C U U<|R.int C U U U U b_neq<|R.fixv (t:=136) (v':= .bool false) U (by rfl)<|R.pickF C U U U U<|Rm C U U<|Rm C U U<|R.int C U U U U b_neq<|R.fixv (t:=140) (v':= .bool false) U (by rfl)<|R.pickF C U U U U<|Rm C U U<|Rm C U U<|R.int C U U U U b_neq<|R.fixv (t:=144) (v':= .bool false) U (by rfl)<|R.pickF C U U U U ?_;refine Rm C U U<|Rm C U U<|R.int C U U U U b_neq<|R.fixv (t:=148) (v':= .bool false) U (by rfl)<|R.pickF C U U U U<|Rm C U U<|Rm C U U<|R.not C U U U<|R.fixv (t:=152) (v':= .bool false) U (by rfl)<|R.pickF C U U U U<|Rm C U U<|Rm C U U<|R.int C U U U U b_lss<|R.fixv (t:=156) (v':= .bool false) U (Bv (by rw [dF];simp only;omega)) ?_;refine R.pickF C U U U U<|Rm C U U<|Rm C U U<|Rn C U U runUnderlying28<|R.int C U U U U b_gtr<|R.fixv (t:=161) (v':= .bool false) U (by rfl)<|R.pickF C U U U U<|Rm C U U<|Rm C U U<|Rf C 0 U U runUnderlying30 U sizeOf28<|Rl C U U isAgg28 (by repeat constructor) U<|Rm C U U<|Rx C U U U runUnderlying28 sizeOf3<|R.loadOneRo C U U U isAgg3 hkr hat1<|R.callP C U U U U (holdsR_c hJ (y6.mono (RO.le_trans hl7 (RO.le_trans hl8 (RO.le_trans hl10 hl11)))) (by omega) (nth k.ks i))<|R.not C U U U<|R.fixv (t:=171) (v':= .bool false) U (by(rw [hc1];rfl))<|R.pickF C U U U U<|Rm C U U<|Rm C U U<|Rf C 1 U U runUnderlying30 U sizeOf28<|Rl C U U isAgg28 (by repeat constructor) U<|Rm C U U<|Rx C U U U runUnderlying28 sizeOf3<|R.loadOneRo C U U U isAgg3 hwr hat2<|R.callP C U U U U (holdsR_c hJ (y7.mono (RO.le_trans hl8 (RO.le_trans hl10 hl11))) (by omega) (nth k.ws q))<|R.not C U U U<|R.fixv (t:=181) (v':= .bool false) U (by(rw [hc2];rfl))<|R.pickF C U U U U<|Rm C U U<|Rm C U U<|R.callP C U U U U (betweenR_c hJ _ _ _ _)<|R.fixv (t:=185) (v':= .bool true) U (Bv (by rw [between_iff];simp only;omega)) ?_;refine R.not C U U U<|R.fixv (t:=186) (v':= .bool false) U U<|R.fixv (t:=186) (v':= .bool false) U (by rfl)<|R.pickF C U U U U<|R.done C<|X.cond C.1 U (fun h=>nomatch h) (fun _=>?_)
  refine X.skip C.1<|Xs C<|Xs C<|X.afterI (ι:=RO) (fun s=>ro11.le s) (fun _=> [(222, .bool false),(6, .pointer (some ⟨p6,0,none⟩)),(13, .pointer (some ⟨p13,0,none⟩)),(15, .int .i64 g),(16, .int .i64 q),(17, .int .i64 n),(32, .slice zb (weak d g n).length zc)])
   (fun s=>⟨s,(p13, .cells [.slice (some ⟨kp,ko,none⟩) k.ks.length kc, .slice (some ⟨wp,wo,none⟩) k.ws.length wc].toArray 30 (0,0))::(p6, .cells [.int .i64 d.w, .slice pb2 d.ps.length pc2, .slice gb2 d.gs.length gc2, .slice cb2 d.cs.length cc2, .slice tb2 d.ts.length tc2].toArray 27 (0,0)):: []⟩) (fun s hs=>?_) (fun hcont=>?_)
  rotate_left
  ·by_cases hm:most d g=0
   ·have _:=hm
    refine Xd C fun hok=>Dm C 0 hok U U U<|D5 C 1 hok U U isAgg27 sizeOf27 (by repeat constructor) Tk5<|Df (off':=0) C 2 hok U U U runUnderlying30 U sizeOf28 U<|D1 C 3 hok U U isAgg28 (by repeat constructor) U<|Dm C 4 hok U U U<|Df (off':=1) C 5 hok U U U runUnderlying30 U sizeOf28 U<|D1 C 6 hok U U isAgg28 (by repeat constructor) U<|Dm C 7 hok U U U<|Dx C 8 hok U U U runUnderlying28 sizeOf3<|D2 C 9 hok U U isAgg3 (by first|exact hwr|exact hl12 _ _ hwr) hat2<|De 10 (some 198) [false,false,false,false] hok (fun _ _ A hk=>?_)
    refine R.callR C U (A.w U U) (A.x U U) (A.s U U) (liftsOfR_c hJ (hvd.mono m11) hb ha11 len1 hgb hwz) fun v12 ro12 hl12 hq12=>hk _ _ ⟨QFs.nil, ?_⟩
    refine De 11 (some 199) [] hok (fun _ _ A hk=>?_)
    subst hq12
    refine R.callP C U (A.w U U) (A.x U U) (A.s U U) (saidR_c hJ _ _ _) (hk _ _ ⟨QFs.nil, ?_⟩)
    refine Dp 12 hok (fun _ _ _ A h=>R.not C U (A.w U U) (A.x U U) h)<|D.fixv (t:=200) (v':= .bool false) U (by(rw [hsd];rfl))<|Dm C 13 hok U U U<|Dm C 14 hok U U U<|Di C 15 hok U U U U U b_gtr<|D.fixv (t:=203) (v':= .bool false) U (Bv (by rw [dF];simp only;omega)) ?_;refine Dm C 16 hok U U U<|Du C 17 hok U<|Du C 18 hok U<|Du C 19 hok U<|Du C 20 hok U<|Du C 21 hok U<|Du C 22 hok U<|Du C 23 hok U<|Dp 24 hok (fun _ _ _ A h=>R.pickF C U (A.w U U) (A.x U U) (A.x U U) h)<|Dp 25 hok (fun _ _ _ A h=>R.pickF C U (A.w U U) (A.x U U) (A.x U U) h)<|Dm C 26 hok U U U<|Dm C 27 hok U U U<|Ds C 28 hok U U runUnderlying28<|Di C 29 hok U U U U U b_eql<|Dm C 30 hok U U U<|Dm C 31 hok U U U<|Di C 32 hok U U U U U b_leq<|Dp 33 hok (fun _ _ _ A h=>R.neBool C U (A.w U U) (A.x U U) (A.x U U) runUnderlying4 h)<|D.fixv (t:=221) (v':= .bool false) U (Bv (by rw [lenB hwm];simp)) ?_;refine Dp 34 hok (fun _ _ _ A h=>R.pickF C U (A.w U U) (A.x U U) (A.x U U) h)<|D.done C hok (by kernel_rfl)<|X.weaken ?_ (hcont ro12 hl12)
    exact⟨U,U,U,U,U,U,U,trivial⟩
   ·have hm1:1≤most d g∧most d g≤99:=by omega
    refine Xd C fun hok=>Dm C 0 hok U U U<|D5 C 1 hok U U isAgg27 sizeOf27 (by repeat constructor) Tk5<|Df (off':=0) C 2 hok U U U runUnderlying30 U sizeOf28 U<|D1 C 3 hok U U isAgg28 (by repeat constructor) U<|Dm C 4 hok U U U<|Df (off':=1) C 5 hok U U U runUnderlying30 U sizeOf28 U<|D1 C 6 hok U U isAgg28 (by repeat constructor) U<|Dm C 7 hok U U U<|Dx C 8 hok U U U runUnderlying28 sizeOf3<|D2 C 9 hok U U isAgg3 (by first|exact hwr|exact hl12 _ _ hwr) hat2<|De 10 (some 198) [false,false,false,false] hok (fun _ _ A hk=>?_)
    refine R.callR C U (A.w U U) (A.x U U) (A.s U U) (liftsOfR_c hJ (hvd.mono m11) hb ha11 len1 hgb hwz) fun v12 ro12 hl12 hq12=>hk _ _ ⟨QFs.nil, ?_⟩
    refine De 11 (some 199) [] hok (fun _ _ A hk=>?_)
    subst hq12
    refine R.callP C U (A.w U U) (A.x U U) (A.s U U) (saidR_c hJ _ _ _) (hk _ _ ⟨QFs.nil, ?_⟩)
    refine Dp 12 hok (fun _ _ _ A h=>R.not C U (A.w U U) (A.x U U) h)<|D.fixv (t:=200) (v':= .bool false) U (by(rw [hsd];rfl))<|Dm C 13 hok U U U<|Dm C 14 hok U U U<|Di C 15 hok U U U U U b_gtr<|D.fixv (t:=203) (v':= .bool true) U (Bv (by rw [decide_eq_true_iff];simp only;omega)) ?_;refine Dm C 16 hok U U U<|D5 C 17 hok U U isAgg27 sizeOf27 (by repeat constructor) Tk5<|Df (off':=0) C 18 hok U U U runUnderlying30 U sizeOf28 U<|D1 C 19 hok U U isAgg28 (by repeat constructor) U<|Dm C 20 hok U U U<|Dm C 21 hok U U U<|De 22 (some 210) [false,false] hok (fun _ _ A hk=>?_)
    refine R.callR C U (A.w U U) (A.x U U) (A.s U U) (liftsOfR_c hJ (hvd.mono (RO.le_trans m11 hl12)) hb (ha11.mono hl12) len1 hgb hm1) fun v13 ro13 hl13 hq13=>hk _ _ ⟨QFs.nil, ?_⟩
    subst hq13
    rw [hmt]
    refine Dp 23 hok (fun _ _ _ A h=>R.not C U (A.w U U) (A.x U U) h)<|D.fixv (t:=211) (v':= .bool false) U (by rfl)<|Dp 24 hok (fun _ _ _ A h=>R.pickT C U (A.w U U) (A.x U U) (A.x U U) h)<|Dp 25 hok (fun _ _ _ A h=>R.pickF C U (A.w U U) (A.x U U) (A.x U U) h)<|Dm C 26 hok U U U<|Dm C 27 hok U U U<|Ds C 28 hok U U runUnderlying28<|Di C 29 hok U U U U U b_eql<|Dm C 30 hok U U U<|Dm C 31 hok U U U<|Di C 32 hok U U U U U b_leq<|Dp 33 hok (fun _ _ _ A h=>R.neBool C U (A.w U U) (A.x U U) (A.x U U) runUnderlying4 h)<|D.fixv (t:=221) (v':= .bool false) U (Bv (by rw [lenB hwm];simp)) ?_;refine Dp 34 hok (fun _ _ _ A h=>R.pickF C U (A.w U U) (A.x U U) (A.x U U) h)<|D.done C hok (by kernel_rfl)<|X.weaken ?_ (hcont ro13 (RO.le_trans hl12 hl13))
    exact⟨U,U,U,U,U,U,U,trivial⟩
  have k12:=RO.le_trans k11 hs
  have m12:=RO.le_trans m11 hs
  have y12:=y11.mono hs
  have hgl:=gives_len d k.ks g n
  have hgl2:=hb.gearLen hgb.1 hgb.2
  have hgw:∀x∈gives d k.ks g n,(weak d g n).contains x=true:=fun x hx=>hro.weak hx
  refine X.cond C.1 U (fun h=>nomatch h) (fun _=>?_)
  refine X.skip C.1<|Xr C U U<|R5 C U U isAgg27 sizeOf27 (by repeat constructor) Tk5<|Rf C 0 U U runUnderlying30 U sizeOf28<|Rl C U U isAgg28 (by repeat constructor) U<|Rm C U U<|Rm C U U<|R.callR C U U U U (givesOfR_c hJ (hvd.mono m12) hb (ha2.mono m12) len1 hgb (by omega)) fun v14 ro14 hl14 hq14=>?_
  obtain⟨ub,uc',hug⟩:=hq14.form
  subst hug
  generalize gives d k.ks g n=gv at hgl hgw hq14
  refine Ad C U U<|Xs C<|Xr C U U<|Ad C U U<|X.block C.1<|X.loopI (ι:=Nat) C.1 (fun j=>j≤gv.length) (fun j=> [(35, .int .i64 (j:Int)),(34, .slice ub gv.length uc'),(6, .pointer (some ⟨p6,0,none⟩)),(13, .pointer (some ⟨p13,0,none⟩)),(15, .int .i64 g),(16, .int .i64 q),(17, .int .i64 n),(32, .slice zb (weak d g n).length zc)])
   (fun _=>⟨ro14,(p13, .cells [.slice (some ⟨kp,ko,none⟩) k.ks.length kc, .slice (some ⟨wp,wo,none⟩) k.ws.length wc].toArray 30 (0,0))::(p6, .cells [.int .i64 d.w, .slice pb2 d.ps.length pc2, .slice gb2 d.gs.length gc2, .slice cb2 d.cs.length cc2, .slice tb2 d.ts.length tc2].toArray 27 (0,0)):: []⟩) (fun j=>gv.length-j) 0 (Nat.zero_le _) rfl ⟨U,U,U,U,U,U,U,U,trivial⟩ fun j hj hnext=>?_
  refine Xs C<|Xr C U U<|Rm C U U<|Rm C U U<|Rn C U U runUnderlying28<|R.int C U U U U b_lss<|R.done C<|X.cond C.1 U (fun hlt=>?_) (fun hlt=>?_)
  ·simp only [dT] at hlt
   have hj':j<gv.length:=by omega
   obtain⟨pp,off,cap,ll,ty,fq,hsl,hrop,hsub⟩:=hq14.at ic_len (by omega)
   cases hsl
   have hat:=ic_at hsub hj'
   have hin:=hgw _ (List.getElem_mem hj')
   generalize gv[j]=z at hat hin
   refine X.skip C.1<|Xs C<|X.block C.1<|Xr C U U<|Rm C U U<|Rm C U U<|Rm C U U<|Rx C U U U runUnderlying28 sizeOf3<|R.loadOneRo C U U U isAgg3 hrop hat<|R.callP C U U U U (holdsR_c hJ (y12.mono hl14) (by omega) z)<|R.not C U U U<|R.fixv (t:=241) (v':= .bool false) U (by(rw [hin];rfl))<|R.done C<|X.cond C.1 U (fun h=>nomatch h) (fun _=>?_)
   refine X.skip C.1<|X.inBlock C.1<|X.region C U U<|Rm C U U<|Ra C U U U<|Ad C U U<|X.weaken ?_ (hnext (j+1) hj' (by omega))
   exact⟨by simp [look],rfl,rfl,rfl,rfl,rfl,rfl,rfl,trivial⟩
  ·have k14:=RO.le_trans k12 hl14
   have m14:=RO.le_trans m12 hl14
   obtain⟨f1,f2,f3,f4⟩:=hro.few hqb
   have hfl:((fewestR d).1.getD []).length≤d.gs.length:=nodup_len (f1.imp fun h=>by omega) f2
   have h48:climbsH (d.gs.length:Int) none ((fewestR d).1.getD [])=0:=climbs_asc f1 f2 (fun _ h=>by cases h)
   refine X.exit C.1 U<|Xr C U U<|R5 C U U isAgg27 sizeOf27 (by repeat constructor) Tk5<|R.callR C U U U U ((fewestG_c (he.mono k14) (hvd.mono m14) hsh)) fun v15 ro15 hl15 hq15=>?_
   obtain⟨w15,y15,rfl⟩:=hq15
   have k15:=RO.le_trans k14 hl15
   have m15:=RO.le_trans m14 hl15
   refine Rm C U U<|R.ext C U U U U<|R.ext C U U U U<|R.ext C U U U U<|R.asg C U U U<|R.asg C U U U<|Ad C U U<|Xr C U U<|R5 C U U isAgg27 sizeOf27 (by repeat constructor) Tk5<|R.callR C U U U U ((share_c (he.mono k15) (hvd.mono m15) hsh)) fun v16 ro16 hl16 hq16=>?_
   obtain⟨w16,y16,rfl⟩:=hq16
   have k16:=RO.le_trans k15 hl16
   have m16:=RO.le_trans m15 hl16
   rw [fewestR_zero hch hne,shareR_zero hch hne]
   generalize(fewestR d).1.getD []=few at f1 f2 f3 hfl h48 y15
   generalize(fewestR d).1.isSome=F at f3 f4⊢
   generalize(shareR d).1.getD []=ownl at f4 y16
   generalize(shareR d).1.isSome=S at f4⊢
   obtain⟨fb,fc,rfl⟩:=y15.form
   obtain⟨ob,oc,rfl⟩:=y16.form
   refine Rm C U U<|R.ext C U U U U<|R.ext C U U U U<|R.ext C U U U U<|R.asg C U U U<|R.asg C U U U<|Ad C U U<|Xs C<|Xs C<|X.afterI (ι:=Unit) (fun _=>True) (fun _=> [(285, .bool false),(6, .pointer (some ⟨p6,0,none⟩)),(13, .pointer (some ⟨p13,0,none⟩)),(16, .int .i64 q),(36, .slice fb few.length fc),(37, .bool F),(38, .slice ob ownl.length oc),(39, .bool S)])
    (fun _=>⟨ro16,(p13, .cells [.slice (some ⟨kp,ko,none⟩) k.ks.length kc, .slice (some ⟨wp,wo,none⟩) k.ws.length wc].toArray 30 (0,0))::(p6, .cells [.int .i64 d.w, .slice pb2 d.ps.length pc2, .slice gb2 d.gs.length gc2, .slice cb2 d.cs.length cc2, .slice tb2 d.ts.length tc2].toArray 27 (0,0)):: []⟩) (fun s _=>?_) (fun hcont=>?_)
   rotate_left
   ·cases S
    ·have _:=hfl
     refine X.region C U U<|Rm C U U<|R.int C U U U U b_neq<|R.fixv (t:=255) (v':= .bool false) U (by rfl)<|Rm C U U<|Rm C U U<|R.int C U U U U b_neq<|R.fixv (t:=258) (v':= .bool false) U (by rfl)<|R.pickF C U U U U<|Rm C U U<|Rm C U U<|R.fixv (t:=261) (v':= .bool false) U (by rfl)<|Rm C U U<|R.pass C U U<|R.pass C U U<|R.pickF C U U U U<|R.pickF C U U U U<|Rm C U U<|Rm C U U<|Rf C 2 U U runUnderlying27 U sizeOf23<|Rl C U U isAgg23 (by repeat constructor) U<|Rn C U U runUnderlying23<|R.callP C U U U U (climbsR_c hJ (y15.mono hl16) (by omega) (by omega))<|R.int C U U U U b_neq<|R.fixv (t:=273) (v':= .bool false) U (by(rw [h48];rfl))<|R.pickF C U U U U<|Rm C U U<|Rm C U U<|R.fixv (t:=276) (v':= .bool false) U (by rfl)<|Rm C U U<|R.pass C U U<|R.pass C U U<|R.pass C U U<|R.pass C U U<|R.pass C U U<|R.pass C U U<|R.pickF C U U U U<|R.pickF C U U U U<|R.done C<|X.weaken ?_ (hcont () trivial)
     exact⟨U,U,U,U,U,U,U,U,trivial⟩
    ·obtain⟨s1,s2,_⟩:=f4 rfl
     subst s1
     refine X.region C U U<|Rm C U U<|R.int C U U U U b_neq<|R.fixv (t:=255) (v':= .bool false) U (by rfl)<|Rm C U U<|Rm C U U<|R.int C U U U U b_neq<|R.fixv (t:=258) (v':= .bool false) U (by rfl)<|R.pickF C U U U U<|Rm C U U<|Rm C U U<|R.fixv (t:=261) (v':= .bool true) U (by rfl)<|Rm C U U<|Rm C U U<|R.not C U U U<|R.fixv (t:=264) (v':= .bool false) U (by rfl)<|R.pickT C U U U U<|R.pickF C U U U U<|Rm C U U<|Rm C U U<|Rf C 2 U U runUnderlying27 U sizeOf23<|Rl C U U isAgg23 (by repeat constructor) U<|Rn C U U runUnderlying23<|R.callP C U U U U (climbsR_c hJ (y15.mono hl16) (by omega) (by omega))<|R.int C U U U U b_neq<|R.fixv (t:=273) (v':= .bool false) U (by(rw [h48];rfl))<|R.pickF C U U U U<|Rm C U U<|Rm C U U<|R.fixv (t:=276) (v':= .bool true) U (by rfl)<|Rm C U U<|Rm C U U<|Rn C U U runUnderlying28<|Rf C 3 U U runUnderlying27 U sizeOf24<|Rl C U U isAgg24 (by repeat constructor) U<|Rn C U U runUnderlying24<|R.int C U U U U b_neq<|R.fixv (t:=283) (v':= .bool false) U (Bv (by simp [s2])) ?_;refine R.pickT C U U U U<|R.pickF C U U U U<|R.done C<|X.weaken ?_ (hcont () trivial)
     exact⟨U,U,U,U,U,U,U,U,trivial⟩
   have hwr16:=(RO.le_trans hl2 m16) _ _ hwro
   refine X.cond C.1 U (fun h=>nomatch h) (fun _=>?_)
   refine X.skip C.1<|Xr C U U<|Rm C U U<|R.not C U U U<|Ad C U U<|Xs C<|Xr C U U<|Ad C U U<|X.block C.1<|X.loopI (ι:=Nat×RO) C.1 (fun s=>s.1≤few.length∧ro16.le s.2) (fun s=> [(41, .int .i64 (s.1:Int)),(40, .bool (!F||(few.take s.1).any fun g=>lifts d k.ks g (nth k.ws q))),(6, .pointer (some ⟨p6,0,none⟩)),(13, .pointer (some ⟨p13,0,none⟩)),(16, .int .i64 q),(36, .slice fb few.length fc),(38, .slice ob ownl.length oc),(39, .bool S)])
    (fun s=>⟨s.2,(p13, .cells [.slice (some ⟨kp,ko,none⟩) k.ks.length kc, .slice (some ⟨wp,wo,none⟩) k.ws.length wc].toArray 30 (0,0))::(p6, .cells [.int .i64 d.w, .slice pb2 d.ps.length pc2, .slice gb2 d.gs.length gc2, .slice cb2 d.cs.length cc2, .slice tb2 d.ts.length tc2].toArray 27 (0,0)):: []⟩) (fun s=>few.length-s.1) (0,ro16) ⟨Nat.zero_le _,RO.le_refl _⟩ rfl ⟨rfl,by simp [look],rfl,rfl,rfl,rfl,rfl,rfl,trivial⟩ fun s hs2 hnext2=>?_
   obtain⟨j2,ro17⟩:=s
   obtain⟨hj2,hle17⟩:=hs2
   simp only at hj2 hle17 hnext2⊢
   have k17:=RO.le_trans k16 hle17
   have m17:=RO.le_trans m16 hle17
   have hwr17:=hle17 _ _ hwr16
   refine Xs C<|Xr C U U<|Rm C U U<|Rm C U U<|Rn C U U runUnderlying28<|R.int C U U U U b_lss<|R.done C<|Xk C U (fun hlt2=>?_) (fun hlt2=>?_)
   ·have hj':j2<few.length:=by omega
    obtain⟨pp,off,cap,ll,ty,fq,hsl,hrop,hsub⟩:=(y15.mono (RO.le_trans hl16 hle17)).at ic_len (by omega)
    cases hsl
    have hat:=ic_at hsub hj'
    have hgz:=f2 _ (List.getElem_mem hj')
    have htk:(!F||(few.take (j2+1)).any fun g=>lifts d k.ks g (nth k.ws q))=((!F||(few.take j2).any fun g=>lifts d k.ks g (nth k.ws q))||lifts d k.ks few[j2] (nth k.ws q)):=by
     rw [List.take_succ_eq_append_getElem hj',List.any_append];simp [Bool.or_assoc]
    generalize few[j2]=z at hat hgz htk
    generalize(!F||(few.take j2).any fun g=>lifts d k.ks g (nth k.ws q))=s0 at htk⊢
    cases s0
    ·have _:=hgz
     refine X.skip C.1<|Xs C<|X.block C.1<|Xd C fun hok=>Dm C 0 hok U U U<|D.fixv (t:=294) (v':= .bool false) U (by rfl)<|Dm C 1 hok U U U<|D5 C 2 hok U U isAgg27 sizeOf27 (by repeat constructor) Tk5<|Df (off':=0) C 3 hok U U U runUnderlying30 U sizeOf28 U<|D1 C 4 hok U U isAgg28 (by repeat constructor) U<|Dm C 5 hok U U U<|Dm C 6 hok U U U<|Dx C 7 hok U U U runUnderlying28 sizeOf3<|D2 C 8 hok U U isAgg3 (by first|exact hrop|exact hl18 _ _ hrop) hat<|Df (off':=1) C 9 hok U U U runUnderlying30 U sizeOf28 U<|D1 C 10 hok U U isAgg28 (by repeat constructor) U<|Dm C 11 hok U U U<|Dx C 12 hok U U U runUnderlying28 sizeOf3<|D2 C 13 hok U U isAgg3 (by first|exact hwr17|exact hl18 _ _ hwr17) hat2<|De 14 (some 308) [false,false,false,false,false] hok (fun _ _ A hk=>?_)
     refine R.callR C U (A.w U U) (A.x U U) (A.s U U) (liftsOfR_c hJ (hvd.mono m17) hb (ha2.mono m17) len1 hgz hwz) fun v18 ro18 hl18 hq18=>hk _ _ ⟨QFs.nil, ?_⟩
     subst hq18
     refine Dp 15 hok (fun _ _ _ A h=>R.pickF C U (A.w U U) (A.x U U) (A.x U U) h)<|Da C 16 hok U U<|D.done C hok (by kernel_rfl)<|X.inBlock C.1<|X.region C U U<|Rm C U U<|Ra C U U U<|Ad C U U<|X.weaken ?_ (hnext2 (j2+1,ro18) ⟨hj',RO.le_trans hle17 hl18⟩ (by simp only;omega))
     exact⟨by simp [look],by simp [look,htk],rfl,rfl,rfl,rfl,rfl,rfl,trivial⟩
    ·have _:=hgz
     refine X.skip C.1<|Xs C<|X.block C.1<|Xd C fun hok=>Dm C 0 hok U U U<|D.fixv (t:=294) (v':= .bool true) U (by rfl)<|Dm C 1 hok U U U<|Du C 2 hok U<|Du C 3 hok U<|Du C 4 hok U<|Du C 5 hok U<|Du C 6 hok U<|Du C 7 hok U<|Du C 8 hok U<|Du C 9 hok U<|Du C 10 hok U<|Du C 11 hok U<|Du C 12 hok U<|Du C 13 hok U<|Du C 14 hok U<|Dp 15 hok (fun _ _ _ A h=>R.pickT C U (A.w U U) (A.x U U) (A.x U U) h)<|Da C 16 hok U U<|D.done C hok (by kernel_rfl)<|X.inBlock C.1<|X.region C U U<|Rm C U U<|Ra C U U U<|Ad C U U<|X.weaken ?_ (hnext2 (j2+1,ro17) ⟨hj',hle17⟩ (by simp only;omega))
     exact⟨by simp [look],by simp [look,htk],rfl,rfl,rfl,rfl,rfl,rfl,trivial⟩
   ·obtain rfl:j2=few.length:=by omega
    have hall:(!F||(few.take few.length).any fun g=>lifts d k.ks g (nth k.ws q))=true:=by
     rw [List.take_length]
     cases F
     ·rfl
     ·exact f3 rfl
    rw [hall]
    cases S
    ·have _:=hfl
     refine X.exit C.1 U<|Xs C<|Xd C fun hok=>Dm C 0 hok U U U<|D.fixv (t:=310) (v':= .bool true) U (by rfl)<|Dm C 1 hok U U U<|Dm C 2 hok U U U<|D.fixv (t:=312) (v':= .bool false) U (by rfl)<|Dp 3 hok (fun _ _ _ A h=>R.not C U (A.w U U) (A.x U U) h)<|D.fixv (t:=313) (v':= .bool true) U U<|D.fixv (t:=313) (v':= .bool true) U (by rfl)<|Dm C 4 hok U U U<|Du C 5 hok U<|Du C 6 hok U<|Du C 7 hok U<|Du C 8 hok U<|Du C 9 hok U<|Du C 10 hok U<|Du C 11 hok U<|Du C 12 hok U<|Du C 13 hok U<|Du C 14 hok U<|Du C 15 hok U<|Du C 16 hok U<|Du C 17 hok U<|Du C 18 hok U<|Du C 19 hok U<|Du C 20 hok U<|Du C 21 hok U<|Du C 22 hok U<|Du C 23 hok U<|Du C 24 hok U<|Du C 25 hok U<|Du C 26 hok U<|Du C 27 hok U<|Du C 28 hok U<|Dp 29 hok (fun _ _ _ A h=>R.pickT C U (A.w U U) (A.x U U) (A.x U U) h)<|Dp 30 hok (fun _ _ _ A h=>R.pickT C U (A.w U U) (A.x U U) (A.x U U) h)<|Dm C 31 hok U U U<|De 32 (some 342) [] hok (fun _ _ A hk=>?_)
     refine R.callR C U (A.w U U) (A.x U U) (A.s U U) ((hoisted_c _ (he.mono k17))) fun v19 ro19 hl19 hq19=>hk _ _ ⟨QFs.nil, ?_⟩
     refine Dp 33 hok (fun _ _ _ A h=>R.pickT C U (A.w U U) (A.x U U) (A.x U U) h)<|Da C 34 hok U U<|D.done C hok (by kernel_rfl)<|X.ret0 C (by kernel_rfl) U U func6 U (by exact(.tmp U .nil)) fun w9 hs9=>hret _ _ _ (RO.le_trans k17 hl19) ?_ w9 hs9
     exact hq19
    ·obtain⟨_,s2,s3⟩:=f4 rfl
     have hql:q.toNat<ownl.length:=by omega
     obtain⟨s4,s5⟩:=s3 _ (List.getElem?_eq_getElem hql)
     obtain⟨pp,off,cap,ll,ty,fq,hsl,hrop,hsub⟩:=(y16.mono hle17).at ic_len (by omega)
     cases hsl
     have hat:=ic_at hsub hql
     generalize ownl[q.toNat]=z at hat s4 s5
     refine X.exit C.1 U<|Xs C<|Xd C fun hok=>Dm C 0 hok U U U<|D.fixv (t:=310) (v':= .bool true) U (by rfl)<|Dm C 1 hok U U U<|Dm C 2 hok U U U<|D.fixv (t:=312) (v':= .bool true) U (by rfl)<|Dp 3 hok (fun _ _ _ A h=>R.not C U (A.w U U) (A.x U U) h)<|D.fixv (t:=313) (v':= .bool false) U U<|D.fixv (t:=313) (v':= .bool false) U (by rfl)<|Dm C 4 hok U U U<|Dm C 5 hok U U U<|Dm C 6 hok U U U<|Dx C 7 hok U U U runUnderlying28 sizeOf3<|D2 C 8 hok U U isAgg3 hrop hat<|Df (off':=2) C 9 hok U U U runUnderlying27 U sizeOf23 U<|D1 C 10 hok U U isAgg23 (by repeat constructor) U<|Ds C 11 hok U U runUnderlying23<|Di C 12 hok U U U U U (b_sub (by omega) (by omega))<|De 13 (some 323) [false,false] hok (fun _ _ A hk=>?_)
     refine R.callP C U (A.w U U) (A.x U U) (A.s U U) (betweenR_c hJ _ _ _ _) (hk _ _ ⟨QFs.nil, ?_⟩)
     refine D.fixv (t:=323) (v':= .bool true) U (Bv (by rw [between_iff];omega)) ?_;refine Dm C 14 hok U U U<|D5 C 15 hok U U isAgg27 sizeOf27 (by repeat constructor) Tk5<|Df (off':=0) C 16 hok U U U runUnderlying30 U sizeOf28 U<|D1 C 17 hok U U isAgg28 (by repeat constructor) U<|Dm C 18 hok U U U<|Dm C 19 hok U U U<|Dx C 20 hok U U U runUnderlying28 sizeOf3<|D2 C 21 hok U U isAgg3 (by first|exact hrop|exact hl18 _ _ hrop) hat<|Df (off':=1) C 22 hok U U U runUnderlying30 U sizeOf28 U<|D1 C 23 hok U U isAgg28 (by repeat constructor) U<|Dm C 24 hok U U U<|Dx C 25 hok U U U runUnderlying28 sizeOf3<|D2 C 26 hok U U isAgg3 (by first|exact hwr17|exact hl18 _ _ hwr17) hat2<|De 27 (some 337) [false,false,false,false,false] hok (fun _ _ A hk=>?_)
     refine R.callR C U (A.w U U) (A.x U U) (A.s U U) (liftsOfR_c hJ (hvd.mono m17) hb (ha2.mono m17) len1 s4 hwz) fun v18 ro18 hl18 hq18=>hk _ _ ⟨QFs.nil, ?_⟩
     subst hq18
     rw [s5]
     have k18:=RO.le_trans k17 hl18
     refine Dp 28 hok (fun _ _ _ A h=>R.pickT C U (A.w U U) (A.x U U) (A.x U U) h)<|Dp 29 hok (fun _ _ _ A h=>R.pickF C U (A.w U U) (A.x U U) (A.x U U) h)<|Dp 30 hok (fun _ _ _ A h=>R.pickT C U (A.w U U) (A.x U U) (A.x U U) h)<|Dm C 31 hok U U U<|D.fixv (t:=341) (v':= .bool true) U (by rfl)<|De 32 (some 342) [] hok (fun _ _ A hk=>?_)
     refine R.callR C U (A.w U U) (A.x U U) (A.s U U) ((hoisted_c _ (he.mono k18))) fun v19 ro19 hl19 hq19=>hk _ _ ⟨QFs.nil, ?_⟩
     refine Dp 33 hok (fun _ _ _ A h=>R.pickT C U (A.w U U) (A.x U U) (A.x U U) h)<|Da C 34 hok U U<|D.done C hok (by kernel_rfl)<|X.ret0 C (by kernel_rfl) U U func6 U (by exact(.tmp U .nil)) fun w9 hs9=>hret _ _ _ (RO.le_trans k18 hl19) ?_ w9 hs9
     exact hq19
end Go.Lg.B
namespace Go.Lg.B
open Go Go.Conc Go.Lg Go.Proofs Go.WideShapes Go.ChangeShapes Go.Proofs.Tryz
theorem cells235:prog.cellsOf 235=1:=by kernel_rfl
section
variable {H:Type}{enc0:TypeId×Value→H}{W:World}{base:Nat}{sp:Nat→Bool}{held:Bool}
theorem uc_of{n:Nat}{cs:List Value}{z:DataW H×List MemPlace}(h:DataW.trod enc0 prog W base sp held n 235 cs=some z):∃s:U16,cs=uc s:=by
 obtain⟨x,e,w⟩:=int_of_trod underlying235 h
 have hw:0≤x∧x≤65535:=by simpa [Lit.wf,IntKind.min,IntKind.max,IntKind.signed,IntKind.bits] using w
 exact⟨⟨x,hw⟩,e⟩
theorem u16s_of{n:Nat}{cs:List Value}{z:DataW H×List MemPlace}(h:DataW.trod enc0 prog W base sp held n 52 cs=some z):∃v xs,cs= [v]∧Ls uc 1 (fun b=>W.heap[b]?) v xs:=
 ls_of_trod underlying52 cells235 (by decide) uc_len (fun _ _ _ h=>uc_of h) h
theorem argU16s{r:Reach}{b0:Nat}{v:Value}{d:DataW H}{p:List MemPlace}(hv:Value.okWide prog W r b0 52 v)(h:DataW.Trod enc0 prog W base sp held 52 v d p):∃xs,Ls uc 1 (fun b=>W.heap[b]?) v xs:=by
 obtain⟨a,len,cap,rfl⟩:=okWide_slice underlying52 hv
 obtain⟨n,h⟩:=h
 obtain⟨v',xs,e,hl⟩:=u16s_of (cs:= [Value.slice a len cap]) h
 cases e
 exact⟨xs,hl⟩
end
end Go.Lg.B
namespace Go.Lg.B
open Go Go.Proofs Go.Proofs.YtchjgmkeemdhlaaGreatDoor Go.Proofs.Tryz
theorem real_k1:(Rows.tackleRealRow.inPlace==prog.inPlace 6)=true:=by kernel_rfl
theorem real_k2:(Rows.tackleRealRow.unfollowed==prog.unfollowed 6)=true:=by kernel_rfl
theorem real_k3:(Rows.tackleRealRow.recurses==prog.recurses 6)=true:=by kernel_rfl
theorem real_k4:(Rows.tackleRealRow.named==prog.varsNamed 6)=true:=by kernel_rfl
theorem real_name:prog.funcNamed "lagan/laganlaw07.TackleReal" =some 6:=by kernel_rfl
theorem real_goes:true=Rows.tackleRealRow.goesBy prog:=by kernel_rfl
theorem real_wf:Rows.tackleRealRow.wfByText (OpenSpec.ofChange Rows.tackleRealSpec)=true:=by kernel_rfl
theorem real_facts:joinedFacts prog 6 Tryz.f6 Rows.tackleRealSpec Rows.tackleRealRow=true:=by
 unfold joinedFacts
 exact(and_mk (and_mk (and_mk (and_mk (and_mk (and_mk (and_mk (and_mk (and_mk (and_mk (and_mk (and_mk (and_mk (and_mk (and_mk (and_mk (and_mk (and_mk (and_mk (and_mk (and_mk (and_mk (and_mk (and_mk (and_mk (and_mk (and_mk (and_mk (and_mk (and_mk (and_mk (by as_aux_lemma=>kernel_rfl)
  k_lo)
  k_mr)
  (by as_aux_lemma=>kernel_rfl))
  (by as_aux_lemma=>kernel_rfl))
  (by as_aux_lemma=>kernel_rfl))
  k_stops)
  (by as_aux_lemma=>kernel_rfl))
  k_knobs)
  real_k1)
  real_k2)
  real_k3)
  real_k4)
  (by as_aux_lemma=>kernel_rfl))
  (by as_aux_lemma=>kernel_rfl))
  (by as_aux_lemma=>kernel_rfl))
  (by as_aux_lemma=>kernel_rfl))
  (by as_aux_lemma=>kernel_rfl))
  (by as_aux_lemma=>kernel_rfl))
  (by as_aux_lemma=>kernel_rfl))
  (by as_aux_lemma=>kernel_rfl))
  (by as_aux_lemma=>kernel_rfl))
  (beq_iff_eq.2 k_pk.symm))
  (by as_aux_lemma=>kernel_rfl))
  k_heard)
  k_may)
  (beq_iff_eq.2 k_lift.symm))
  (beq_iff_eq.2 k_make))
  (by as_aux_lemma=>kernel_rfl))
  (by as_aux_lemma=>kernel_rfl))
  (by as_aux_lemma=>kernel_rfl))
  (by as_aux_lemma=>kernel_rfl))
end Go.Lg.B
namespace Go.Proofs.YtchjgmkeemdhlaaGreatDoor
open Go Go.Conc Go.Lg Go.Lg.B Go.ChangeShapes Go.RowKit Go.WideShapes
theorem real_lifted(os:Os)(started:os.Started)(H:Type)(enc:TypeId×Value→H):
  ReturnsInLeavingWide {} Tryz.checked os 6 .any (fun w args=>(Rows.tackleRealSpec.pre enc Tryz.prog Tryz.f6 [] false w args∧laidMetH Tryz.prog laid1 w)∧sizedMet enc Tryz.prog Tryz.f6 (OpenSpec.ofChange Rows.tackleRealSpec) false w args)
   (Rows.tackleRealSpec.post enc Tryz.prog Tryz.f6 false true false false):=by
 refine leaving_of_root (C:=Tryz.checked) (tb:=4) (X:=fun w _=>laidMetH Tryz.prog laid1 w) (fun _ _ _ hh h=>h.of_heap hh) own0 started Tryz.func6 laid0 (by
   intro t ht
   rw [Tryz.params6] at ht
   have hm:t∈ [27,52,5,5,5,5]:=ht
   have hall:([27,52,5,5,5,5].all fun u=>Tryz.prog.readableRec u && decide (u<Tryz.prog.types.size))=true:=by kernel_rfl
   have:=List.all_eq_true.1 hall t hm
   rw [Bool.and_eq_true,decide_eq_true_eq] at this
   exact this) rfl (by kernel_rfl) Tryz.underlying4
  (ChangeSpec.witness_shaped (enc:=enc) (C:=Tryz.checked) (os:=os) (X:=fun w _=>laidMetH Tryz.prog laid1 w) false (World.doorLaid Tryz.prog 89 os) #[.agg #[.int .i64 0, .slice none 0 0, .slice none 0 0, .slice none 0 0, .slice none 0 0], .slice none 0 0, .int .u8 0, .int .u8 0, .int .u8 0, .int .u8 0] 8 rfl (door_shaped os _) (by kernel_rfl) (by kernel_rfl) (by kernel_rfl) (door_met os _)) ?_
 intro W base args ds gs before hval hW _ _ hL
 obtain⟨p,q,hA,hV,rfl,_,_⟩:=hW
 obtain⟨rfl,rfl⟩:=trodVars_none hV
 have hA:DataW.TrodAll enc Tryz.prog W 0 (fun _=>true) true Tryz.f6.params.toList args.toList ds p:=hA
 have hval:∀ (j:Nat) t v,Tryz.f6.params[j]? =some t→args[j]? =some v→Value.okWide Tryz.prog W .any base t v:=hval
 rw [Tryz.params6] at hA hval
 obtain⟨v1,l1,d1,k1,p1,q1,e1,rfl,rfl,h1,hA⟩:=trodAll_cons hA
 obtain⟨v2,l2,d2,k2,p2,q2,rfl,rfl,rfl,h2,hA⟩:=trodAll_cons hA
 obtain⟨v3,l3,d3,k3,p3,q3,rfl,rfl,rfl,h3,hA⟩:=trodAll_cons hA
 obtain⟨v4,l4,d4,k4,p4,q4,rfl,rfl,rfl,h4,hA⟩:=trodAll_cons hA
 obtain⟨v5,l5,d5,k5,p5,q5,rfl,rfl,rfl,h5,hA⟩:=trodAll_cons hA
 obtain⟨v6,l6,d6,k6,p6,q6,rfl,rfl,rfl,h6,hA⟩:=trodAll_cons hA
 obtain⟨rfl,rfl,rfl⟩:=trodAll_nil hA
 have ea:args= #[v1,v2,v3,v4,v5,v6]:=Array.toList_inj.1 e1
 subst ea
 obtain⟨b,b1⟩:=argBk (hval 0 27 v1 rfl rfl) h1
 obtain⟨xs,o0⟩:=argU16s (hval 1 52 v2 rfl rfl) h2
 obtain⟨a1,rfl,o1⟩:=argU8 (hval 2 5 v3 rfl rfl) h3
 obtain⟨a2,rfl,o2⟩:=argU8 (hval 3 5 v4 rfl rfl) h4
 obtain⟨a3,rfl,o3⟩:=argU8 (hval 4 5 v5 rfl rfl) h5
 obtain⟨a4,rfl,o4⟩:=argU8 (hval 5 5 v6 rfl rfl) h6
 exact⟨rfl,real_root o1 o2 o3 o4 (env_of_laid hL) b1 o0⟩
theorem real_row:Rows.TackleRealSaid:=
 OpenClaim.holds_of_wide_leaving 6 Tryz.f6 rfl rfl rfl rfl rfl rfl rfl ⟨rfl,rfl,rfl,rfl,rfl⟩ rfl rfl rfl rfl rfl real_name Tryz.func6 real_facts
  (of_decide_eq_true (by kernel_rfl)) (by unfold Func.isWrapper;first|(rw [if_pos (by decide+kernel)];kernel_rfl)|(rw [if_neg (by decide+kernel)];exact⟨rfl,rfl⟩))
  (fun os started H enc _=>real_lifted os started H enc)
theorem real_holds:Rows.TackleRealCardSaid:=
 card_goes .later [.funcs] true (true, "6ec45924a9ef3528b91853e2f3d4ce9a8ac3f7423f5bdc8d9ecf7c969235976f") true
  real_row real_wf tackleReal_row_tie rfl ⟨rfl,rfl⟩ k_main rfl
  (fun f fn hf hfn=>by
   obtain rfl:f=6:=Option.some.inj (real_name.symm.trans hf)|>.symm
   obtain rfl:fn=Tryz.f6:=(Option.some.inj (Tryz.func6.symm.trans hfn)).symm
   exact⟨k_looks,fun j t ht=>by
    rw [Tryz.params6] at ht
    have hm:t∈ [27,52,5,5,5,5]:=by simpa using Array.mem_of_getElem? ht
    have hall:([27,52,5,5,5,5].all fun u=> !Tryz.prog.wantsStandIn u)=true:=by kernel_rfl
    exact(show Tryz.prog.wantsStandIn t=false by simpa using List.all_eq_true.1 hall t hm)⟩)
  real_goes
end Go.Proofs.YtchjgmkeemdhlaaGreatDoor
