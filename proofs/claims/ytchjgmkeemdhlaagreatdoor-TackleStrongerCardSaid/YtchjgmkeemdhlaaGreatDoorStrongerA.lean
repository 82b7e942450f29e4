/-
  It is proved that the given function answers true for every input, whatever is scheduled: the statement Stronger of the seat. Conditions: none but those of the given statement itself.
-/
import Derived.Test.YtchjgmkeemdhlaaGreatDoorKE
import Derived.Conc.Holds
set_option maxRecDepth 100000
set_option maxHeartbeats 2000000
set_option linter.all false
set_option linter.unusedVariables false
set_option linter.unusedSimpArgs false
set_option linter.unusedSectionVars false
namespace Go.Lg
open Go
theorem Bv{a c:Bool}(h:a=c):Value.bool a=Value.bool c:=congrArg _ h
end Go.Lg
namespace Go.Lg
open Go Go.Conc
theorem X.afterI{J:Goroutine→Mem→Prop}{b:Frame}{cs:List Frame}{n:Nat}{ds:List Deferred}{σ:Slots}{M:Mem}{k:List Item}{it:Item}{ι:Type}(Ex:ι→Prop)(σe:ι→Slots)(Me:ι→Mem)(hk:∀s,Ex s→X J b cs n k ds (σe s) (Me s))
  (h:(∀s,Ex s→X J b cs n k ds (σe s) (Me s))→X J b cs n (it::k) ds σ M):X J b cs n (it::k) ds σ M:=h hk
section
variable {P:Program}{main:Bool}{J:Goroutine→Mem→Prop}{b:Frame}(C:Ctx P main J b){cs:List Frame}{n:Nat}{ds:List Deferred}{σ:Slots}{ro:RO}{own:List (Nat×Obj)}{k:List Item}{ops:Array Oper}{i:Nat}{rest:List Nat}
variable {d:Nat}{ty:TypeId}{pos:String}{af:Array Edge}{g:Option (Nat×Bool)}
end
section
variable {P:Program}{main:Bool}{J:Goroutine→Mem→Prop}{b:Frame}(C:Ctx P main J b){cs:List Frame}{n:Nat}{ds:List Deferred}{σ:Slots}{k:List Item}{ops:Array Oper}{i:Nat}{rest:List Nat}
 {d:Nat} {ty:TypeId} {pos:String} {af:Array Edge} {g:Option (Nat×Bool)}
include C
end
end Go.Lg
namespace Go.Lg.B
open Go Go.Conc Go.Lg Go.Proofs Go.Proofs.Tryz
def Bk.borne(b:Bk)(i:Nat)(r:Rc):Bk:={b with ps:=b.ps.modify i fun p=>{p with r:=r} }
theorem cmpI_flip(x y:Int):cmpI y x= -cmpI x y:=by unfold cmpI;split<;>split<;>(try split)<;>omega
theorem cmpL_flip:∀a c:List Int,cmpL c a= -cmpL a c
 | [], []=>rfl
 | [],_::_=>rfl
 |_::_, []=>rfl
 |x::xs,y::ys=>by
  have h:=cmpI_flip x y
  have ih:=cmpL_flip xs ys
  simp only [cmpL]
  split<;>split<;>omega
theorem cmpL_zero:∀ {a c:List Int},cmpL a c=0→a=c
 | [], [],_=>rfl
 | [],_::_,h=>by simp [cmpL] at h
 |_::_, [],h=>by simp [cmpL] at h
 |x::xs,y::ys,h=>by
  simp only [cmpL] at h
  split at h
  ·contradiction
  ·rename_i hx
   simp only [ne_eq,Decidable.not_not] at hx
   rw [cmpI_zero.1 hx,cmpL_zero h]
theorem cmpL_refl:∀a:List Int,cmpL a a=0
 | []=>rfl
 |x::xs=>by
  have:cmpI x x=0:=cmpI_zero.2 rfl
  simp [cmpL,this,cmpL_refl xs]
theorem behind_mono{n m s:Int}(h:n≤m)(hs:0≤s∧s≤4):behind n s≤behind m s:=by
 have:s=0∨s=1∨s=2∨s=3∨s=4:=by omega
 unfold behind
 rcases this with rfl|rfl|rfl|rfl|rfl<;>omega
inductive LeL:List Int→List Int→Prop
 |nil:LeL [] []
 |cons {x y:Int} {a c:List Int}:x≤y→LeL a c→LeL (x::a) (y::c)
theorem LeL.getD{a c:List Int}(h:LeL a c):∀i,a.getD i 0≤c.getD i 0:=by
 induction h with
 |nil=>intro i;simp
 |cons h _ ih=>
  intro i
  cases i with
  |zero=>simpa using h
  |succ i=>simpa using ih i
theorem pullsGo_mono{b:Bk}(hb:b.good):∀ {g:List Int} {n m:Int},(∀x∈g,0≤x∧x<b.ps.length)→n≤m→LeL (pullsGo b n g) (pullsGo b m g)
 | [],_,_,_,_=> .nil
 |x::g,n,m,h,hn=>by
  have hx:=h x (by simp)
  have:=behind_mono hn (hb.sheaves hx.1 hx.2)
  exact .cons this (pullsGo_mono hb (fun z hz=>h z (by simp [hz])) this)
theorem pulls_mono{b:Bk}(hb:b.good){g n m:Int}(h0:0≤g)(h1:g<b.gs.length)(hn:n≤m):LeL (pulls b g n) (pulls b g m):= .cons hn (pullsGo_mono hb (hb.gear h0 h1).2.1 hn)
theorem gives_mem{b:Bk}{p:List Int}{g n x:Int}:x∈gives b p g n↔(∃i:Nat,i<(b.gear g).length∧nth p ((b.gear g).getD i 0)<(pulls b g n).getD i 0∧x=i)∨(b.w<(pulls b g n).getD (b.gear g).length 0∧x=(b.gear g).length):=by
 unfold gives
 rw [List.mem_append,List.mem_map]
 constructor
 ·rintro(⟨i,hi,rfl⟩|h)
  ·obtain⟨h1,h2⟩:=List.mem_filter.1 hi
   exact .inl ⟨i,List.mem_range.1 h1,by simpa [givesP] using h2,rfl⟩
  ·split at h
   ·rename_i h2;exact .inr ⟨h2,by simpa using h⟩
   ·cases h
 ·rintro(⟨i,h1,h2,rfl⟩|⟨h1,rfl⟩)
  ·exact .inl ⟨i,List.mem_filter.2 ⟨List.mem_range.2 h1,by simpa [givesP] using h2⟩,rfl⟩
  ·exact .inr (by rw [if_pos h1];simp)
theorem gives_sub{b:Bk}(hb:b.good){p:List Int}{g n m x:Int}(h0:0≤g)(h1:g<b.gs.length)(hn:n≤m)(h:x∈gives b p g n):x∈gives b p g m:=by
 have hm:=(pulls_mono hb h0 h1 hn).getD
 rw [gives_mem] at h⊢
 rcases h with⟨i,h2,h3,h4⟩|⟨h3,h4⟩
 ·exact .inl ⟨i,h2,by have:=hm i;omega,h4⟩
 ·exact .inr ⟨by have:=hm (b.gear g).length;omega,h4⟩
theorem gives_bd{b:Bk}{p:List Int}{g n x:Int}(h:x∈gives b p g n):0≤x∧x≤(b.gear g).length:=by
 rw [gives_mem] at h
 rcases h with⟨i,h2,_,rfl⟩|⟨_,rfl⟩<;>omega
theorem lifts_iff{b:Bk}{p:List Int}{g n:Int}(hn:n≠0):lifts b p g n=true↔gives b p g n= []:=by
 simp [lifts,hn]
theorem lifts_mono{b:Bk}(hb:b.good){p:List Int}{g n m:Int}(h0:0≤g)(h1:g<b.gs.length)(h00:0≤n)(hn:n≤m)(h:lifts b p g m=true):lifts b p g n=true:=by
 by_cases e:n=0
 ·subst e;rfl
 ·rw [lifts_iff (by omega)] at h
  rw [lifts_iff e,List.eq_nil_iff_forall_not_mem]
  intro x hx
  have:=gives_sub hb h0 h1 hn hx
  rw [h] at this;cases this
theorem numbers_mem{l:List Int}{x:Int}:x∈numbers l↔x∈l:=by
 have hs:(l.mergeSort fun x y=>decide (x≤y)).Pairwise (· ≤ ·):=by
  have:=List.pairwise_mergeSort (le:=fun x y:Int=>decide (x≤y)) (by intro a b c;simp;omega) (by intro a b;simp;omega) l
  exact this.imp (by intro a b;simp)
 have hf:=fold_asc _ [] .nil hs (by simp)
 show x∈List.foldl cstep [] _↔_
 rw [hf.2]
 simp [(List.mergeSort_perm l _).mem_iff]
theorem numbers_asc(l:List Int):(numbers l).Pairwise (· < ·):=by
 have hs:(l.mergeSort fun x y=>decide (x≤y)).Pairwise (· ≤ ·):=by
  have:=List.pairwise_mergeSort (le:=fun x y:Int=>decide (x≤y)) (by intro a b c;simp;omega) (by intro a b;simp;omega) l
  exact this.imp (by intro a b;simp)
 exact(fold_asc _ [] .nil hs (by simp)).1
def allLift(b:Bk)(g n:Int):Bool:=(cases b).all fun t=>lifts b t.1 g n
theorem allLift_mono{b:Bk}(hb:b.good){g n m:Int}(h0:0≤g)(h1:g<b.gs.length)(h00:0≤n)(hn:n≤m)(h:allLift b g m=true):allLift b g n=true:=by
 unfold allLift at h⊢
 rw [List.all_eq_true] at h⊢
 exact fun t ht=>lifts_mono hb h0 h1 h00 hn (h t ht)
theorem allLift_zero(b:Bk)(g:Int):allLift b g 0=true:=by
 unfold allLift;rw [List.all_eq_true];exact fun _ _=>rfl
theorem mostGo_law{b:Bk}(hb:b.good){g:Int}(h0:0≤g)(h1:g<b.gs.length):∀ (m:Nat) (n mo:Int),0≤n→(∀k,0≤k→k<n→allLift b g k=true)→mo<n→(0<n→mo=n-1)→
  (mostGo b g n m mo=mo∨(n≤mostGo b g n m mo∧mostGo b g n m mo<n+m))∧∀k,n≤k→k<n+m→(allLift b g k=true↔k≤mostGo b g n m mo)
 |0,n,mo,_,_,_,_=>⟨.inl rfl,fun k h1 h2=>by omega⟩
 |m+1,n,mo,hn,hl,hmo,hmo2=>by
  have e:mostGo b g n (m+1) mo=if allLift b g n=true then mostGo b g (n+1) m n else mo:=rfl
  rw [e]
  by_cases hA:allLift b g n=true
  ·rw [if_pos hA]
   obtain⟨h3,h4⟩:=mostGo_law hb h0 h1 m (n+1) n (by omega) (fun k hk hk2=>by
    by_cases e2:k=n
    ·rw [e2];exact hA
    ·exact hl k hk (by omega)) (by omega) (fun _=>by omega)
   refine⟨.inr ?_,fun k hk hk2=>?_⟩
   ·rcases h3 with h3|h3<;>omega
   ·by_cases e2:k=n
    ·subst e2
     refine⟨fun _=>?_,fun _=>hA⟩
     rcases h3 with h3|h3<;>omega
    ·exact h4 k (by omega) (by omega)
  ·rw [if_neg hA]
   refine⟨.inl rfl,fun k hk _=>⟨fun h=>?_,fun h=>by omega⟩⟩
   exact absurd (allLift_mono hb h0 h1 hn hk h) hA
theorem most_law{b:Bk}(hb:b.good){g:Int}(h0:0≤g)(h1:g<b.gs.length):0≤most b g∧most b g≤99∧∀k,0≤k→k≤99→(allLift b g k=true↔k≤most b g):=by
 have e:most b g=if allLift b g 0=true then mostGo b g 1 99 0 else 0:=rfl
 rw [e,if_pos (allLift_zero b g)]
 obtain⟨h3,h4⟩:=mostGo_law hb h0 h1 99 1 0 (by omega) (fun k hk hk2=>(show 0=k by omega)▸allLift_zero b g) (by omega) (fun _=>by omega)
 refine⟨by rcases h3 with h3|h3<;>omega,by rcases h3 with h3|h3<;>omega,fun k hk hk2=>?_⟩
 by_cases e2:k=0
 ·subst e2
  exact⟨fun _=>by rcases h3 with h3|h3<;>omega,fun _=>allLift_zero b g⟩
 ·exact h4 k (by omega) (by omega)
theorem weak_mem{b:Bk}{g n x:Int}:x∈weak b g n↔ ∃t∈cases b,x∈gives b t.1 g n:=by
 rw [weak,numbers_mem,List.mem_flatMap]
theorem weak_bd{b:Bk}{g n:Int}:∀x∈weak b g n,0≤x∧x≤(b.gear g).length:=fun x hx=>by
 obtain⟨t,_,h⟩:=weak_mem.1 hx
 exact gives_bd h
theorem weights_in{b:Bk}{k:Int}(h0:0≤k)(h1:k<b.cs.length){w:List Int}(hw:w∈weightsL b):(b.piece k).r.lo≤nth w k∧nth w k≤(b.piece k).r.hi:=by
 have hk:k.toNat<b.cs.length:=by omega
 have hpk:b.piece k=b.cs[k.toNat]:=by simp [Bk.piece,List.getD_eq_getElem?_getD,hk]
 obtain⟨_,h⟩:=mem_spread.1 hw
 obtain⟨x,hx,h3⟩:=h k.toNat (b.cs[k.toNat]).r (by simp [hk])
 rw [hpk]
 simpa [nth,List.getD_eq_getElem?_getD,hx] using h3
theorem how_one{n all:Nat}(h:0<all):how n all=1↔n=all:=by
 unfold how
 split
 ·constructor
  ·intro h2;cases h2
  ·intro h2;omega
 ·split
  ·simp_all
  ·constructor
   ·intro h2;cases h2
   ·intro h2;contradiction
theorem filter_all{α:Type}{p:α→Bool}{l:List α}:(l.filter p).length=l.length↔l.all p=true:=by
 rw [List.length_filter_eq_length_iff,List.all_eq_true]
theorem open_zero{b:Bk}(h:checkBook b=0)(hL:cases b≠ []):openH b 0=0:=by rw [openH_zero,if_neg (fun e=>e h),if_neg hL]
theorem mostH_eq{b:Bk}{g:Int}(h:there g b.gs.length=0):mostH b g=openH b 0:=by simp [mostH,firstH,h]
theorem weakH_eq{b:Bk}{g l:Int}(h:there g b.gs.length=0)(h2:loadH l=0):weakH b g l=openH b 0:=by simp [weakH,firstH,h,h2]
theorem mayH_eq{b:Bk}{g k:Int}(h:there g b.gs.length=0)(h2:there k b.cs.length=0):mayH b g k=openH b 0:=by simp [mayH,firstH,h,h2]
theorem loadOf_bd{x:Int}:1≤loadOf x∧loadOf x≤99:=by unfold loadOf;omega
theorem weak_len{b:Bk}(hb:b.good){g n:Int}(h0:0≤g)(h1:g<b.gs.length):(weak b g n).length≤5:=by
 have hl:=hb.gearLen h0 h1
 exact nodup_len (m:=5) ((numbers_asc _).imp fun h=>by omega) fun x hx=>by have:=weak_bd x hx;omega
theorem smaller_iff{a c:List Int}:smaller a c=true↔a.length<c.length∨a.length=c.length∧cmpL a c<0:=by simp [smaller]
theorem cmpL_trans:∀ {a c e:List Int},cmpL a c<0→cmpL c e<0→cmpL a e<0
 | [], [],_,h,_=>by simp [cmpL] at h
 | [],_::_, [],_,h=>by simp [cmpL] at h
 | [],_::_,_::_,_,_=>by simp [cmpL]
 |_::_, [],_,h,_=>by simp [cmpL] at h
 |_::_,_::_, [],_,h=>by simp [cmpL] at h
 |x::xs,y::ys,z::zs,h1,h2=>by
  simp only [cmpL] at h1 h2⊢
  by_cases e1:cmpI x y=0
  ·rw [if_neg (by simp [e1])] at h1
   have:=cmpI_zero.1 e1
   subst this
   by_cases e2:cmpI x z=0
   ·rw [if_neg (by simp [e2])] at h2⊢
    exact cmpL_trans h1 h2
   ·rw [if_pos e2] at h2⊢;exact h2
  ·rw [if_pos e1] at h1
   have h3:=cmpI_neg.1 h1
   by_cases e2:cmpI y z=0
   ·have:=cmpI_zero.1 e2
    subst this
    rw [if_pos e1];exact h1
   ·rw [if_pos e2] at h2
    have h4:=cmpI_neg.1 h2
    have h5:cmpI x z<0:=cmpI_neg.2 (by omega)
    rw [if_pos (by omega)];exact h5
theorem smaller_trans{a c e:List Int}(h1:smaller a c=true)(h2:smaller c e=true):smaller a e=true:=by
 rw [smaller_iff] at*
 rcases h1 with h1|⟨h1,h1'⟩
 ·rcases h2 with h2|⟨h2,_⟩<;>exact .inl (by omega)
 ·rcases h2 with h2|⟨h2,h2'⟩
  ·exact .inl (by omega)
  ·exact .inr ⟨by omega,cmpL_trans h1' h2'⟩
theorem smaller_irr(a:List Int):¬smaller a a=true:=by rw [smaller_iff,cmpL_refl];omega
theorem smaller_total{a c:List Int}(h1:¬smaller a c=true)(h2:¬smaller c a=true):a=c:=by
 rw [smaller_iff] at*
 have h3:=cmpL_flip a c
 refine cmpL_zero ?_
 have e1:a.length=c.length:=by omega
 have e2:¬cmpL a c<0:=fun h=>h1 (.inr ⟨e1,h⟩)
 have e3:¬cmpL c a<0:=fun h=>h2 (.inr ⟨e1.symm,h⟩)
 omega
theorem offer_least:∀ (l:List (List Int)) (o:List Int),∃y,l.foldl offer (some o)=some y∧(y=o∨y∈l)∧(∀x,x=o∨x∈l→¬smaller x y=true)
 | [],o=>⟨o,rfl, .inl rfl,fun x hx=>by
  rcases hx with rfl|hx
  ·exact smaller_irr _
  ·cases hx⟩
 |x::l,o=>by
  rw [List.foldl_cons,offer]
  by_cases h:smaller x o=true
  ·rw [if_pos h]
   obtain⟨y,h1,h2,h3⟩:=offer_least l x
   refine⟨y,h1, ?_,fun z hz=>?_⟩
   ·rcases h2 with rfl|h2
    ·exact .inr (by simp)
    ·exact .inr (by simp [h2])
   ·rcases hz with rfl|hz
    ·exact fun hz=>h3 x (.inl rfl) (smaller_trans h hz)
    ·rcases List.mem_cons.1 hz with rfl|hz
     ·exact h3 _ (.inl rfl)
     ·exact h3 z (.inr hz)
  ·rw [if_neg h]
   obtain⟨y,h1,h2,h3⟩:=offer_least l o
   refine⟨y,h1, ?_,fun z hz=>?_⟩
   ·rcases h2 with rfl|h2
    ·exact .inl rfl
    ·exact .inr (by simp [h2])
   ·rcases hz with rfl|hz
    ·exact h3 _ (.inl rfl)
    ·rcases List.mem_cons.1 hz with rfl|hz
     ·intro hz
      have h4:=h3 o (.inl rfl)
      by_cases h5:smaller o z=true
      ·exact h4 (smaller_trans h5 hz)
      ·rw [smaller_total h h5] at hz
       exact h4 hz
     ·exact h3 z (.inr hz)
theorem fewestOf_none{n:Nat}{is:Nat→Bool}(h:∀m,m<2^n→is m=false):fewestOf n is=none:=by
 have:(List.range (2^n)).filter is= []:=by
  rw [List.filter_eq_nil_iff]
  intro m hm
  rw [h m (List.mem_range.1 hm)];simp
 rw [fewestOf,this];rfl
theorem fewestOf_some{n:Nat}{is:Nat→Bool}{m:Nat}(hm:m<2^n)(h:is m=true):∃y,fewestOf n is=some y∧(∃m',m'<2^n∧is m'=true∧y=listOf n m')∧∀m',m'<2^n→is m'=true→¬smaller (listOf n m') y=true:=by
 have hmem:m∈(List.range (2^n)).filter is:=List.mem_filter.2 ⟨List.mem_range.2 hm,h⟩
 have hall:∀m',m'∈(List.range (2^n)).filter is↔m'<2^n∧is m'=true:=fun m'=>by rw [List.mem_filter,List.mem_range]
 unfold fewestOf
 generalize(List.range (2^n)).filter is=L at hmem hall
 cases L with
 |nil=>cases hmem
 |cons k L=>
  obtain⟨y,h1,h2,h3⟩:=offer_least (L.map (listOf n)) (listOf n k)
  refine⟨y,by simpa [offer] using h1, ?_,fun m' hm' his=>?_⟩
  ·rcases h2 with rfl|h2
   ·have:=(hall k).1 (by simp)
    exact⟨k,this.1,this.2,rfl⟩
   ·obtain⟨m',hm',rfl⟩:=List.mem_map.1 h2
    have:=(hall m').1 (by simp [hm'])
    exact⟨m',this.1,this.2,rfl⟩
  ·have:=(hall m').2 ⟨hm',his⟩
   rcases List.mem_cons.1 this with rfl|this
   ·exact h3 _ (.inl rfl)
   ·exact h3 _ (.inr (List.mem_map_of_mem this))
theorem renew_zero(p:List Int):renew 0 p=p:=by
 have:∀ (l:List Int) (i:Nat),renewGo 0 i l=l:=fun l=>by
  induction l with
  |nil=>exact fun _=>rfl
  |cons x l ih=>exact fun i=>by simp [renewGo,ih]
 exact this p 0
theorem spread_ne{rs:List Rc}(h:∀r∈rs,r.lo≤r.hi):spread rs≠ []:=by
 have:rs.map (fun r=>r.lo)∈spread rs:=mem_spread.2 ⟨by simp,fun i r hr=>⟨r.lo,by simp [hr],Int.le_refl _,h r (List.mem_of_getElem? hr)⟩⟩
 intro e;rw [e] at this;cases this
theorem weightsL_ne{b:Bk}(hb:b.good):weightsL b≠ []:=spread_ne fun r hr=>by
 obtain⟨c,hc,rfl⟩:=List.mem_map.1 hr
 have:=hb.cs c hc
 unfold Pc.fine at this;omega
theorem cases_nil{b:Bk}(hb:b.good):cases b= []↔bearsL b= []:=by
 constructor
 ·intro h
  rw [List.eq_nil_iff_forall_not_mem] at h⊢
  intro p hp
  cases hw:weightsL b with
  |nil=>exact weightsL_ne hb hw
  |cons w ws=>exact h (p,w) (mem_cases.2 ⟨hp,by rw [hw];simp⟩)
 ·intro h
  unfold cases
  rw [h];rfl
theorem bare_cases{b:Bk}(hb:b.good)(ht:b.ts= []):cases b≠ []:=by
 rw [Ne,cases_nil hb]
 have hr:∀p,right b p=true:=fun p=>by unfold right;rw [ht];rfl
 have h1:spread (b.ps.map Pt.r)≠ []:=spread_ne fun r hr=>by
  obtain⟨c,hc,rfl⟩:=List.mem_map.1 hr
  have:=hb.ps c hc
  unfold Pt.fine at this;omega
 unfold bearsL
 rw [List.filter_eq_self.2 (fun p _=>hr p)]
 exact h1
theorem pullsGo_alike{b c:Bk}(h:∀x,b.sheaves x=c.sheaves x):∀ (q:List Int) (n:Int),pullsGo b n q=pullsGo c n q
 | [],_=>rfl
 |x::q,n=>by rw [pullsGo,pullsGo,h,pullsGo_alike h q]
theorem gives_alike{b c:Bk}(hw:b.w=c.w)(hg:b.gs=c.gs)(h:∀x,b.sheaves x=c.sheaves x)(p:List Int)(g n:Int):gives b p g n=gives c p g n:=by
 have e:∀g,b.gear g=c.gear g:=fun g=>by unfold Bk.gear;rw [hg]
 unfold gives pulls
 rw [hw,e,pullsGo_alike h]
theorem lifts_alike{b c:Bk}(hw:b.w=c.w)(hg:b.gs=c.gs)(h:∀x,b.sheaves x=c.sheaves x)(p:List Int)(g n:Int):lifts b p g n=lifts c p g n:=by
 unfold lifts;rw [gives_alike hw hg h]
theorem nth_nat(l:List Int)(i:Nat):nth l i=l.getD i 0:=rfl
theorem renewGo_get(m:Nat):∀ (l:List Int) (s i:Nat),(renewGo m s l)[i]? =l[i]?.map fun x=>if m.testBit (s+i) then 99 else x
 | [],_,_=>by simp [renewGo]
 |x::l,s,0=>by simp [renewGo]
 |x::l,s,i+1=>by
  rw [renewGo,List.getElem?_cons_succ,renewGo_get m l (s+1) i,List.getElem?_cons_succ,show s+1+i=s+(i+1) by omega]
theorem nth_renew(m:Nat)(l:List Int){i:Nat}(h:i<l.length):nth (renew m l) i=if m.testBit i then 99 else nth l i:=by
 rw [nth_nat,nth_nat,List.getD_eq_getElem?_getD,renew,renewGo_get,Nat.zero_add,List.getD_eq_getElem?_getD,List.getElem?_eq_getElem h]
 rfl
theorem parts_borne:∀ {l:List Pt} {before:List (List UInt8)} {i:Nat} {r:Rc},isNarrow r 0=true→partsGo before l=0→partsGo before (l.modify i fun p=>{p with r:=r})=0
 | [],_,i,_,_,_=>by simp [partsGo]
 |x::l,before,i,r,hr,h=>by
  simp only [partsGo] at h
  obtain⟨h1,h⟩:=ite_same h
  obtain⟨h2,h⟩:=ite_zero (by decide) h
  simp only [Bool.or_eq_true,Bool.not_eq_true',not_or,Bool.not_eq_false] at h2
  cases i with
  |zero=>
   rw [List.modify_zero_cons]
   simp only [partsGo]
   rw [if_neg (by simp [h1]),if_neg (by simp [h2.1,hr])]
   exact h
  |succ i=>
   rw [List.modify_succ_cons]
   simp only [partsGo]
   rw [if_neg (by simp [h1]),if_neg (by simp [h2.1,h2.2])]
   exact parts_borne hr h
theorem pieces_weighed:∀ {l:List Pc} {before:List (List UInt8)} {i:Nat} {r:Rc},isNarrow r 1=true→piecesGo before l=0→piecesGo before (l.modify i fun p=>{p with r:=r})=0
 | [],_,i,_,_,_=>by simp [piecesGo]
 |x::l,before,i,r,hr,h=>by
  simp only [piecesGo] at h
  obtain⟨h1,h⟩:=ite_same h
  obtain⟨h2,h⟩:=ite_zero (by decide) h
  simp only [Bool.not_eq_true',Bool.not_eq_false] at h2
  cases i with
  |zero=>
   rw [List.modify_zero_cons]
   simp only [piecesGo]
   rw [if_neg (by simp [h1]),if_neg (by simp [hr])]
   exact h
  |succ i=>
   rw [List.modify_succ_cons]
   simp only [piecesGo]
   rw [if_neg (by simp [h1]),if_neg (by simp [h2])]
   exact pieces_weighed hr h
theorem check_borne{b:Bk}(hch:checkBook b=0)(i:Nat){r:Rc}(hr:isNarrow r 0=true):checkBook (b.borne i r)=0:=by
 obtain⟨w,p,g,c,t⟩:=check_parts hch
 have hlen:(b.borne i r).ps.length=b.ps.length:=List.length_modify ..
 have hp:(b.borne i r).partsH=0:=by
  unfold Bk.partsH at p⊢
  obtain⟨p1,p2⟩:=ite_zero (by decide) p
  rw [hlen,if_neg p1]
  exact parts_borne hr p2
 have hg:(b.borne i r).gearsH=0:=by
  unfold Bk.gearsH at g⊢
  rw [hlen];exact g
 have hw:(b.borne i r).winchH=0:=w
 have hc:(b.borne i r).piecesH=0:=c
 have ht:(b.borne i r).testsH=0:=t
 unfold checkBook
 rw [hw,hp,hg,hc,ht];rfl
theorem check_weighed{b:Bk}(hch:checkBook b=0)(i:Nat){r:Rc}(hr:isNarrow r 1=true):checkBook (b.weighed i r)=0:=by
 obtain⟨w,p,g,c,t⟩:=check_parts hch
 have hlen:(b.weighed i r).cs.length=b.cs.length:=List.length_modify ..
 have hc:(b.weighed i r).piecesH=0:=by
  unfold Bk.piecesH at c⊢
  obtain⟨p1,p2⟩:=ite_zero (by decide) c
  rw [hlen,if_neg p1]
  exact pieces_weighed hr p2
 have hg:(b.weighed i r).gearsH=0:=g
 have hw:(b.weighed i r).winchH=0:=w
 have hp:(b.weighed i r).partsH=0:=p
 have ht:(b.weighed i r).testsH=0:=t
 unfold checkBook
 rw [hw,hp,hg,hc,ht];rfl
theorem borne_sheaves(b:Bk)(i:Nat)(r:Rc)(x:Int):(b.borne i r).sheaves x=b.sheaves x:=by
 unfold Bk.sheaves Bk.borne
 simp only [List.getD_eq_getElem?_getD,List.getElem?_modify]
 cases b.ps[x.toNat]? with
 |none=>rfl
 |some q=>by_cases e:i=x.toNat<;>simp [e]
def Bk.noTests(b:Bk):Bk:={b with ts:= [] }
structure RenOk(b c:Bk)(l:List Int):Prop where
 w:c.w=b.w
 gs:c.gs=b.gs
 cs:c.cs=b.cs
 ts:c.ts=b.ts
 np:c.ps.length=b.ps.length
 sh:∀x,c.sheaves x=b.sheaves x
 ps:∀i:Nat,c.ps[i]? =b.ps[i]?.map fun p=>if(i:Int)∈l then {p with r:=⟨99,99⟩ } else p
 ch:checkBook b=0→checkBook c=0
theorem mem_bare{b:Bk}(ht:b.ts= []){p:List Int}:p∈bearsL b↔p∈spread (b.ps.map Pt.r):=by
 have hr:∀p,right b p=true:=fun p=>by unfold right;rw [ht];rfl
 unfold bearsL
 rw [List.filter_eq_self.2 (fun p _=>hr p)]
theorem nth_in{p:List Int}{i:Nat}{x:Int}(h:p[i]? =some x):nth p i=x:=by
 rw [nth_nat,List.getD_eq_getElem?_getD,h];rfl
theorem may_all{b:Bk}(hne:cases b≠ []){g p:Nat}:may b g p=1↔((cases b).all fun t=>lifts b t.1 g (nth t.2 p))=true:=by
 rw [may,how_one (List.length_pos_iff.2 hne),filter_all]
def shOk(ng:Nat)(s:Nat→Nat→Bool):List Int→List Int→Bool
 |_, []=>true
 |gs,g::z=>between g 0 ((ng:Int) -1) && (!decide (g∈gs) && (s g.toNat gs.length && shOk ng s (gs++ [g]) z))
theorem range_first{α:Type}(f:Nat→Option α):∀n:Nat,(∀j,j<n→f j=none)∨∃g,g<n∧(∀j,j<g→f j=none)∧∃x,f g=some x
 |0=> .inl fun j h=>by omega
 |n+1=>by
  rcases range_first f n with h|⟨g,h1,h2⟩
  ·cases e:f n with
   |none=>
    refine .inl fun j hj=>?_
    by_cases e2:j=n
    ·rw [e2];exact e
    ·exact h j (by omega)
   |some x=>exact .inr ⟨n,by omega,h,x,e⟩
  ·exact .inr ⟨g,by omega,h2⟩
theorem share_law(ng:Nat)(s:Nat→Nat→Bool):∀ (r:Nat) (gs:List Int),
  (shareGo ng s r gs=none∧∀z:List Int,z.length=r→shOk ng s gs z=false)∨
  ∃z,shareGo ng s r gs=some (gs++z)∧z.length=r∧shOk ng s gs z=true∧∀z':List Int,z'.length=r→shOk ng s gs z'=true→¬cmpL z' z<0
 |0,gs=> .inr ⟨[],by simp [shareGo],rfl,rfl,fun z' hz _=>by
   rw [List.length_eq_zero_iff] at hz;subst hz;simp [cmpL]⟩
 |r+1,gs=>by
  have ih:=share_law ng s r
  have inv:∀ (g:Int) (z:List Int),shOk ng s gs (g::z)=true→∃j:Nat,g=j∧j<ng∧(j:Int)∉gs∧s j gs.length=true∧shOk ng s (gs++ [g]) z=true:=fun g z h=>by
   simp only [shOk,Bool.and_eq_true,between_iff,Bool.not_eq_true',decide_eq_false_iff_not] at h
   obtain⟨j,rfl⟩:=Int.eq_ofNat_of_zero_le h.1.1
   exact⟨j,rfl,by omega,h.2.1,by simpa using h.2.2.1,h.2.2.2⟩
  have e:shareGo ng s (r+1) gs=(List.range ng).findSome? fun g=>if s g gs.length && !decide ((g:Int)∈gs) then shareGo ng s r (gs++ [(g:Int)]) else none:=rfl
  rw [e]
  generalize hf:(fun g:Nat=>if s g gs.length && !decide ((g:Int)∈gs) then shareGo ng s r (gs++ [(g:Int)]) else none)=f
  have hfe:∀g:Nat,s g gs.length=true→(g:Int)∉gs→f g=shareGo ng s r (gs++ [(g:Int)]):=fun g h1 h2=>by rw [←hf];simp [h1,h2]
  rcases range_first f ng with h|⟨g,h1,h2,x,h3⟩
  ·refine .inl ⟨findSome_miss h,fun z hz=>?_⟩
   cases z with
   |nil=>simp at hz
   |cons g z=>
    cases hs:shOk ng s gs (g::z) with
    |false=>rfl
    |true=>
     obtain⟨j,rfl,h4,h5,h6,h7⟩:=inv g z hs
     have h8:=h j h4
     rw [hfe j h6 h5] at h8
     rcases ih (gs++ [(j:Int)]) with⟨_,k2⟩|⟨z',k1,_⟩
     ·have:=k2 z (by simpa using hz)
      rw [h7] at this;cases this
     ·rw [k1] at h8;cases h8
  ·have hg:s g gs.length=true∧(g:Int)∉gs:=by
    rw [←hf] at h3
    simp only at h3
    split at h3
    ·rename_i h4;simpa using h4
    ·cases h3
   rw [findSome_hit h1 h2 h3]
   rw [hfe g hg.1 hg.2] at h3
   rcases ih (gs++ [(g:Int)]) with⟨k1,_⟩|⟨z,k1,k2,k3,k4⟩
   ·rw [k1] at h3;cases h3
   ·rw [k1] at h3
    have hx:=Option.some.inj h3
    refine .inr ⟨(g:Int)::z,by rw [←hx];simp,by simp [k2], ?_,fun z' hz hs=>?_⟩
    ·simp only [shOk,Bool.and_eq_true,between_iff,Bool.not_eq_true',decide_eq_false_iff_not,Int.toNat_natCast]
     exact⟨by omega,hg.2,hg.1,k3⟩
    ·cases z' with
     |nil=>simp at hz
     |cons g' z'=>
      obtain⟨j,rfl,h4,h5,h6,h7⟩:=inv g' z' hs
      by_cases hlt:j<g
      ·have h8:=h2 j hlt
       rw [hfe j h6 h5] at h8
       rcases ih (gs++ [(j:Int)]) with⟨_,q2⟩|⟨z2,q1,_⟩
       ·have:=q2 z' (by simpa using hz)
        rw [h7] at this;cases this
       ·rw [q1] at h8;cases h8
      ·rw [cmpL]
       by_cases heq:j=g
       ·subst heq
        rw [if_neg (by simp [cmpI])]
        exact k4 z' (by simpa using hz) h7
       ·have:cmpI (j:Int) g=1:=by unfold cmpI;rw [if_neg (by omega),if_pos (by omega)]
        rw [this,if_pos (by decide)];decide
theorem shOk_cong{ng:Nat}{s s':Nat→Nat→Bool}{nc:Nat}(h:∀g p,g<ng→p<nc→s g p=s' g p):∀ (z gs:List Int),gs.length+z.length≤nc→shOk ng s gs z=shOk ng s' gs z
 | [],_,_=>rfl
 |g::z,gs,hn=>by
  rw [List.length_cons] at hn
  simp only [shOk]
  by_cases hb:between g 0 ((ng:Int) -1)=true
  ·have hb':=between_iff.1 hb
   rw [h g.toNat gs.length (by omega) (by omega),shOk_cong h z (gs++ [g]) (by simp;omega)]
  ·simp only [Bool.not_eq_true] at hb
   rw [hb];rfl
def mayS(b:Bk)(g p:Nat):Bool:=may b g p==1
theorem sureM_may{b:Bk}(hne:cases b≠ []){g p:Nat}(hg:g<b.gs.length)(hp:p<b.cs.length):sureM b 0 g p=mayS b g p:=by
 have e:sure b 0 g p=decide (may b g p=1):=by
  rw [Bool.eq_iff_iff,decide_eq_true_eq,may_all hne]
  have:(fun t:Tn=>lifts b (renew 0 (pad 4 t.1)) g (nth t.2 p))=fun t=>lifts b t.1 g (nth t.2 p):=by
   funext t;rw [renew_zero,lifts_pad]
  rw [sure,this]
 unfold sureM mayS
 rw [e]
 simp only [hg,hp,decide_true,Bool.true_and]
 rw [Bool.eq_iff_iff];simp
theorem shareR_law{b:Bk}(hch:checkBook b=0)(hne:cases b≠ []):
  ((shareR b)=(none,0)∧∀z:List Int,z.length=b.cs.length→shOk b.gs.length (mayS b) [] z=false)∨
  ∃z,shareR b=(some z,0)∧z.length=b.cs.length∧shOk b.gs.length (mayS b) [] z=true∧∀z':List Int,z'.length=b.cs.length→shOk b.gs.length (mayS b) [] z'=true→¬cmpL z' z<0:=by
 have hop:=open_zero hch hne
 have hcg:∀z:List Int,z.length=b.cs.length→shOk b.gs.length (sureM b 0) [] z=shOk b.gs.length (mayS b) [] z:=fun z hz=>shOk_cong (nc:=b.cs.length) (fun g p hg hp=>sureM_may hne hg hp) z [] (by simp [hz])
 have e:shareR b=(shareGo b.gs.length (sureM b 0) b.cs.length [],0):=by rw [shareR,hop];rfl
 rw [e]
 rcases share_law b.gs.length (sureM b 0) b.cs.length [] with⟨h1,h2⟩|⟨z,h1,h2,h3,h4⟩
 ·exact .inl ⟨by rw [h1],fun z hz=>by rw [←hcg z hz];exact h2 z hz⟩
 ·exact .inr ⟨z,by rw [h1];rfl,h2,by rw [←hcg z h2];exact h3,fun z' hz hs=>h4 z' hz (by rw [hcg z' hz];exact hs)⟩
structure NoLess(b c:Bk):Prop where
 gs:c.gs.length=b.gs.length
 cs:c.cs.length=b.cs.length
 ps:c.ps.length=b.ps.length
 sure:∀m g p:Nat,g<b.gs.length→p<b.cs.length→sure b m g p=true→sure c m g p=true
 most:∀g:Int,0≤g→g<b.gs.length→most b g≤most c g
 weak:∀g n:Int,0≤g→g<b.gs.length→∀x∈weak c g n,x∈weak b g n
theorem NoLess.sureM{b c:Bk}(h:NoLess b c)(m g p:Nat)(hs:sureM b m g p=true):sureM c m g p=true:=by
 simp only [Go.Lg.B.sureM,Bool.and_eq_true,decide_eq_true_eq] at hs⊢
 rw [h.gs,h.cs]
 exact⟨hs.1,hs.2.1,h.sure _ _ _ hs.1 hs.2.1 hs.2.2⟩
theorem NoLess.lifted{b c:Bk}(h:NoLess b c){m x:Nat}(hl:Go.Lg.B.lifted b (Go.Lg.B.sureM b m) x=true):Go.Lg.B.lifted c (Go.Lg.B.sureM c m) x=true:=by
 unfold Go.Lg.B.lifted at hl⊢
 rw [h.cs,h.gs]
 rw [List.all_eq_true] at hl⊢
 intro p hp
 have:=hl p hp
 rw [List.any_eq_true] at this⊢
 obtain⟨g,h1,h2⟩:=this
 rw [Bool.and_eq_true] at h2
 exact⟨g,h1,by rw [Bool.and_eq_true];exact⟨h2.1,h.sureM _ _ _ h2.2⟩⟩
theorem fewer{n:Nat}{is is':Nat→Bool}(h:∀m,is m=true→is' m=true){p:List Int}(hp:fewestOf n is=some p):∃q,fewestOf n is'=some q∧q.length≤p.length:=by
 by_cases hq:∃m,m<2^n∧is m=true
 ·obtain⟨m,h1,h2⟩:=hq
  obtain⟨y,h3,⟨m',h4,h5,rfl⟩,_⟩:=fewestOf_some h1 h2
  rw [h3] at hp
  obtain rfl:=Option.some.inj hp
  obtain⟨q,q1,_,q3⟩:=fewestOf_some h4 (h _ h5)
  refine⟨q,q1, ?_⟩
  have:=q3 m' h4 (h _ h5)
  rw [smaller_iff] at this
  omega
 ·rw [fewestOf_none fun m hm=>by
   cases e:is m
   ·rfl
   ·exact absurd ⟨m,hm,e⟩ hq] at hp
  cases hp
theorem shOk_mono{ng:Nat}{s s':Nat→Nat→Bool}{nc:Nat}(h:∀g p,g<ng→p<nc→s g p=true→s' g p=true):∀ (z gs:List Int),gs.length+z.length≤nc→shOk ng s gs z=true→shOk ng s' gs z=true
 | [],_,_,_=>rfl
 |g::z,gs,hn,hz=>by
  rw [List.length_cons] at hn
  simp only [shOk,Bool.and_eq_true] at hz⊢
  have hb':=between_iff.1 hz.1
  exact⟨hz.1,hz.2.1,h _ _ (by omega) (by omega) hz.2.2.1,shOk_mono h z (gs++ [g]) (by simp;omega) hz.2.2.2⟩
theorem NoLess.share{b c:Bk}(h:NoLess b c)(hb:checkBook b=0)(hc:checkBook c=0)(nb:cases b≠ [])(nc:cases c≠ [])(hs:(shareR b).1.isSome=true):(shareR c).1.isSome=true:=by
 rcases shareR_law hb nb with⟨e,_⟩|⟨z,e,h1,h2,_⟩
 ·rw [e] at hs;cases hs
 ·rcases shareR_law hc nc with⟨_,e2⟩|⟨z',e2,_⟩
  ·have h3:shOk c.gs.length (mayS c) [] z=true:=by
    rw [h.gs]
    refine shOk_mono (nc:=b.cs.length) (fun g p hg hp hm=>?_) z [] (by simp [h1]) h2
    rw [←sureM_may nb hg hp] at hm
    rw [←sureM_may nc (by rw [h.gs];exact hg) (by rw [h.cs];exact hp)]
    exact h.sureM _ _ _ hm
   rw [e2 z (by rw [h1,h.cs])] at h3;cases h3
  ·rw [e2];rfl
theorem NoLess.fewest{b c:Bk}(h:NoLess b c)(hb:checkBook b=0)(hc:checkBook c=0)(nb:cases b≠ [])(nc:cases c≠ [])(hs:(fewestR b).1.isSome=true):(fewestR c).1.isSome=true∧((fewestR c).1.getD []).length≤((fewestR b).1.getD []).length:=by
 have e1:fewestR b=(fewestOf b.gs.length (Go.Lg.B.lifted b (Go.Lg.B.sureM b 0)),0):=by rw [fewestR,open_zero hb nb];rfl
 have e2:fewestR c=(fewestOf c.gs.length (Go.Lg.B.lifted c (Go.Lg.B.sureM c 0)),0):=by rw [fewestR,open_zero hc nc];rfl
 rw [e1] at hs⊢
 rw [e2,h.gs]
 obtain⟨p,hp⟩:=Option.isSome_iff_exists.1 hs
 obtain⟨q,hq,hl⟩:=fewer (is':=Go.Lg.B.lifted c (Go.Lg.B.sureM c 0)) (fun m hm=>h.lifted hm) hp
 simp only at hp⊢
 rw [hp,hq]
 exact⟨rfl,hl⟩
theorem NoLess.renew{b c:Bk}(h:NoLess b c)(hb:checkBook b=0)(hc:checkBook c=0)(nb:cases b≠ [])(nc:cases c≠ [])(hs:(renewR b).1.isSome=true):(renewR c).1.isSome=true∧((renewR c).1.getD []).length≤((renewR b).1.getD []).length:=by
 have e1:renewR b=(fewestOf b.ps.length (fun mask=>Go.Lg.B.lifted b (Go.Lg.B.sureM b mask) (2^b.gs.length-1)),0):=by rw [renewR,open_zero hb nb];rfl
 have e2:renewR c=(fewestOf c.ps.length (fun mask=>Go.Lg.B.lifted c (Go.Lg.B.sureM c mask) (2^c.gs.length-1)),0):=by rw [renewR,open_zero hc nc];rfl
 rw [e1] at hs⊢
 rw [e2,h.gs,h.ps]
 obtain⟨p,hp⟩:=Option.isSome_iff_exists.1 hs
 obtain⟨q,hq,hl⟩:=fewer (is':=fun mask=>Go.Lg.B.lifted c (Go.Lg.B.sureM c mask) (2^b.gs.length-1)) (fun m hm=>h.lifted hm) hp
 simp only at hp⊢
 rw [hp,hq]
 exact⟨rfl,hl⟩
structure Fewer(b c:Bk):Prop where
 w:c.w=b.w
 gs:c.gs=b.gs
 nc:c.cs.length=b.cs.length
 np:c.ps.length=b.ps.length
 sh:∀x,c.sheaves x=b.sheaves x
 cases:(cases c).Sublist (cases b)
theorem Fewer.lifts{b c:Bk}(h:Fewer b c)(p:List Int)(g n:Int):lifts c p g n=lifts b p g n:=lifts_alike h.w h.gs h.sh p g n
theorem Fewer.allLift{b c:Bk}(h:Fewer b c){g n:Int}(ha:allLift b g n=true):allLift c g n=true:=by
 unfold Go.Lg.B.allLift at ha⊢
 rw [List.all_eq_true] at ha⊢
 intro t ht
 rw [h.lifts];exact ha t (h.cases.subset ht)
theorem most_le{b c:Bk}(hb:b.good)(hc:c.good){g:Int}(h0:0≤g)(h1:g<b.gs.length)(h2:g<c.gs.length)(h:∀n,0≤n→n≤99→allLift b g n=true→allLift c g n=true):most b g≤most c g:=by
 obtain⟨a1,a2,a3⟩:=most_law hb h0 h1
 obtain⟨_,_,c3⟩:=most_law hc h0 h2
 exact(c3 _ a1 a2).1 (h _ a1 a2 ((a3 _ a1 a2).2 (Int.le_refl _)))
theorem ones_ps(xs:List Pt):ones (xs.flatMap Pt.cells)=true:=ones_flat (fun _=>rfl) xs
section
variable {main:Bool}{J:Goroutine→Mem→Prop}(hJ:Closed prog main J)
include hJ
theorem borneR_c{b:Bk}{v:Value}{ro:RO}(hv:BkV ro v b)(hn:b.ps.length≤1000){i:Int}(hi:0≤i∧i<b.ps.length)(r:Rc):CallR prog J (fnv 75) [v, .int .i64 i,r.val] ro (fun w ro'=>BkV ro' w (b.borne i.toNat r)):=by
 obtain⟨vp,vg,vc,vt,rfl,hv⟩:=hv
 obtain⟨pb,pcap,rfl⟩:=hv.1.form
 obtain⟨gb,gcap,rfl⟩:=hv.2.1.form
 obtain⟨cb,ccap,rfl⟩:=hv.2.2.1.form
 obtain⟨tb,tcap,rfl⟩:=hv.2.2.2.form
 have hil:i.toNat<b.ps.length:=by omega
 have hfl:=flatMap_len Pt.len b.ps
 refine CallR.intro hJ (by kernel_rfl) fun c cs tail hret=>enter_X (n:=19) func75 U U (Nl U) ?_
 have C:Ctx prog main J (bf 75 .normal):=⟨hJ,by decide⟩
 refine Xr C U U<|R.box C U U U U fun p3=>R.box C U U U U fun p5=>R.alloc C U U zeroValue27 U fun p6=>R.done C<|Xr C U U<|R.buildSlice C (vs:=_) U U (show pvals _ _=some (numbered 0 []) from rfl) U runUnderlying22 sizeOf67 zeroValue67 (by decide) (.nil) fun p7=>Rf C 1 U U runUnderlying27 U sizeOf22<|Rl C U U isAgg22 (by repeat constructor) U<|R.append (kk:=4) C U U U U runUnderlying22 runUnderlying22 (fun _=>nofun) (show prog.info? 67=some Tryz.t67 by kernel_rfl) U U U (by decide) (by decide) (Buf.blk (cells:= []) (spare:= []) (len:=0) (cap:=0) U U (Nat.le_refl _)) (hv.1.rd Pt.len) (ones_ps b.ps) (by simp only [List.length_nil];omega) fun v' own' hb'=>Rf C 1 U U runUnderlying27 U sizeOf22 ?_
 obtain⟨own1,rfl,hb1⟩:=hb'.unapp (tail:= [])
 rw [List.nil_append] at hb1
 obtain⟨p9,cap9,sp9,rfl,hcap9,rfl⟩:=blk_of Pt.len (by decide) hb1 (by intro h;rw [h] at hil;exact absurd hil (Nat.not_lt_zero _))
 refine R.store C U U U U sizeOf22 U U U (by repeat constructor) (.skip (.here .nil)) ?_
 have hmf:=modify_flat (enc:=Pt.cells) (k:=4) Pt.len (fun p=>{p with r:=r}) b.ps i.toNat sp9 2 [.int .i64 r.lo, .int .i64 r.hi] hil (fun x _=> .skip (.skip Ph2))
 have hml:(b.ps.modify i.toNat fun p=>{p with r:=r}).length=b.ps.length:=by simp
 have eo:0+i.toNat*4+2=i.toNat*4+2:=by omega
 rw [←eo] at hmf
 refine R.done C<|Xr C U U<|Rf C 1 U U runUnderlying27 U sizeOf22<|Rl C U U isAgg22 (by repeat constructor) U<|Rm C U U<|R5 C U U isAgg65 sizeOf65 (by repeat constructor) Tk2<|Rx C U U U runUnderlying22 sizeOf67<|R.fieldAddr C U U U runUnderlying67 U sizeOf65 U<|R.store C U U U U sizeOf65 U U U (by repeat constructor) hmf<|R.done C<|Xs C<|X.persist C.1 fun ro4 hl4 h9=>?_
 have hls:Ls Pt.cells 4 ro4 (.slice (some ⟨p9,0,none⟩) b.ps.length cap9) (b.ps.modify i.toNat fun p=>{p with r:=r}):=⟨_,_,by rw [hml], .inr ⟨p9,0,_,_,_,rfl,h9,by rw [←flatMap_len Pt.len];exact Sub.front _ _⟩⟩
 have hv4:=hv.mono hl4
 refine X.region C U U<|R5 C U U isAgg27 sizeOf27 (by repeat constructor) Tk5<|R.store C U U U U sizeOf27 U U U (by repeat constructor) Ph5<|R.done C<|X.ret C U U func75 U (by exact(.agg U isAgg27 sizeOf27 (by repeat constructor) Tk5 .nil))<|Hr hret hl4 ?_
 exact⟨_,_,_,_,rfl,hls,hv4.2.1,hv4.2.2.1,hv4.2.2.2⟩
end
end Go.Lg.B
namespace Go.Lg
open Go Go.Conc
inductive FsOk(P:Program)(d:Nat)(a b:List Value):List Field→Bool→Prop
 |nil:FsOk P d a b [] true
 |cons {f:Field} {fs:List Field} {x y:Value} {r rs:Bool}:f.name≠ "_" →(∀ (M:Mem) (K:Value→Mem→Prop),K x M→Sm P M (part f.type a.toArray f.offset) K)→(∀ (M:Mem) (K:Value→Mem→Prop),K y M→Sm P M (part f.type b.toArray f.offset) K)→Eq1 P d f.type x y r→FsOk P d a b fs rs→FsOk P d a b (f::fs) (r && rs)
theorem Eq1.int{P:Program}{d:Nat}{t:TypeId}{x y:Int}(hu:∀w,Sem.run P (Go.underlying t) w= .ok (.int .i64) w):Eq1 P (d+1) t (.int .i64 x) (.int .i64 y) (x==y):=by
 intro M K hk
 unfold Op.equalIn
 refine Sm.bind (Sm.underlying hu ?_)
 simp only [if_true]
 exact Sm.pure hk
theorem Eq1.bool{P:Program}{d:Nat}{t:TypeId}{x y:Bool}(hu:∀w,Sem.run P (Go.underlying t) w= .ok .bool w):Eq1 P (d+1) t (.bool x) (.bool y) (x==y):=by
 intro M K hk
 unfold Op.equalIn
 refine Sm.bind (Sm.underlying hu ?_)
 exact Sm.pure hk
theorem bts_beq(x y:List UInt8):((⟨x.toArray⟩:ByteArray)==⟨y.toArray⟩)=(x==y):=by
 show(x.toArray==y.toArray)=(x==y)
 simp
theorem Eq1.str{P:Program}{d:Nat}{t:TypeId}{x y:List UInt8}(hu:∀w,Sem.run P (Go.underlying t) w= .ok .string w):Eq1 P (d+1) t (strV x) (strV y) (x==y):=by
 intro M K hk
 unfold Op.equalIn
 refine Sm.bind (Sm.underlying hu ?_)
 simp only [bts_beq]
 exact Sm.pure hk
end Go.Lg
namespace Go.Lg.B
open Go Go.Conc Go.Lg Go.Proofs Go.Proofs.Tryz
structure Bk.tiny(b:Bk):Prop where
 ps:b.ps.length≤1000
 gs:b.gs.length≤1000∧∀g∈b.gs,g.length≤1000
 cs:b.cs.length≤1000
 ts:b.ts.length≤1000
theorem ones_cs(xs:List Pc):ones (xs.flatMap Pc.cells)=true:=ones_flat (fun _=>rfl) xs
theorem mostR_eq{b:Bk}(hch:checkBook b=0)(hne:cases b≠ []){g:Int}(h:0≤g∧g<b.gs.length):mostR b g=(most b g,0):=by
 rw [mostR,mostH_eq (there_zero.2 h),open_zero hch hne];rfl
theorem weakR_eq{b:Bk}(hch:checkBook b=0)(hne:cases b≠ []){g n:Int}(h:0≤g∧g<b.gs.length)(hn:1≤n∧n≤99):weakR b g n=(weak b g n,0):=by
 rw [weakR,weakH_eq (there_zero.2 h) (loadH_zero.2 hn),open_zero hch hne];rfl
theorem mayR_eq{b:Bk}(hch:checkBook b=0)(hne:cases b≠ []){g k:Int}(h:0≤g∧g<b.gs.length)(hk:0≤k∧k<b.cs.length):mayR b g k=(may b g k,0):=by
 rw [mayR,mayH_eq (there_zero.2 h) (there_zero.2 hk),open_zero hch hne];rfl
theorem fewestR_zero{b:Bk}(hch:checkBook b=0)(hne:cases b≠ []):(fewestR b).2=0:=by rw [fewestR,open_zero hch hne];rfl
theorem renewR_zero{b:Bk}(hch:checkBook b=0)(hne:cases b≠ []):(renewR b).2=0:=by rw [renewR,open_zero hch hne];rfl
theorem shareR_zero{b:Bk}(hch:checkBook b=0)(hne:cases b≠ []):(shareR b).2=0:=by rw [shareR,open_zero hch hne];rfl
section
theorem noLessR_c{Q:Machine→Outcome→World→Trace→Prop}{b d:Bk}{vb vd:Value}{ro:RO}(he:Env ro)(hvb:BkV ro vb b)(hvd:BkV ro vd d)(hb:checkBook b=0)(hd:checkBook d=0)(nb:cases b≠ [])(nd:cases d≠ [])(hl:NoLess b d){g n:Int}(hg:0≤g∧g<b.gs.length)(hn:1≤n∧n≤99):
  CallR prog (JM prog Q) (fnv 78) [vb,vd, .int .i64 g, .int .i64 n] ro (fun w _=>w= .bool true):=by
 have hJ:Closed prog true (JM prog Q):=JM.closed
 let main:=true
 let J:=JM prog Q
 have gb:=good_of hb
 have gd:=good_of hd
 have sb:=short_of (not_great hb)
 have sd:=short_of (not_great hd)
 have hg2:0≤g∧g<d.gs.length:=by rw [hl.gs];exact hg
 have wl1:=weak_len gb (n:=n) hg.1 hg.2
 have wl2:=weak_len gd (n:=n) hg2.1 hg2.2
 have hml:=hl.most g hg.1 hg.2
 have hin:insideL (weak d g n) (weak b g n)=true:=by
  unfold insideL;rw [List.all_eq_true];intro x hx;rw [List.contains_iff_mem];exact hl.weak g n hg.1 hg.2 x hx
 have m1:=mostR_eq hb nb hg
 have m2:=mostR_eq hd nd hg2
 have w1:=weakR_eq hb nb hg hn
 have w2:=weakR_eq hd nd hg2 hn
 have hvb0:=hvb
 have hvd0:=hvd
 obtain⟨_,_,_,_,rfl,hb1⟩:=hvb
 obtain⟨_,_,rfl⟩:=hb1.1.form
 obtain⟨_,_,rfl⟩:=hb1.2.1.form
 obtain⟨_,_,rfl⟩:=hb1.2.2.1.form
 obtain⟨_,_,rfl⟩:=hb1.2.2.2.form
 obtain⟨_,_,_,_,rfl,hd1⟩:=hvd
 obtain⟨_,_,rfl⟩:=hd1.1.form
 obtain⟨_,_,rfl⟩:=hd1.2.1.form
 obtain⟨_,_,rfl⟩:=hd1.2.2.1.form
 obtain⟨_,_,rfl⟩:=hd1.2.2.2.form
 refine CallR.intro hJ (by kernel_rfl) fun c cs tail hret=>enter_X (n:=175) func78 U U (Nl U) ?_
 have C:Ctx prog main J (bf 78 .normal):=⟨hJ,by decide⟩
 refine Xr C U U<|R.box C U U U U fun p4=>R.box C U U U U fun p5=>Ad C U U<|Xr C U U<|R5 C U U isAgg27 sizeOf27 (by repeat constructor) Tk5<|Rm C U U<|R.callR C U U U U (most_c hJ he hvb0 sb g) fun v1 ro1 hl1 hq1=>?_
 subst hq1
 rw [m1]
 refine Rm C U U<|R.ext C U U U U<|R.ext C U U U U<|R.asg C U U U<|Ad C U U<|Xr C U U<|R5 C U U isAgg27 sizeOf27 (by repeat constructor) Tk5<|Rm C U U<|R.callR C U U U U (most_c hJ (he.mono hl1) (hvd0.mono hl1) sd g) fun v2 ro2 hl2 hq2=>?_
 subst hq2
 rw [m2]
 have k2:=RO.le_trans hl1 hl2
 refine Rm C U U<|R.ext C U U U U<|R.ext C U U U U<|R.asg C U U U<|Ad C U U<|Xr C U U<|R5 C U U isAgg27 sizeOf27 (by repeat constructor) Tk5<|Rm C U U<|Rm C U U<|R.callR C U U U U (weak_c hJ (he.mono k2) (hvb0.mono k2) sb g n) fun v3 ro3 hl3 hq3=>?_
 obtain⟨y3,z3,rfl⟩:=hq3
 have k3:=RO.le_trans k2 hl3
 refine Rm C U U<|R.ext C U U U U<|R.ext C U U U U<|R.asg C U U U<|Ad C U U<|Xr C U U<|R5 C U U isAgg27 sizeOf27 (by repeat constructor) Tk5<|Rm C U U<|Rm C U U<|R.callR C U U U U (weak_c hJ (he.mono k3) (hvd0.mono k3) sd g n) fun v4 ro4 hl4 hq4=>?_
 obtain⟨y4,z4,rfl⟩:=hq4
 have k4:=RO.le_trans k3 hl4
 rw [w1] at z3⊢
 rw [w2] at z4⊢
 simp only at z3 z4
 obtain⟨_,_,rfl⟩:=z3.form
 obtain⟨_,_,rfl⟩:=z4.form
 refine Rm C U U<|R.ext C U U U U<|R.ext C U U U U<|R.asg C U U U<|Ad C U U<|Xs C<|Xr C U U<|Rm C U U<|R.int C U U U U b_neq<|R.fixv (t:=58) (v':= .bool false) U (by rfl)<|Rm C U U<|Rm C U U<|R.int C U U U U b_neq<|R.fixv (t:=61) (v':= .bool false) U (by rfl)<|R.pickF C U U U U<|Rm C U U<|Rm C U U<|R.int C U U U U b_neq<|R.fixv (t:=65) (v':= .bool false) U (by rfl)<|R.pickF C U U U U<|Rm C U U<|Rm C U U<|R.int C U U U U b_neq<|R.fixv (t:=69) (v':= .bool false) U (by rfl)<|R.pickF C U U U U<|Rm C U U<|Rm C U U<|Rm C U U<|R.int C U U U U b_lss<|R.fixv (t:=74) (v':= .bool false) U (Bv (by rw [dF];exact Int.not_lt.2 hml)) ?_;refine R.pickF C U U U U<|Rm C U U<|Rm C U U<|Rm C U U<|R.callP C U U U U (inside2R_c hJ z4 (z3.mono hl4) (by omega) (by omega))<|R.not C U U U<|R.fixv (t:=80) (v':= .bool false) U (by(rw [hin];rfl))<|R.pickF C U U U U<|R.done C<|X.cond C.1 U (fun h=>nomatch h) (fun _=>?_)
 refine X.skip C.1<|Xr C U U<|R5 C U U isAgg27 sizeOf27 (by repeat constructor) Tk5<|R.callR C U U U U ((fewestG_c (he.mono k4) (hvb0.mono k4) sb)) fun v5 ro5 hl5 hq5=>?_
 obtain⟨y5,z5,rfl⟩:=hq5
 obtain⟨_,_,rfl⟩:=z5.form
 have k5:=RO.le_trans k4 hl5
 refine Rm C U U<|R.ext C U U U U<|R.ext C U U U U<|R.ext C U U U U<|R.asg C U U U<|R.asg C U U U<|Ad C U U<|Xr C U U<|R5 C U U isAgg27 sizeOf27 (by repeat constructor) Tk5<|R.callR C U U U U ((fewestG_c (he.mono k5) (hvd0.mono k5) sd)) fun v6 ro6 hl6 hq6=>?_
 obtain⟨y6,z6,rfl⟩:=hq6
 obtain⟨_,_,rfl⟩:=z6.form
 have k6:=RO.le_trans k5 hl6
 refine Rm C U U<|R.ext C U U U U<|R.ext C U U U U<|R.ext C U U U U<|R.asg C U U U<|R.asg C U U U<|Ad C U U<|Xr C U U<|R5 C U U isAgg27 sizeOf27 (by repeat constructor) Tk5<|R.callR C U U U U ((share_c (he.mono k6) (hvb0.mono k6) sb)) fun v7 ro7 hl7 hq7=>?_
 obtain⟨y7,z7,rfl⟩:=hq7
 obtain⟨_,_,rfl⟩:=z7.form
 have k7:=RO.le_trans k6 hl7
 refine Rm C U U<|R.ext C U U U U<|R.ext C U U U U<|R.ext C U U U U<|R.asg C U U U<|R.asg C U U U<|Ad C U U<|Xr C U U<|R5 C U U isAgg27 sizeOf27 (by repeat constructor) Tk5<|R.callR C U U U U ((share_c (he.mono k7) (hvd0.mono k7) sd)) fun v8 ro8 hl8 hq8=>?_
 obtain⟨y8,z8,rfl⟩:=hq8
 obtain⟨_,_,rfl⟩:=z8.form
 have k8:=RO.le_trans k7 hl8
 refine Rm C U U<|R.ext C U U U U<|R.ext C U U U U<|R.ext C U U U U<|R.asg C U U U<|R.asg C U U U<|Ad C U U<|Xr C U U<|R5 C U U isAgg27 sizeOf27 (by repeat constructor) Tk5<|R.callR C U U U U ((renew_c (he.mono k8) (hvb0.mono k8) sb)) fun v9 ro9 hl9 hq9=>?_
 obtain⟨y9,z9,rfl⟩:=hq9
 obtain⟨_,_,rfl⟩:=z9.form
 have k9:=RO.le_trans k8 hl9
 refine Rm C U U<|R.ext C U U U U<|R.ext C U U U U<|R.ext C U U U U<|R.asg C U U U<|R.asg C U U U<|Ad C U U<|Xr C U U<|R5 C U U isAgg27 sizeOf27 (by repeat constructor) Tk5<|R.callR C U U U U ((renew_c (he.mono k9) (hvd0.mono k9) sd)) fun v10 ro10 hl10 hq10=>?_
 obtain⟨y10,z10,rfl⟩:=hq10
 obtain⟨_,_,rfl⟩:=z10.form
 have k10:=RO.le_trans k9 hl10
 have f1:=hl.fewest hb hd nb nd
 have f2:=hl.share hb hd nb nd
 have f3:=hl.renew hb hd nb nd
 rw [fewestR_zero hb nb,fewestR_zero hd nd,shareR_zero hb nb,shareR_zero hd nd,renewR_zero hb nb,renewR_zero hd nd]
 generalize(fewestR b).1=fb at f1⊢
 generalize(fewestR d).1=fd at f1⊢
 generalize(shareR b).1=hb' at f2⊢
 generalize(shareR d).1=hd' at f2⊢
 generalize(renewR b).1=rb at f3⊢
 generalize(renewR d).1=rd at f3⊢
 refine Rm C U U<|R.ext C U U U U<|R.ext C U U U U<|R.ext C U U U U<|R.asg C U U U<|R.asg C U U U<|Ad C U U<|Xr C U U<|Rm C U U<|R.int C U U U U b_eql<|R.fixv (t:=119) (v':= .bool true) U (by rfl)<|Rm C U U<|Rm C U U<|R.int C U U U U b_eql<|R.fixv (t:=122) (v':= .bool true) U (by rfl)<|R.pickT C U U U U<|Rm C U U<|Rm C U U<|R.int C U U U U b_eql<|R.fixv (t:=126) (v':= .bool true) U (by rfl)<|R.pickT C U U U U<|Rm C U U<|Rm C U U<|R.int C U U U U b_eql<|R.fixv (t:=130) (v':= .bool true) U (by rfl)<|R.pickT C U U U U<|Rm C U U<|Rm C U U<|R.int C U U U U b_eql<|R.fixv (t:=134) (v':= .bool true) U (by rfl)<|R.pickT C U U U U<|Rm C U U<|Rm C U U<|R.int C U U U U b_eql<|R.fixv (t:=138) (v':= .bool true) U (by rfl)<|R.pickT C U U U U<|Rm C U U<|Rm C U U<|R.not C U U U<|Rm C U U ?_;refine R.fix (t:=143) U (fun g1=>?_) (fun g1=>?_)
 ·refine R.pass C U U<|R.pass C U U<|R.pass C U U<|R.pass C U U<|R.pass C U U<|R.pass C U U<|R.pass C U U<|R.pass C U U<|R.pickT C U U U U<|R.pickT C U U U U<|Rm C U U<|Rm C U U<|R.not C U U U<|Rm C U U<|R.fix (t:=157) U (fun g2=>?_) (fun g2=>?_)
  ·refine R.pass C U U<|R.pickT C U U U U<|R.pickT C U U U U<|Rm C U U<|Rm C U U<|R.not C U U U<|Rm C U U<|R.fix (t:=164) U (fun g3=>?_) (fun g3=>?_)
   ·refine R.pass C U U<|R.pass C U U<|R.pass C U U<|R.pass C U U<|R.pass C U U<|R.pass C U U<|R.pass C U U<|R.pass C U U<|R.pickT C U U U U<|R.pickT C U U U U<|Ad C U U<|Xt C func78<|Hr hret k10 ?_
    rfl
   ·have q3:=f3 (by simpa using g3)
    refine Rm C U U<|R.fixv (t:=165) (v':= .bool true) U (by(rw [q3.1]))<|Rm C U U<|Rm C U U<|Rn C U U runUnderlying28<|Rm C U U<|Rn C U U runUnderlying28<|R.int C U U U U b_leq<|R.fixv (t:=171) (v':= .bool true) U (Bv (by rw [decide_eq_true_iff];have:=q3.2;omega)) ?_;refine R.pickT C U U U U<|R.pickF C U U U U<|R.pickT C U U U U<|Ad C U U<|Xt C func78<|Hr hret k10 ?_
    rfl
  ·have q2:=f2 (by simpa using g2)
   refine Rm C U U<|R.fixv (t:=158) (v':= .bool true) U (by(rw [q2]))<|R.pickF C U U U U<|R.pickT C U U U U<|Rm C U U<|Rm C U U<|R.not C U U U<|Rm C U U<|R.fix (t:=164) U (fun g3=>?_) (fun g3=>?_)
   ·refine R.pass C U U<|R.pass C U U<|R.pass C U U<|R.pass C U U<|R.pass C U U<|R.pass C U U<|R.pass C U U<|R.pass C U U<|R.pickT C U U U U<|R.pickT C U U U U<|Ad C U U<|Xt C func78<|Hr hret k10 ?_
    rfl
   ·have q3:=f3 (by simpa using g3)
    refine Rm C U U<|R.fixv (t:=165) (v':= .bool true) U (by(rw [q3.1]))<|Rm C U U<|Rm C U U<|Rn C U U runUnderlying28<|Rm C U U<|Rn C U U runUnderlying28<|R.int C U U U U b_leq<|R.fixv (t:=171) (v':= .bool true) U (Bv (by rw [decide_eq_true_iff];have:=q3.2;omega)) ?_;refine R.pickT C U U U U<|R.pickF C U U U U<|R.pickT C U U U U<|Ad C U U<|Xt C func78<|Hr hret k10 ?_
    rfl
 ·have q1:=f1 (by simpa using g1)
  refine Rm C U U<|R.fixv (t:=144) (v':= .bool true) U (by(rw [q1.1]))<|Rm C U U<|Rm C U U<|Rn C U U runUnderlying28<|Rm C U U<|Rn C U U runUnderlying28<|R.int C U U U U b_leq<|R.fixv (t:=150) (v':= .bool true) U (Bv (by rw [decide_eq_true_iff];have:=q1.2;omega)) ?_;refine R.pickT C U U U U<|R.pickF C U U U U<|R.pickT C U U U U<|Rm C U U<|Rm C U U<|R.not C U U U<|Rm C U U<|R.fix (t:=157) U (fun g2=>?_) (fun g2=>?_)
  ·refine R.pass C U U<|R.pickT C U U U U<|R.pickT C U U U U<|Rm C U U<|Rm C U U<|R.not C U U U<|Rm C U U<|R.fix (t:=164) U (fun g3=>?_) (fun g3=>?_)
   ·refine R.pass C U U<|R.pass C U U<|R.pass C U U<|R.pass C U U<|R.pass C U U<|R.pass C U U<|R.pass C U U<|R.pass C U U<|R.pickT C U U U U<|R.pickT C U U U U<|Ad C U U<|Xt C func78<|Hr hret k10 ?_
    rfl
   ·have q3:=f3 (by simpa using g3)
    refine Rm C U U<|R.fixv (t:=165) (v':= .bool true) U (by(rw [q3.1]))<|Rm C U U<|Rm C U U<|Rn C U U runUnderlying28<|Rm C U U<|Rn C U U runUnderlying28<|R.int C U U U U b_leq<|R.fixv (t:=171) (v':= .bool true) U (Bv (by rw [decide_eq_true_iff];have:=q3.2;omega)) ?_;refine R.pickT C U U U U<|R.pickF C U U U U<|R.pickT C U U U U<|Ad C U U<|Xt C func78<|Hr hret k10 ?_
    rfl
  ·have q2:=f2 (by simpa using g2)
   refine Rm C U U<|R.fixv (t:=158) (v':= .bool true) U (by(rw [q2]))<|R.pickF C U U U U<|R.pickT C U U U U<|Rm C U U<|Rm C U U<|R.not C U U U<|Rm C U U<|R.fix (t:=164) U (fun g3=>?_) (fun g3=>?_)
   ·refine R.pass C U U<|R.pass C U U<|R.pass C U U<|R.pass C U U<|R.pass C U U<|R.pass C U U<|R.pass C U U<|R.pass C U U<|R.pickT C U U U U<|R.pickT C U U U U<|Ad C U U<|Xt C func78<|Hr hret k10 ?_
    rfl
   ·have q3:=f3 (by simpa using g3)
    refine Rm C U U<|R.fixv (t:=165) (v':= .bool true) U (by(rw [q3.1]))<|Rm C U U<|Rm C U U<|Rn C U U runUnderlying28<|Rm C U U<|Rn C U U runUnderlying28<|R.int C U U U U b_leq<|R.fixv (t:=171) (v':= .bool true) U (Bv (by rw [decide_eq_true_iff];have:=q3.2;omega)) ?_;refine R.pickT C U U U U<|R.pickF C U U U U<|R.pickT C U U U U<|Ad C U U<|Xt C func78<|Hr hret k10 ?_
    rfl
end
section
variable {main:Bool}{J:Goroutine→Mem→Prop}(hJ:Closed prog main J)
include hJ
theorem weighedR_c{b:Bk}{v:Value}{ro:RO}(hv:BkV ro v b)(hn:b.cs.length≤1000){i:Int}(hi:0≤i∧i<b.cs.length)(r:Rc):CallR prog J (fnv 77) [v, .int .i64 i,r.val] ro (fun w ro'=>BkV ro' w (b.weighed i.toNat r)):=by
 obtain⟨vp,vg,vc,vt,rfl,hv⟩:=hv
 obtain⟨pb,pcap,rfl⟩:=hv.1.form
 obtain⟨gb,gcap,rfl⟩:=hv.2.1.form
 obtain⟨cb,ccap,rfl⟩:=hv.2.2.1.form
 obtain⟨tb,tcap,rfl⟩:=hv.2.2.2.form
 have hil:i.toNat<b.cs.length:=by omega
 have hfl:=flatMap_len Pc.len b.cs
 refine CallR.intro hJ (by kernel_rfl) fun c cs tail hret=>enter_X (n:=19) func77 U U (Nl U) ?_
 have C:Ctx prog main J (bf 77 .normal):=⟨hJ,by decide⟩
 refine Xr C U U<|R.box C U U U U fun p3=>R.box C U U U U fun p5=>R.alloc C U U zeroValue27 U fun p6=>R.done C<|Xr C U U<|R.buildSlice C (vs:=_) U U (show pvals _ _=some (numbered 0 []) from rfl) U runUnderlying24 sizeOf79 zeroValue79 (by decide) (.nil) fun p7=>Rf C 3 U U runUnderlying27 U sizeOf24<|Rl C U U isAgg24 (by repeat constructor) U<|R.append (kk:=3) C U U U U runUnderlying24 runUnderlying24 (fun _=>nofun) (show prog.info? 79=some Tryz.t79 by kernel_rfl) U U U (by decide) (by decide) (Buf.blk (cells:= []) (spare:= []) (len:=0) (cap:=0) U U (Nat.le_refl _)) (hv.2.2.1.rd Pc.len) (ones_cs b.cs) (by simp only [List.length_nil];omega) fun v' own' hb'=>Rf C 3 U U runUnderlying27 U sizeOf24 ?_
 obtain⟨own1,rfl,hb1⟩:=hb'.unapp (tail:= [])
 rw [List.nil_append] at hb1
 obtain⟨p9,cap9,sp9,rfl,hcap9,rfl⟩:=blk_of Pc.len (by decide) hb1 (by intro h;rw [h] at hil;exact absurd hil (Nat.not_lt_zero _))
 refine R.store C U U U U sizeOf24 U U U (by repeat constructor) (.skip (.skip (.skip (.here .nil)))) ?_
 have hmf:=modify_flat (enc:=Pc.cells) (k:=3) Pc.len (fun p=>{p with r:=r}) b.cs i.toNat sp9 1 [.int .i64 r.lo, .int .i64 r.hi] hil (fun x _=> .skip Ph2)
 have hml:(b.cs.modify i.toNat fun p=>{p with r:=r}).length=b.cs.length:=by simp
 have eo:0+i.toNat*3+1=i.toNat*3+1:=by omega
 rw [←eo] at hmf
 refine R.done C<|Xr C U U<|Rf C 3 U U runUnderlying27 U sizeOf24<|Rl C U U isAgg24 (by repeat constructor) U<|Rm C U U<|R5 C U U isAgg65 sizeOf65 (by repeat constructor) Tk2<|Rx C U U U runUnderlying24 sizeOf79<|R.fieldAddr C U U U runUnderlying79 U sizeOf65 U<|R.store C U U U U sizeOf65 U U U (by repeat constructor) hmf<|R.done C<|Xs C<|X.persist C.1 fun ro4 hl4 h9=>?_
 have hls:Ls Pc.cells 3 ro4 (.slice (some ⟨p9,0,none⟩) b.cs.length cap9) (b.cs.modify i.toNat fun p=>{p with r:=r}):=⟨_,_,by rw [hml], .inr ⟨p9,0,_,_,_,rfl,h9,by rw [←flatMap_len Pc.len];exact Sub.front _ _⟩⟩
 have hv4:=hv.mono hl4
 refine X.region C U U<|R5 C U U isAgg27 sizeOf27 (by repeat constructor) Tk5<|R.store C U U U U sizeOf27 U U U (by repeat constructor) Ph5<|R.done C<|X.ret C U U func77 U (by exact(.agg U isAgg27 sizeOf27 (by repeat constructor) Tk5 .nil))<|Hr hret hl4 ?_
 exact⟨_,_,_,_,rfl,hv4.1,hv4.2.1,hls,hv4.2.2.2⟩
end
end Go.Lg.B
namespace Go.Lg.B
open Go Go.Conc Go.Lg Go.Proofs Go.Proofs.Tryz
def nothing:Bk:=⟨0, [], [], [], []⟩
def newB(b:Bk)(h:Int):Bk:=if h=0 then b else nothing
theorem noBk_v(ro:RO):BkV ro noBk nothing:=⟨_,_,_,_,rfl, .nil,⟨[], .nil,rfl,fun z hz=>by cases hz⟩, .nil, .nil⟩
theorem NewV.bk{ro:RO}{b:Bk}{h:Int}{w:Value}(hn:NewV ro b h w):∃v,BkV ro v (newB b h)∧w= .tuple [v, .int .i64 h].toArray:=by
 rcases hn with⟨h0,rfl⟩|⟨rfl,v,hv,rfl⟩
 ·exact⟨_,by rw [newB,if_neg h0];exact noBk_v ro,rfl⟩
 ·exact⟨v,hv,rfl⟩
theorem part_fine{b:Bk}(hb:b.good){i:Int}(h:0≤i∧i<b.ps.length):(b.part i).fine:=by
 have hk:i.toNat<b.ps.length:=by omega
 have hp:b.part i=b.ps[i.toNat]:=by simp [Bk.part,List.getD_eq_getElem?_getD,hk]
 rw [hp];exact hb.ps _ (List.getElem_mem hk)
theorem piece_fine{b:Bk}(hb:b.good){i:Int}(h:0≤i∧i<b.cs.length):(b.piece i).fine:=by
 have hk:i.toNat<b.cs.length:=by omega
 have hp:b.piece i=b.cs[i.toNat]:=by simp [Bk.piece,List.getD_eq_getElem?_getD,hk]
 rw [hp];exact hb.cs _ (List.getElem_mem hk)
theorem sub_part{off n m k:Nat}{l c:List Value}(h:Sub off (n+1) l c)(hk:k+m≤n+1)(hc:c.length=n+1):Sub (off+k) m l ((c.drop k).take m):=by
 have h1:=h.get n (by omega)
 rw [List.getElem?_eq_getElem (show n<c.length by omega)] at h1
 have h2:=(List.getElem?_eq_some_iff.1 h1).1
 refine Sub.of_get (by omega) (by rw [List.length_take,List.length_drop];omega) fun i hi=>?_
 rw [Nat.add_assoc,h.get (k+i) (by omega),List.getElem?_take,if_pos hi,List.getElem?_drop]
theorem pulls_alike{b c:Bk}(hg:c.gs=b.gs)(hs:∀x,c.sheaves x=b.sheaves x)(g n:Int):pulls c g n=pulls b g n:=by
 have e:c.gear g=b.gear g:=by unfold Bk.gear;rw [hg]
 unfold pulls
 rw [e,pullsGo_alike hs]
theorem gives_up{b c:Bk}(hb:b.good)(hw:b.w≤c.w)(hg:c.gs=b.gs)(hs:∀x,c.sheaves x=b.sheaves x){p q:List Int}(h:∀j:Nat,j<b.ps.length→nth p j≤nth q j){g n m:Int}(h0:0≤g)(h1:g<b.gs.length)(hn:m≤n){x:Int}(hx:x∈gives c q g m):x∈gives b p g n:=by
 have e:c.gear g=b.gear g:=by unfold Bk.gear;rw [hg]
 have hm:=(pulls_mono hb h0 h1 hn).getD
 rw [gives_mem,e,pulls_alike hg hs] at hx
 rw [gives_mem]
 rcases hx with⟨i,h2,h3,h4⟩|⟨h3,h4⟩
 ·refine .inl ⟨i,h2, ?_,h4⟩
  have hgm:=(hb.gear h0 h1).2.1
  have e2:(b.gear g).getD i 0=(b.gear g)[i]:=by simp [List.getD_eq_getElem?_getD,h2]
  have hi:=hgm _ (List.getElem_mem h2)
  rw [e2] at h3⊢
  have:=h ((b.gear g)[i]).toNat (by omega)
  rw [show((((b.gear g)[i]).toNat:Nat):Int)=(b.gear g)[i] by omega] at this
  have:=hm i
  omega
 ·exact .inr ⟨by have:=hm (b.gear g).length;omega,h4⟩
theorem lifts_up{b c:Bk}(hb:b.good)(hw:b.w≤c.w)(hg:c.gs=b.gs)(hs:∀x,c.sheaves x=b.sheaves x){p q:List Int}(h:∀j:Nat,j<b.ps.length→nth p j≤nth q j){g n m:Int}(h0:0≤g)(h1:g<b.gs.length)(hm:1≤m)(hn:m≤n)(hl:lifts b p g n=true):lifts c q g m=true:=by
 rw [lifts_iff (by omega)] at hl⊢
 rw [List.eq_nil_iff_forall_not_mem]
 intro x hx
 have:=gives_up hb hw hg hs h h0 h1 hn hx
 rw [hl] at this;cases this
structure Up(b c:Bk):Prop where
 hb:checkBook b=0
 hc:checkBook c=0
 tb:b.ts= []
 tc:c.ts= []
 w:b.w≤c.w
 gs:c.gs=b.gs
 sh:∀x,c.sheaves x=b.sheaves x
 np:c.ps.length=b.ps.length
 nc:c.cs.length=b.cs.length
 down:∀t∈cases c,∃t'∈cases b,(∀j:Nat,j<b.ps.length→nth t'.1 j≤nth t.1 j)∧∀j:Nat,j<b.cs.length→nth t.2 j≤nth t'.2 j
 up:∀t∈cases b,∃t'∈cases c,(∀j:Nat,j<b.ps.length→nth t.1 j≤nth t'.1 j)∧∀j:Nat,j<b.cs.length→nth t'.2 j≤nth t.2 j
theorem nth_pos{b:Bk}(hb:b.good){t:Tn}(ht:t∈cases b){k:Int}(h:0≤k∧k<b.cs.length):1≤nth t.2 k:=by
 have:=piece_fine hb h
 unfold Pc.fine at this
 have h2:=weights_in h.1 h.2 (mem_cases.1 ht).2
 omega
theorem Up.noLess{b c:Bk}(h:Up b c):NoLess b c where
 gs:=by rw [h.gs]
 cs:=h.nc
 ps:=h.np
 sure:=fun m g p hg hp hs=>by
  have gb:=good_of h.hb
  have gc:=good_of h.hc
  unfold Go.Lg.B.sure at hs⊢
  rw [List.all_eq_true] at hs⊢
  intro t ht
  obtain⟨t',ht',h1,h2⟩:=h.down t ht
  have hnp:=gb.np
  have l1:=bearsL_len _ (mem_cases.1 ht).1
  have l2:=bearsL_len _ (mem_cases.1 ht').1
  have hnp2:=h.np
  refine lifts_up gb h.w h.gs h.sh (fun j hj=>?_) (by omega) (by omega) (nth_pos gc ht (k:=(p:Int)) (by rw [h.nc];omega)) (h2 p hp) (hs t' ht')
  rw [nth_renew _ _ (by rw [pad_len (by omega)];omega),nth_renew _ _ (by rw [pad_len (by omega)];omega),nth_pad,nth_pad]
  split
  ·exact Int.le_refl _
  ·exact h1 j hj
 most:=fun g h0 h1=>by
  have gb:=good_of h.hb
  refine most_le gb (good_of h.hc) h0 h1 (by rw [h.gs];exact h1) fun n hn0 _ ha=>?_
  by_cases e:n=0
  ·subst e;exact allLift_zero c g
  ·unfold Go.Lg.B.allLift at ha⊢
   rw [List.all_eq_true] at ha⊢
   intro t ht
   obtain⟨t',ht',h2,_⟩:=h.down t ht
   exact lifts_up gb h.w h.gs h.sh h2 h0 h1 (by omega) (Int.le_refl _) (ha t' ht')
 weak:=fun g n h0 h1 x hx=>by
  obtain⟨t,ht,hg⟩:=weak_mem.1 hx
  obtain⟨t',ht',h2,_⟩:=h.down t ht
  exact weak_mem.2 ⟨t',ht',gives_up (good_of h.hb) h.w h.gs h.sh h2 h0 h1 (Int.le_refl _) hg⟩
theorem how_two{n all:Nat}:how n all=2↔n=0:=by
 unfold how
 split
 ·simp_all
 ·split
  ·simp_all
  ·simp_all
theorem Up.may{b c:Bk}(h:Up b c){g k:Int}(hg:0≤g∧g<b.gs.length)(hk:0≤k∧k<b.cs.length):(may b g k=1→may c g k=1)∧(may b g k≠2→may c g k≠2):=by
 have gb:=good_of h.hb
 have gc:=good_of h.hc
 have nb:cases b≠ []:=bare_cases gb h.tb
 have nc:cases c≠ []:=bare_cases gc h.tc
 have hkn:((k.toNat:Nat):Int)=k:=by omega
 constructor
 ·intro h1
  rw [Go.Lg.B.may,how_one (List.length_pos_iff.2 nb),filter_all,List.all_eq_true] at h1
  rw [Go.Lg.B.may,how_one (List.length_pos_iff.2 nc),filter_all,List.all_eq_true]
  intro t ht
  obtain⟨t',ht',h2,h3⟩:=h.down t ht
  have h4:=h3 k.toNat (by omega)
  rw [hkn] at h4
  exact lifts_up gb h.w h.gs h.sh h2 hg.1 hg.2 (nth_pos gc ht (by rw [h.nc];exact hk)) h4 (h1 t' ht')
 ·intro h1
  rw [Go.Lg.B.may,Ne,how_two,List.length_eq_zero_iff,List.filter_eq_nil_iff] at h1⊢
  intro h2
  apply h1
  intro t ht hl
  obtain⟨t',ht',h3,h4⟩:=h.up t ht
  have h5:=h4 k.toNat (by omega)
  rw [hkn] at h5
  exact h2 t' ht' (lifts_up gb h.w h.gs h.sh h3 hg.1 hg.2 (nth_pos gc ht' (by rw [h.nc];exact hk)) h5 hl)
def upPart(r:Rc)(n:Int):Rc:=⟨min (r.lo+n) 99,min (r.hi+n) 99⟩
def downPiece(r:Rc)(n:Int):Rc:=⟨max (r.lo-n) 1,max (r.hi-n) 1⟩
def Bk.stronger(b:Bk)(i k:Int)(n m w:Int):Bk:={ (b.borne i.toNat (upPart (b.part i).r n)).weighed k.toNat (downPiece (b.piece k).r m) with w:=min (b.w+w) 99}
theorem check_w{b:Bk}(hch:checkBook b=0){w:Int}(hw:0≤w∧w≤99):checkBook {b with w:=w}=0:=by
 obtain⟨_,p,g,c,t⟩:=check_parts hch
 have h1:Bk.winchH {b with w:=w}=0:=by
  unfold Bk.winchH
  rw [if_pos (between_iff.2 hw)]
 have hp:Bk.partsH {b with w:=w}=0:=p
 have hg:Bk.gearsH {b with w:=w}=0:=g
 have hc:Bk.piecesH {b with w:=w}=0:=c
 have ht:Bk.testsH {b with w:=w}=0:=t
 unfold checkBook
 rw [h1,hp,hg,hc,ht];rfl
theorem spread_to{rs rs':List Rc}{l:List Int}{f:Nat→Int→Int}(hl:l∈spread rs)(hlen:rs'.length=rs.length)(h:∀ (i:Nat)(r r':Rc)(x:Int),rs[i]? =some r→rs'[i]? =some r'→r.lo≤x→x≤r.hi→r'.lo≤f i x∧f i x≤r'.hi):
  (l.zipIdx.map fun z=>f z.2 z.1)∈spread rs'∧∀j:Nat,j<rs.length→nth (l.zipIdx.map fun z=>f z.2 z.1) j=f j (nth l j):=by
 obtain⟨h1,h2⟩:=mem_spread.1 hl
 have hget:∀j:Nat,(l.zipIdx.map fun z=>f z.2 z.1)[j]? =l[j]?.map (f j):=fun j=>by
  rw [List.getElem?_map,List.getElem?_zipIdx]
  cases l[j]? <;>simp
 refine⟨mem_spread.2 ⟨by simp [h1,hlen],fun i r' hr'=>?_⟩,fun j hj=>?_⟩
 ·have hi:i<rs.length:=by rw [←hlen];exact(List.getElem?_eq_some_iff.1 hr').1
  obtain⟨x,hx,h3,h4⟩:=h2 i rs[i] (List.getElem?_eq_getElem hi)
  exact⟨f i x,by rw [hget,hx];rfl,h i _ r' x (List.getElem?_eq_getElem hi) hr' h3 h4⟩
 ·have hj':j<l.length:=by omega
  rw [nth_nat,nth_nat,List.getD_eq_getElem?_getD,hget,List.getD_eq_getElem?_getD,List.getElem?_eq_getElem hj'];rfl
theorem stronger_up{b:Bk}(hch:checkBook b=0)(ht:b.ts= []){i k n m w:Int}(hi:0≤i∧i<b.ps.length)(hk:0≤k∧k<b.cs.length)(hn:0≤n)(hm:0≤m)(hw:0≤w):Up b (b.stronger i k n m w):=by
 have hb:=good_of hch
 have hf:=part_fine hb hi
 have hg:=piece_fine hb hk
 unfold Pt.fine at hf
 unfold Pc.fine at hg
 have hbw:=hb.w
 have c1:isNarrow (upPart (b.part i).r n) 0=true:=isNarrow_iff.2 (by simp only [upPart];omega)
 have c2:isNarrow (downPiece (b.piece k).r m) 1=true:=isNarrow_iff.2 (by simp only [downPiece];omega)
 have hc0:=check_weighed (check_borne hch i.toNat c1) k.toNat c2
 have hc:checkBook (b.stronger i k n m w)=0:=check_w hc0 (by omega)
 have hil:i.toNat<b.ps.length:=by omega
 have hkl:k.toNat<b.cs.length:=by omega
 have hp:b.part i=b.ps[i.toNat]:=by simp [Bk.part,List.getD_eq_getElem?_getD,hil]
 have hq:b.piece k=b.cs[k.toNat]:=by simp [Bk.piece,List.getD_eq_getElem?_getD,hkl]
 have rp:∀j:Nat,((b.stronger i k n m w).ps.map Pt.r)[j]? =if i.toNat=j then some (upPart (b.part i).r n) else(b.ps.map Pt.r)[j]? :=fun j=>by
  show((b.ps.modify i.toNat fun p=>{p with r:=upPart (b.part i).r n}).map Pt.r)[j]? =_
  simp only [List.getElem?_map,List.getElem?_modify]
  by_cases e:i.toNat=j
  ·subst e;simp [hil]
  ·cases b.ps[j]? <;>simp [e]
 have rc:∀j:Nat,((b.stronger i k n m w).cs.map Pc.r)[j]? =if k.toNat=j then some (downPiece (b.piece k).r m) else(b.cs.map Pc.r)[j]? :=fun j=>by
  show((b.cs.modify k.toNat fun p=>{p with r:=downPiece (b.piece k).r m}).map Pc.r)[j]? =_
  simp only [List.getElem?_map,List.getElem?_modify]
  by_cases e:k.toNat=j
  ·subst e;simp [hkl]
  ·cases b.cs[j]? <;>simp [e]
 have gp:(b.ps.map Pt.r)[i.toNat]? =some (b.part i).r:=by rw [List.getElem?_map,List.getElem?_eq_getElem hil,hp];rfl
 have gq:(b.cs.map Pc.r)[k.toNat]? =some (b.piece k).r:=by rw [List.getElem?_map,List.getElem?_eq_getElem hkl,hq];rfl
 have lp:((b.stronger i k n m w).ps.map Pt.r).length=(b.ps.map Pt.r).length:=by
  show((b.ps.modify i.toNat _).map Pt.r).length=_
  simp
 have lc:((b.stronger i k n m w).cs.map Pc.r).length=(b.cs.map Pc.r).length:=by
  show((b.cs.modify k.toNat _).map Pc.r).length=_
  simp
 have tc:(b.stronger i k n m w).ts= []:=ht
 refine⟨hch,hc,ht,tc,by show b.w≤min (b.w+w) 99;omega,rfl,fun x=>borne_sheaves b _ _ x,by simpa using lp,by simpa using lc,fun t hx=>?_,fun t hx=>?_⟩
 ·obtain⟨h1,h2⟩:=mem_cases.1 hx
  have h1:=(mem_bare tc).1 h1
  obtain⟨q1,q2⟩:=spread_to (rs':=b.ps.map Pt.r) (f:=fun j x=>if i.toNat=j then max (b.part i).r.lo (x-n) else x) h1 lp.symm (fun j r r' x e1 e2 e3 e4=>by
   rw [rp] at e1
   by_cases e:i.toNat=j
   ·subst e
    rw [if_pos rfl] at e1
    rw [gp] at e2
    cases e1;cases e2
    simp only [if_true]
    simp only [upPart] at e3 e4
    omega
   ·rw [if_neg e] at e1⊢
    rw [e1] at e2;cases e2;exact⟨e3,e4⟩)
  obtain⟨q3,q4⟩:=spread_to (rs':=b.cs.map Pc.r) (f:=fun j x=>if k.toNat=j then min (b.piece k).r.hi (x+m) else x) (show t.2∈spread ((b.stronger i k n m w).cs.map Pc.r) from h2) lc.symm (fun j r r' x e1 e2 e3 e4=>by
   rw [rc] at e1
   by_cases e:k.toNat=j
   ·subst e
    rw [if_pos rfl] at e1
    rw [gq] at e2
    cases e1;cases e2
    simp only [if_true]
    simp only [downPiece] at e3 e4
    omega
   ·rw [if_neg e] at e1⊢
    rw [e1] at e2;cases e2;exact⟨e3,e4⟩)
  refine⟨(_,_),mem_cases.2 ⟨(mem_bare ht).2 q1,q3⟩,fun j hj=>?_,fun j hj=>?_⟩
  ·simp only
   rw [q2 j (by rw [lp,List.length_map];exact hj)]
   by_cases e:i.toNat=j
   ·subst e
    rw [if_pos rfl]
    have:=(mem_spread.1 h1).2 i.toNat _ (by rw [rp,if_pos rfl])
    obtain⟨x,hx1,hx2,_⟩:=this
    rw [nth_in hx1]
    simp only [upPart] at hx2
    omega
   ·rw [if_neg e];exact Int.le_refl _
  ·simp only
   rw [q4 j (by rw [lc,List.length_map];exact hj)]
   by_cases e:k.toNat=j
   ·subst e
    rw [if_pos rfl]
    have:=(mem_spread.1 (show t.2∈spread ((b.stronger i k n m w).cs.map Pc.r) from h2)).2 k.toNat _ (by rw [rc,if_pos rfl])
    obtain⟨x,hx1,_,hx2⟩:=this
    rw [nth_in hx1]
    simp only [downPiece] at hx2
    omega
   ·rw [if_neg e];exact Int.le_refl _
 ·obtain⟨h1,h2⟩:=mem_cases.1 hx
  have h1:=(mem_bare ht).1 h1
  obtain⟨q1,q2⟩:=spread_to (rs':=(b.stronger i k n m w).ps.map Pt.r) (f:=fun j x=>if i.toNat=j then min (x+n) 99 else x) h1 lp (fun j r r' x e1 e2 e3 e4=>by
   rw [rp] at e2
   by_cases e:i.toNat=j
   ·subst e
    rw [if_pos rfl] at e2
    rw [gp] at e1
    cases e1;cases e2
    simp only [if_true]
    simp only [upPart]
    omega
   ·rw [if_neg e] at e2⊢
    rw [e1] at e2;cases e2;exact⟨e3,e4⟩)
  obtain⟨q3,q4⟩:=spread_to (rs':=(b.stronger i k n m w).cs.map Pc.r) (f:=fun j x=>if k.toNat=j then max (x-m) 1 else x) (show t.2∈spread (b.cs.map Pc.r) from h2) lc (fun j r r' x e1 e2 e3 e4=>by
   rw [rc] at e2
   by_cases e:k.toNat=j
   ·subst e
    rw [if_pos rfl] at e2
    rw [gq] at e1
    cases e1;cases e2
    simp only [if_true]
    simp only [downPiece]
    omega
   ·rw [if_neg e] at e2⊢
    rw [e1] at e2;cases e2;exact⟨e3,e4⟩)
  refine⟨(_,_),mem_cases.2 ⟨(mem_bare tc).2 q1,q3⟩,fun j hj=>?_,fun j hj=>?_⟩
  ·simp only
   rw [q2 j (by rw [List.length_map];exact hj)]
   by_cases e:i.toNat=j
   ·subst e
    rw [if_pos rfl]
    obtain⟨x,hx1,_,hx2⟩:=(mem_spread.1 h1).2 i.toNat _ gp
    rw [nth_in hx1]
    omega
   ·rw [if_neg e];exact Int.le_refl _
  ·simp only
   rw [q4 j (by rw [List.length_map];exact hj)]
   by_cases e:k.toNat=j
   ·subst e
    rw [if_pos rfl]
    obtain⟨x,hx1,hx2,_⟩:=(mem_spread.1 (show t.2∈spread (b.cs.map Pc.r) from h2)).2 k.toNat _ gq
    rw [nth_in hx1]
    omega
   ·rw [if_neg e];exact Int.le_refl _
theorem stronger_root{b:Bk}{vb:Value}{w0 n0 m0 i0 k0 g0 l0:Int}(hw0:0≤w0∧w0≤255)(hn0:0≤n0∧n0≤255)(hm0:0≤m0∧m0≤255)(hi0:0≤i0∧i0≤255)(hk0:0≤k0∧k0≤255)(hg0:0≤g0∧g0≤255)(hl0:0≤l0∧l0≤255){ro:RO}(he:Env ro)(hv:BkV ro vb b):
  Root prog 15 [vb, .int .u8 w0, .int .u8 n0, .int .u8 m0, .int .u8 i0, .int .u8 k0, .int .u8 g0, .int .u8 l0] ro (fun w _=>w= .bool true):=by
 intro Post hret
 have hJ:Closed prog true (JM prog (Go.Conc.Good prog Post)):=JM.closed
 obtain⟨vp,vg,vc,vt,rfl,hp,hg,hc,ht⟩:=hv
 obtain⟨pb,pc,rfl⟩:=hp.form
 obtain⟨gb,gc,rfl⟩:=hg.form
 obtain⟨cb,cc,rfl⟩:=hc.form
 obtain⟨tb,tc,rfl⟩:=ht.form
 have hvv:BkV ro (.agg [.int .i64 b.w, .slice pb b.ps.length pc, .slice gb b.gs.length gc, .slice cb b.cs.length cc, .slice none 0 0].toArray) b.noTests:=⟨_,_,_,_,rfl,hp,hg,hc, .nil⟩
 let main:=true
 let J:=JM prog (Go.Conc.Good prog Post)
 refine enter_X (n:=159) func15 U U (Nl U) ?_
 have C:Ctx prog main J (bf 15 .normal):=⟨hJ,by decide⟩
 refine Xr C U U<|R.box C U U U U fun p8=>Ad C U U<|Xr C U U<|Rf C 4 U U runUnderlying27 U sizeOf25<|R.store C U U U U sizeOf25 U U U (by repeat constructor) (.skip (.skip (.skip (.skip (.here .nil)))))<|R.done C<|Xs C<|Xr C U U<|R5 C U U isAgg27 sizeOf27 (by repeat constructor) Tk5<|R.callP C U U U U (fitR_c hJ hvv)<|R.not C U U U<|R.done C<|X.cond C.1 U (fun hfit=>?_) (fun hfit=>?_)
 ·refine Xr C U U<|R.callR C U U U U ((hoisted_c _ he)) fun v9 ro9 hl9 hq9=>Ad C U U<|X.ret0 C (by kernel_rfl) U U func15 U (by exact(.tmp U .nil)) fun w9 hs9=>hret _ _ _ hl9 ?_ w9 hs9
  exact hq9
 ·have hch:checkBook b.noTests=0:=by simpa using hfit
  have hb:=good_of hch
  have hsh:=short_of (not_great hch)
  have hnp:1≤b.ps.length∧b.ps.length≤4:=hb.np
  have hng:1≤b.gs.length∧b.gs.length≤3:=hb.ng
  have hnc:1≤b.cs.length∧b.cs.length≤3:=hb.nc
  have hbw:0≤b.w∧b.w≤99:=hb.w
  have hne:cases b.noTests≠ []:=bare_cases hb rfl
  refine X.skip C.1<|Xs C<|Xd C fun hok=>Dm C 0 hok U U U<|Dp 1 hok (fun _ _ _ A h=>R.convInt C U (A.w U U) (A.x U U) runUnderlying5 runUnderlying3 (wrap64 (by omega) (by omega)) h)<|Df (off':=1) C 2 hok U U U runUnderlying27 U sizeOf22 U<|D1 C 3 hok U U isAgg22 (by repeat constructor) U<|Ds C 4 hok U U runUnderlying22<|Di C 5 hok U U U U U (b_remP (by omega) (by omega))<|Dm C 6 hok U U U<|Dp 7 hok (fun _ _ _ A h=>R.convInt C U (A.w U U) (A.x U U) runUnderlying5 runUnderlying3 (wrap64 (by omega) (by omega)) h)<|Df (off':=3) C 8 hok U U U runUnderlying27 U sizeOf24 U<|D1 C 9 hok U U isAgg24 (by repeat constructor) U<|Ds C 10 hok U U runUnderlying24<|Di C 11 hok U U U U U (b_remP (by omega) (by omega))<|Dm C 12 hok U U U<|Dp 13 hok (fun _ _ _ A h=>R.convInt C U (A.w U U) (A.x U U) runUnderlying5 runUnderlying3 (wrap64 (by omega) (by omega)) h)<|Df (off':=2) C 14 hok U U U runUnderlying27 U sizeOf23 U<|D1 C 15 hok U U isAgg23 (by repeat constructor) U<|Ds C 16 hok U U runUnderlying23<|Di C 17 hok U U U U U (b_remP (by omega) (by omega))<|Dm C 18 hok U U U<|De 19 (some 54) [true,true,true] hok (fun _ _ A hk=>?_)
  refine R.callP C U (A.w U U) (A.x U U) (A.s U U) (loadR_c hJ (by omega) _) (hk _ _ ⟨(QFs.cons (QF.of U (fun _ _ A h=>R.loadOne C U (A.w U U) (A.x U U) isAgg23 (by repeat constructor) U h)) (QFs.cons (QF.of U (fun _ _ A h=>R.loadOne C U (A.w U U) (A.x U U) isAgg24 (by repeat constructor) U h)) (QFs.cons (QF.of U (fun _ _ A h=>R.loadOne C U (A.w U U) (A.x U U) isAgg22 (by repeat constructor) U h)) QFs.nil))), ?_⟩)
  refine Da C 20 hok U U<|Da C 21 hok U U<|Da C 22 hok U U<|Da C 23 hok U U<|D.done C hok (by kernel_rfl)<|Xs C ?_
  have hi:0≤i0% (b.ps.length:Int)∧i0% (b.ps.length:Int)<b.ps.length:=⟨Int.emod_nonneg _ (by omega),Int.emod_lt_of_pos _ (by omega)⟩
  have hgb:0≤g0% (b.gs.length:Int)∧g0% (b.gs.length:Int)<b.gs.length:=⟨Int.emod_nonneg _ (by omega),Int.emod_lt_of_pos _ (by omega)⟩
  have hkb:0≤k0% (b.cs.length:Int)∧k0% (b.cs.length:Int)<b.cs.length:=⟨Int.emod_nonneg _ (by omega),Int.emod_lt_of_pos _ (by omega)⟩
  have hlo:1≤loadOf l0∧loadOf l0≤99:=loadOf_bd
  generalize i0% (b.ps.length:Int)=i at hi⊢
  generalize g0% (b.gs.length:Int)=g at hgb⊢
  generalize k0% (b.cs.length:Int)=k at hkb⊢
  generalize loadOf l0=lo at hlo⊢
  have hf:=part_fine hb (i:=i) hi
  have hfk:=piece_fine hb (i:=k) hkb
  unfold Pt.fine at hf
  unfold Pc.fine at hfk
  have hf:(0≤(b.part i).sh∧(b.part i).sh≤4)∧0≤(b.part i).r.lo∧(b.part i).r.lo≤(b.part i).r.hi∧(b.part i).r.hi≤99∧(b.part i).r.hi- (b.part i).r.lo<3:=hf
  have hfk:1≤(b.piece k).r.lo∧(b.piece k).r.lo≤(b.piece k).r.hi∧(b.piece k).r.hi≤99∧(b.piece k).r.hi- (b.piece k).r.lo<3:=hfk
  have hil:i.toNat<b.ps.length:=by omega
  have hpi:b.part i=b.ps[i.toNat]:=by simp [Bk.part,List.getD_eq_getElem?_getD,hil]
  have hkl:k.toNat<b.cs.length:=by omega
  have hpk:b.piece k=b.cs[k.toNat]:=by simp [Bk.piece,List.getD_eq_getElem?_getD,hkl]
  obtain⟨pp,off,cap,ll,ty,fq,hsl,hrop,hsub⟩:=hp.at Pt.len (by omega)
  cases hsl
  have hrc:Sub (off+i.toNat*4+2) 2 ll [.int .i64 (b.part i).r.lo, .int .i64 (b.part i).r.hi]:=by
   have:=sub_part (k:=2) (m:=2) (hsub i.toNat hil) (by decide) (Pt.len _)
   rw [←hpi] at this
   exact this
  obtain⟨pp2,off2,cap2,ll2,ty2,fq2,hsl2,hrop2,hsub2⟩:=hc.at Pc.len (by omega)
  cases hsl2
  have hrc2:Sub (off2+k.toNat*3+1) 2 ll2 [.int .i64 (b.piece k).r.lo, .int .i64 (b.piece k).r.hi]:=by
   have:=sub_part (k:=1) (m:=2) (hsub2 k.toNat hkl) (by decide) (Pc.len _)
   rw [←hpk] at this
   exact this
  refine X.afterI (ι:=Nat×Nat) (fun _=>True) (fun s=> [(21, .pointer (some ⟨s.1,0,none⟩)),(22, .pointer (some ⟨s.2,0,none⟩)),(2, .int .u8 n0),(3, .int .u8 m0),(17, .int .i64 i),(18, .int .i64 k),(19, .int .i64 g),(20, .int .i64 lo),(1, .int .u8 w0),(8, .pointer (some ⟨p8,0,none⟩))])
   (fun s=>⟨ro,(s.2, .cells [.int .i64 (b.piece k).r.lo, .int .i64 (b.piece k).r.hi].toArray 65 (0,0))::(s.1, .cells [.int .i64 (b.part i).r.lo, .int .i64 (b.part i).r.hi].toArray 65 (0,0))::(p8, .cells [.int .i64 b.w, .slice (some ⟨pp,off,none⟩) b.ps.length pc, .slice gb b.gs.length gc, .slice (some ⟨pp2,off2,none⟩) b.cs.length cc, .slice none 0 0].toArray 27 (0,0)):: []⟩) (fun s _=>?_) (fun hcont=>?_)
  rotate_left
  ·have _:=hil
   refine Xd C fun hok=>Df (off':=1) C 0 hok U U U runUnderlying27 U sizeOf22 U<|D1 C 1 hok U U isAgg22 (by repeat constructor) U<|Dm C 2 hok U U U<|Dx C 3 hok U U U runUnderlying22 sizeOf67<|Df C 4 hok U U U runUnderlying67 U sizeOf65 U<|Dl 5 hok (fun _ _ A h=>R.loadAggRo C U (A.w U U) (A.x U U) isAgg65 sizeOf65 hrop hrc h)<|Df (off':=3) C 6 hok U U U runUnderlying27 U sizeOf24 U<|D1 C 7 hok U U isAgg24 (by repeat constructor) U<|Dm C 8 hok U U U<|Dx C 9 hok U U U runUnderlying24 sizeOf79<|Df C 10 hok U U U runUnderlying79 U sizeOf65 U<|Dl 11 hok (fun _ _ A h=>R.loadAggRo C U (A.w U U) (A.x U U) isAgg65 sizeOf65 hrop2 hrc2 h)<|D.eP2 (i:=12) (i':=13) (dst:=(some 21)) (dst':=(some 22)) [true,true,true,true] [true,true,true,true] hok U U (by kernel_rfl) (by kernel_rfl) (by kernel_rfl) (fun _ _ A hk=>?_) (fun _ _ A hk=>?_)
   ·
    refine R.alloc C U (A.w U U) zeroValue65 U fun p21=>hk _ _ ⟨(QFs.cons (QF.of U (fun _ _ A h=>R.loadAggRo C U (A.w U U) (A.x U U) isAgg65 sizeOf65 hrop2 hrc2 h)) (QFs.cons (QF.of U (fun _ _ A h=>R.loadOne C U (A.w U U) (A.x U U) isAgg24 (by repeat constructor) U h)) (QFs.cons (QF.of U (fun _ _ A h=>R.loadAggRo C U (A.w U U) (A.x U U) isAgg65 sizeOf65 hrop hrc h)) (QFs.cons (QF.of U (fun _ _ A h=>R.loadOne C U (A.w U U) (A.x U U) isAgg22 (by repeat constructor) U h)) QFs.nil)))), ?_⟩
    refine De 13 (some 22) [true,true,true,true] hok (fun _ _ A hk=>?_)
    refine R.alloc C U (A.w U U) zeroValue65 U fun p22=>hk _ _ ⟨(QFs.cons (QF.of U (fun _ _ A h=>R.loadAggRo C U (A.w U U) (A.x U U) isAgg65 sizeOf65 hrop2 hrc2 h)) (QFs.cons (QF.of U (fun _ _ A h=>R.loadOne C U (A.w U U) (A.x U U) isAgg24 (by repeat constructor) U h)) (QFs.cons (QF.of U (fun _ _ A h=>R.loadAggRo C U (A.w U U) (A.x U U) isAgg65 sizeOf65 hrop hrc h)) (QFs.cons (QF.of U (fun _ _ A h=>R.loadOne C U (A.w U U) (A.x U U) isAgg22 (by repeat constructor) U h)) QFs.nil)))), ?_⟩
    refine De 14 none [true,true,false,false] hok (fun _ _ A hk=>?_)
    refine R.store C U (A.w U U) (A.x U U) (A.x U U) sizeOf65 U U U (by repeat constructor) Ph2 (hk undef _ ⟨(QFs.cons (QF.of U (fun _ _ A h=>R.loadAggRo C U (A.w U U) (A.x U U) isAgg65 sizeOf65 hrop2 hrc2 h)) (QFs.cons (QF.of U (fun _ _ A h=>R.loadOne C U (A.w U U) (A.x U U) isAgg24 (by repeat constructor) U h)) QFs.nil)), ?_⟩)
    refine De 15 none [false,false] hok (fun _ _ A hk=>?_)
    refine R.store C U (A.w U U) (A.x U U) (A.x U U) sizeOf65 U U U (by repeat constructor) Ph2 (hk undef _ ⟨QFs.nil, ?_⟩)
    refine D.done C hok (by kernel_rfl)<|X.weaken ?_ (hcont (p21,p22) trivial)
    exact⟨U,U,U,U,U,U,U,U,U,U,trivial⟩
   ·
    refine R.alloc C U (A.w U U) zeroValue65 U fun p22=>hk _ _ ⟨(QFs.cons (QF.of U (fun _ _ A h=>R.loadAggRo C U (A.w U U) (A.x U U) isAgg65 sizeOf65 hrop2 hrc2 h)) (QFs.cons (QF.of U (fun _ _ A h=>R.loadOne C U (A.w U U) (A.x U U) isAgg24 (by repeat constructor) U h)) (QFs.cons (QF.of U (fun _ _ A h=>R.loadAggRo C U (A.w U U) (A.x U U) isAgg65 sizeOf65 hrop hrc h)) (QFs.cons (QF.of U (fun _ _ A h=>R.loadOne C U (A.w U U) (A.x U U) isAgg22 (by repeat constructor) U h)) QFs.nil)))), ?_⟩
    refine De 12 (some 21) [true,true,true,true] hok (fun _ _ A hk=>?_)
    refine R.alloc C U (A.w U U) zeroValue65 U fun p21=>hk _ _ ⟨(QFs.cons (QF.of U (fun _ _ A h=>R.loadAggRo C U (A.w U U) (A.x U U) isAgg65 sizeOf65 hrop2 hrc2 h)) (QFs.cons (QF.of U (fun _ _ A h=>R.loadOne C U (A.w U U) (A.x U U) isAgg24 (by repeat constructor) U h)) (QFs.cons (QF.of U (fun _ _ A h=>R.loadAggRo C U (A.w U U) (A.x U U) isAgg65 sizeOf65 hrop hrc h)) (QFs.cons (QF.of U (fun _ _ A h=>R.loadOne C U (A.w U U) (A.x U U) isAgg22 (by repeat constructor) U h)) QFs.nil)))), ?_⟩
    refine De 14 none [true,true,false,false] hok (fun _ _ A hk=>?_)
    refine R.store C U (A.w U U) (A.x U U) (A.x U U) sizeOf65 U U U (by repeat constructor) Ph2 (hk undef _ ⟨(QFs.cons (QF.of U (fun _ _ A h=>R.loadAggRo C U (A.w U U) (A.x U U) isAgg65 sizeOf65 hrop2 hrc2 h)) (QFs.cons (QF.of U (fun _ _ A h=>R.loadOne C U (A.w U U) (A.x U U) isAgg24 (by repeat constructor) U h)) QFs.nil)), ?_⟩)
    refine De 15 none [false,false] hok (fun _ _ A hk=>?_)
    refine R.store C U (A.w U U) (A.x U U) (A.x U U) sizeOf65 U U U (by repeat constructor) Ph2 (hk undef _ ⟨QFs.nil, ?_⟩)
    refine D.done C hok (by kernel_rfl)<|X.perm C.1 (List.Perm.swap _ _ _)<|X.weaken ?_ (hcont (p21,p22) trivial)
    exact⟨U,U,U,U,U,U,U,U,U,U,trivial⟩
  obtain⟨p21,p22⟩:=s
  refine Xr C U U<|Rm C U U<|R.convInt C U U U runUnderlying5 runUnderlying3 (wrap64 (by omega) (by omega))<|R.int C U U U U (b_remP (by omega) (by omega))<|Rm C U U<|R.convInt C U U U runUnderlying5 runUnderlying3 (wrap64 (by omega) (by omega))<|R.int C U U U U (b_remP (by omega) (by omega))<|R.asg C U U U<|Ad C U U<|Xs C ?_
  have hn:0≤n0%20∧n0%20<20:=by omega
  have hm:0≤m0%20∧m0%20<20:=by omega
  generalize n0%20=n at hn⊢
  generalize m0%20=m at hm⊢
  refine X.afterI (ι:=Nat×RO×Value×Value×Value×Value) (fun s=>ro.le s.2.1∧BkP s.2.1 (b.noTests.borne i.toNat (upPart (b.part i).r n)) s.2.2.1 s.2.2.2.1 s.2.2.2.2.1 s.2.2.2.2.2) (fun s=> [(25, .pointer (some ⟨s.1,0,none⟩)),(22, .pointer (some ⟨p22,0,none⟩)),(24, .int .i64 m),(17, .int .i64 i),(18, .int .i64 k),(19, .int .i64 g),(20, .int .i64 lo),(1, .int .u8 w0),(8, .pointer (some ⟨p8,0,none⟩))])
   (fun s=>⟨s.2.1,(s.1, .cells [.int .i64 b.w,s.2.2.1,s.2.2.2.1,s.2.2.2.2.1,s.2.2.2.2.2].toArray 27 (0,0))::(p22, .cells [.int .i64 (b.piece k).r.lo, .int .i64 (b.piece k).r.hi].toArray 65 (0,0))::(p21, .cells [.int .i64 (b.part i).r.lo, .int .i64 (b.part i).r.hi].toArray 65 (0,0))::(p8, .cells [.int .i64 b.w, .slice (some ⟨pp,off,none⟩) b.ps.length pc, .slice gb b.gs.length gc, .slice (some ⟨pp2,off2,none⟩) b.cs.length cc, .slice none 0 0].toArray 27 (0,0)):: []⟩) (fun s hsx=>?_) (fun hcont=>?_)
  rotate_left
  ·have _:=hil
   refine Xd C fun hok=>D5 C 0 hok U U isAgg27 sizeOf27 (by repeat constructor) Tk5<|Dm C 1 hok U U U<|Df (off':=0) C 2 hok U U U runUnderlying65 U sizeOf3 U<|D1 C 3 hok U U isAgg3 (by repeat constructor) U<|Dm C 4 hok U U U<|Di C 5 hok U U U U U (b_add (by omega) (by omega))<|Dp 6 hok (fun _ _ _ A h=>R.min2 C U (A.w U U) (A.x U U) (A.x U U) h)<|Df (off':=1) C 7 hok U U U runUnderlying65 U sizeOf3 U<|D1 C 8 hok U U isAgg3 (by repeat constructor) U<|Dm C 9 hok U U U<|Di C 10 hok U U U U U (b_add (by omega) (by omega))<|Dp 11 hok (fun _ _ _ A h=>R.min2 C U (A.w U U) (A.x U U) (A.x U U) h)<|D.eP2 (i:=12) (i':=14) (dst:=(some 85)) (dst':=(some 25)) [false,false,true] [true,true,true] hok U U (by kernel_rfl) (by kernel_rfl) (by kernel_rfl) (fun _ _ A hk=>?_) (fun _ _ A hk=>?_)
   ·
    refine R.callP C U (A.w U U) (A.x U U) (A.s U U) (reach_c hJ _ _ _) (hk _ _ ⟨(QFs.cons (QF.of U (fun _ _ A h=>R.loadAgg C U (A.w U U) (A.x U U) isAgg27 sizeOf27 (by repeat constructor) Tk5 h)) QFs.nil), ?_⟩)
    refine D.eP2 (i:=13) (i':=14) (dst:=(some 86)) (dst':=(some 25)) [false] [true] hok U U (by kernel_rfl) (by kernel_rfl) (by kernel_rfl) (fun _ _ A hk=>?_) (fun _ _ A hk=>?_)
    ·
     refine R.callR C U (A.w U U) (A.x U U) (A.s U U) (borneR_c hJ hvv (show b.ps.length≤1000 by omega) hi (upPart (b.part i).r n)) fun v5 ro5 hl5 hq5=>hk _ _ ⟨QFs.nil, ?_⟩
     refine De 14 (some 25) [] hok (fun _ _ A hk=>?_)
     obtain⟨_,_,_,_,rfl,hnb⟩:=hq5
     obtain⟨_,_,rfl⟩:=hnb.1.form
     obtain⟨_,_,rfl⟩:=hnb.2.1.form
     obtain⟨_,_,rfl⟩:=hnb.2.2.1.form
     obtain⟨_,_,rfl⟩:=hnb.2.2.2.form
     refine R.alloc C U (A.w U U) zeroValue27 U fun p25=>hk _ _ ⟨QFs.nil, ?_⟩
     refine De 15 none [] hok (fun _ _ A hk=>?_)
     refine R.store C U (A.w U U) (A.x U U) (A.x U U) sizeOf27 U U U (by repeat constructor) Ph5 (hk undef _ ⟨QFs.nil, ?_⟩)
     refine D.done C hok (by kernel_rfl)<|X.weaken ?_ (hcont (p25,ro5,_,_,_,_) ⟨hl5,hnb⟩)
     exact⟨U,U,U,U,U,U,U,U,U,trivial⟩
    ·
     refine R.alloc C U (A.w U U) zeroValue27 U fun p25=>hk _ _ ⟨(QFs.cons (QF.of U (fun _ _ A h=>R.loadAgg C U (A.w U U) (A.x U U) isAgg27 sizeOf27 (by repeat constructor) Tk5 h)) QFs.nil), ?_⟩
     refine De 13 (some 86) [false] hok (fun _ _ A hk=>?_)
     refine R.callR C U (A.w U U) (A.x U U) (A.s U U) (borneR_c hJ hvv (show b.ps.length≤1000 by omega) hi (upPart (b.part i).r n)) fun v5 ro5 hl5 hq5=>hk _ _ ⟨QFs.nil, ?_⟩
     refine De 15 none [] hok (fun _ _ A hk=>?_)
     obtain⟨_,_,_,_,rfl,hnb⟩:=hq5
     obtain⟨_,_,rfl⟩:=hnb.1.form
     obtain⟨_,_,rfl⟩:=hnb.2.1.form
     obtain⟨_,_,rfl⟩:=hnb.2.2.1.form
     obtain⟨_,_,rfl⟩:=hnb.2.2.2.form
     refine R.store C U (A.w U U) (A.x U U) (A.x U U) sizeOf27 U U U (by repeat constructor) Ph5 (hk undef _ ⟨QFs.nil, ?_⟩)
     refine D.done C hok (by kernel_rfl)<|X.weaken ?_ (hcont (p25,ro5,_,_,_,_) ⟨hl5,hnb⟩)
     exact⟨U,U,U,U,U,U,U,U,U,trivial⟩
   ·
    refine R.alloc C U (A.w U U) zeroValue27 U fun p25=>hk _ _ ⟨(QFs.cons (QF.of U (fun _ _ A h=>R.loadOne C U (A.w U U) (A.x U U) isAgg3 (by repeat constructor) U h)) (QFs.cons (QF.of U (fun _ _ A h=>R.loadOne C U (A.w U U) (A.x U U) isAgg3 (by repeat constructor) U h)) (QFs.cons (QF.of U (fun _ _ A h=>R.loadAgg C U (A.w U U) (A.x U U) isAgg27 sizeOf27 (by repeat constructor) Tk5 h)) QFs.nil))), ?_⟩
    refine De 12 (some 85) [false,false,true] hok (fun _ _ A hk=>?_)
    refine R.callP C U (A.w U U) (A.x U U) (A.s U U) (reach_c hJ _ _ _) (hk _ _ ⟨(QFs.cons (QF.of U (fun _ _ A h=>R.loadAgg C U (A.w U U) (A.x U U) isAgg27 sizeOf27 (by repeat constructor) Tk5 h)) QFs.nil), ?_⟩)
    refine De 13 (some 86) [false] hok (fun _ _ A hk=>?_)
    refine R.callR C U (A.w U U) (A.x U U) (A.s U U) (borneR_c hJ hvv (show b.ps.length≤1000 by omega) hi (upPart (b.part i).r n)) fun v5 ro5 hl5 hq5=>hk _ _ ⟨QFs.nil, ?_⟩
    refine De 15 none [] hok (fun _ _ A hk=>?_)
    obtain⟨_,_,_,_,rfl,hnb⟩:=hq5
    obtain⟨_,_,rfl⟩:=hnb.1.form
    obtain⟨_,_,rfl⟩:=hnb.2.1.form
    obtain⟨_,_,rfl⟩:=hnb.2.2.1.form
    obtain⟨_,_,rfl⟩:=hnb.2.2.2.form
    refine R.store C U (A.w U U) (A.x U U) (A.x U U) sizeOf27 U U U (by repeat constructor) Ph5 (hk undef _ ⟨QFs.nil, ?_⟩)
    refine D.done C hok (by kernel_rfl)<|X.weaken ?_ (hcont (p25,ro5,_,_,_,_) ⟨hl5,hnb⟩)
    exact⟨U,U,U,U,U,U,U,U,U,trivial⟩
  obtain⟨p25,ro5,zp,zg,zc,zt⟩:=s
  obtain⟨hl5,hnb⟩:=hsx
  simp only at hl5 hnb⊢
  obtain⟨pb5,pc5,rfl⟩:=hnb.1.form
  obtain⟨gb5,gc5,rfl⟩:=hnb.2.1.form
  obtain⟨cb5,cc5,rfl⟩:=hnb.2.2.1.form
  obtain⟨tb5,tc5,rfl⟩:=hnb.2.2.2.form
  have hvb:BkV ro5 (.agg [.int .i64 b.w, .slice pb5 (b.noTests.borne i.toNat (upPart (b.part i).r n)).ps.length pc5, .slice gb5 (b.noTests.borne i.toNat (upPart (b.part i).r n)).gs.length gc5, .slice cb5 (b.noTests.borne i.toNat (upPart (b.part i).r n)).cs.length cc5, .slice tb5 (b.noTests.borne i.toNat (upPart (b.part i).r n)).ts.length tc5].toArray) (b.noTests.borne i.toNat (upPart (b.part i).r n)):=⟨_,_,_,_,rfl,hnb⟩
  refine Xs C<|Xd C fun hok=>D5 C 0 hok U U isAgg27 sizeOf27 (by repeat constructor) Tk5<|Dm C 1 hok U U U<|Df (off':=0) C 2 hok U U U runUnderlying65 U sizeOf3 U<|D1 C 3 hok U U isAgg3 (by repeat constructor) U<|Dm C 4 hok U U U<|Di C 5 hok U U U U U (b_sub (by omega) (by omega))<|Dp 6 hok (fun _ _ _ A h=>R.max2 C U (A.w U U) (A.x U U) (A.x U U) h)<|Df (off':=1) C 7 hok U U U runUnderlying65 U sizeOf3 U<|D1 C 8 hok U U isAgg3 (by repeat constructor) U<|Dm C 9 hok U U U<|Di C 10 hok U U U U U (b_sub (by omega) (by omega))<|Dp 11 hok (fun _ _ _ A h=>R.max2 C U (A.w U U) (A.x U U) (A.x U U) h)<|De 12 (some 99) [false,false,true] hok (fun _ _ A hk=>?_)
  refine R.callP C U (A.w U U) (A.x U U) (A.s U U) (reach_c hJ _ _ _) (hk _ _ ⟨(QFs.cons (QF.of U (fun _ _ A h=>R.loadAgg C U (A.w U U) (A.x U U) isAgg27 sizeOf27 (by repeat constructor) Tk5 h)) QFs.nil), ?_⟩)
  refine De 13 (some 100) [false] hok (fun _ _ A hk=>?_)
  refine R.callR C U (A.w U U) (A.x U U) (A.s U U) (weighedR_c hJ hvb (show b.cs.length≤1000 by omega) hkb (downPiece (b.piece k).r m)) fun v6 ro6 hl6 hq6=>hk _ _ ⟨QFs.nil, ?_⟩
  refine De 14 none [] hok (fun _ _ A hk=>?_)
  obtain⟨_,_,_,_,rfl,hnb6⟩:=hq6
  obtain⟨_,_,rfl⟩:=hnb6.1.form
  obtain⟨_,_,rfl⟩:=hnb6.2.1.form
  obtain⟨_,_,rfl⟩:=hnb6.2.2.1.form
  obtain⟨_,_,rfl⟩:=hnb6.2.2.2.form
  have k6:=RO.le_trans hl5 hl6
  refine R.store C U (A.w U U) (A.x U U) (A.x U U) sizeOf27 U U U (by repeat constructor) Ph5 (hk undef _ ⟨QFs.nil, ?_⟩)
  refine D.done C hok (by kernel_rfl)<|Xr C U U<|Rf C 0 U U runUnderlying27 U sizeOf3<|Rl C U U isAgg3 (by repeat constructor) U<|Rm C U U<|R.convInt C U U U runUnderlying5 runUnderlying3 (wrap64 (by omega) (by omega))<|R.int C U U U U (b_remP (by omega) (by omega))<|Ra C U U U<|R.min2 C U U U U<|Rf C 0 U U runUnderlying27 U sizeOf3<|R.store C U U U U sizeOf3 U U U (by repeat constructor) (.here .nil)<|R.done C<|Xs C<|Xs C ?_
  have hw:0≤w0%20:=by omega
  have hst:=stronger_up hch rfl (i:=i) (k:=k) (n:=n) (m:=m) (w:=w0%20) hi hkb hn.1 hm.1 hw
  have hvc:BkV ro6 _ (b.noTests.stronger i k n m (w0%20)):=⟨_,_,_,_,rfl,hnb6⟩
  have hcc:=hst.hc
  have hnd:cases (b.noTests.stronger i k n m (w0%20))≠ []:=bare_cases (good_of hcc) hst.tc
  have hmay:=hst.may hgb hkb
  have m1:=mayR_eq hch hne hgb hkb
  have m2:=mayR_eq hcc hnd (g:=g) (k:=k) (by rw [hst.gs];exact hgb) (by rw [hst.nc];exact hkb)
  have shc:=short_of (not_great hcc)
  refine X.region C U U<|R5 C U U isAgg27 sizeOf27 (by repeat constructor) Tk5<|R.callP C U U U U (checkBookR_c hJ hvc shc)<|R.int C U U U U b_neq<|R.fixv (t:=111) (v':= .bool false) U (by(rw [hcc];rfl))<|Rm C U U<|R5 C U U isAgg27 sizeOf27 (by repeat constructor) Tk5<|R5 C U U isAgg27 sizeOf27 (by repeat constructor) Tk5<|Rm C U U<|Rm C U U<|R.callR C U U U U (noLessR_c (he.mono k6) (hvv.mono k6) hvc hch hcc hne hnd hst.noLess hgb hlo) fun v7 ro7 hl7 hq7=>?_
  subst hq7
  have k7:=RO.le_trans k6 hl7
  refine R.not C U U U<|R.fixv (t:=118) (v':= .bool false) U (by rfl)<|R.pickF C U U U U<|R.done C<|X.cond C.1 U (fun h=>nomatch h) (fun _=>?_)
  refine X.skip C.1<|Xr C U U<|R5 C U U isAgg27 sizeOf27 (by repeat constructor) Tk5<|Rm C U U<|Rm C U U<|R.callR C U U U U (may_c hJ (he.mono k7) (hvv.mono k7) hsh g k) fun v8 ro8 hl8 hq8=>?_
  subst hq8
  rw [m1]
  have k8:=RO.le_trans k7 hl8
  refine Rm C U U<|R.ext C U U U U<|R.ext C U U U U<|R.asg C U U U<|Ad C U U<|Xr C U U<|R5 C U U isAgg27 sizeOf27 (by repeat constructor) Tk5<|Rm C U U<|Rm C U U<|R.callR C U U U U (may_c hJ (he.mono k8) (hvc.mono (RO.le_trans hl7 hl8)) shc g k) fun v10 ro10 hl10 hq10=>?_
  subst hq10
  rw [m2]
  have k10:=RO.le_trans k8 hl10
  generalize may b.noTests g k=u at hmay⊢
  generalize may (b.noTests.stronger i k n m (w0%20)) g k=u2 at hmay⊢
  obtain⟨hm1,hm2⟩:=hmay
  by_cases hu:u=1
  ·have hu2:=hm1 hu
   refine Rm C U U<|R.ext C U U U U<|R.ext C U U U U<|R.asg C U U U<|Ad C U U<|Xr C U U<|Rm C U U<|R.int C U U U U b_eql<|R.fixv (t:=135) (v':= .bool true) U (by rfl)<|Rm C U U<|Rm C U U<|R.int C U U U U b_eql<|R.fixv (t:=138) (v':= .bool true) U (by rfl)<|R.pickT C U U U U<|Rm C U U<|Rm C U U<|R.int C U U U U b_neq<|R.fixv (t:=142) (v':= .bool false) U (Bv (by simp [hu])) ?_;refine Rm C U U<|Rm C U U<|R.int C U U U U b_eql<|R.fixv (t:=145) (v':= .bool true) U (Bv (by simp [hu2])) ?_;refine R.pickF C U U U U<|R.pickT C U U U U<|Rm C U U<|Rm C U U<|R.int C U U U U b_eql<|R.fixv (t:=150) (v':= .bool false) U (Bv (by simp [hu])) ?_;refine Rm C U U<|Rm C U U<|R.int C U U U U b_neq<|R.fixv (t:=153) (v':= .bool true) U (Bv (by simp [hu2])) ?_;refine R.pickF C U U U U<|R.pickT C U U U U<|Rm C U U<|R.callR C U U U U ((hoisted_c _ (he.mono k10))) fun v9 ro9 hl9 hq9=>R.pickT C U U U U<|Ad C U U<|X.ret0 C (by kernel_rfl) U U func15 U (by exact(.tmp U .nil)) fun w9 hs9=>hret _ _ _ (RO.le_trans k10 hl9) ?_ w9 hs9
   exact hq9
  ·by_cases hu3:u=2
   ·have _:=hu
    refine Rm C U U<|R.ext C U U U U<|R.ext C U U U U<|R.asg C U U U<|Ad C U U<|Xr C U U<|Rm C U U<|R.int C U U U U b_eql<|R.fixv (t:=135) (v':= .bool true) U (by rfl)<|Rm C U U<|Rm C U U<|R.int C U U U U b_eql<|R.fixv (t:=138) (v':= .bool true) U (by rfl)<|R.pickT C U U U U<|Rm C U U<|Rm C U U<|R.int C U U U U b_neq<|R.fixv (t:=142) (v':= .bool true) U (Bv (by simp [hu])) ?_;refine Rm C U U<|R.pass C U U<|R.pass C U U<|R.pickT C U U U U<|R.pickT C U U U U<|Rm C U U<|Rm C U U<|R.int C U U U U b_eql<|R.fixv (t:=150) (v':= .bool true) U (Bv (by simp [hu3])) ?_;refine Rm C U U<|R.pass C U U<|R.pass C U U<|R.pickT C U U U U<|R.pickT C U U U U<|Rm C U U<|R.callR C U U U U ((hoisted_c _ (he.mono k10))) fun v9 ro9 hl9 hq9=>R.pickT C U U U U<|Ad C U U<|X.ret0 C (by kernel_rfl) U U func15 U (by exact(.tmp U .nil)) fun w9 hs9=>hret _ _ _ (RO.le_trans k10 hl9) ?_ w9 hs9
    exact hq9
   ·have hu4:=hm2 hu3
    refine Rm C U U<|R.ext C U U U U<|R.ext C U U U U<|R.asg C U U U<|Ad C U U<|Xr C U U<|Rm C U U<|R.int C U U U U b_eql<|R.fixv (t:=135) (v':= .bool true) U (by rfl)<|Rm C U U<|Rm C U U<|R.int C U U U U b_eql<|R.fixv (t:=138) (v':= .bool true) U (by rfl)<|R.pickT C U U U U<|Rm C U U<|Rm C U U<|R.int C U U U U b_neq<|R.fixv (t:=142) (v':= .bool true) U (Bv (by simp [hu])) ?_;refine Rm C U U<|R.pass C U U<|R.pass C U U<|R.pickT C U U U U<|R.pickT C U U U U<|Rm C U U<|Rm C U U<|R.int C U U U U b_eql<|R.fixv (t:=150) (v':= .bool false) U (Bv (by simp [hu3])) ?_;refine Rm C U U<|Rm C U U<|R.int C U U U U b_neq<|R.fixv (t:=153) (v':= .bool true) U (Bv (by simp [hu4])) ?_;refine R.pickF C U U U U<|R.pickT C U U U U<|Rm C U U<|R.callR C U U U U ((hoisted_c _ (he.mono k10))) fun v9 ro9 hl9 hq9=>R.pickT C U U U U<|Ad C U U<|X.ret0 C (by kernel_rfl) U U func15 U (by exact(.tmp U .nil)) fun w9 hs9=>hret _ _ _ (RO.le_trans k10 hl9) ?_ w9 hs9
    exact hq9
end Go.Lg.B
namespace Go.Lg.B
open Go Go.Proofs Go.Proofs.YtchjgmkeemdhlaaGreatDoor Go.Proofs.Tryz
theorem stronger_k1:(Rows.tackleStrongerRow.inPlace==prog.inPlace 15)=true:=by kernel_rfl
theorem stronger_k2:(Rows.tackleStrongerRow.unfollowed==prog.unfollowed 15)=true:=by kernel_rfl
theorem stronger_k3:(Rows.tackleStrongerRow.recurses==prog.recurses 15)=true:=by kernel_rfl
theorem stronger_k4:(Rows.tackleStrongerRow.named==prog.varsNamed 15)=true:=by kernel_rfl
theorem stronger_name:prog.funcNamed "lagan/laganlaw07.TackleStronger" =some 15:=by kernel_rfl
theorem stronger_goes:true=Rows.tackleStrongerRow.goesBy prog:=by kernel_rfl
theorem stronger_wf:Rows.tackleStrongerRow.wfByText (OpenSpec.ofChange Rows.tackleStrongerSpec)=true:=by kernel_rfl
theorem stronger_facts:joinedFacts prog 15 Tryz.f15 Rows.tackleStrongerSpec Rows.tackleStrongerRow=true:=by
 unfold joinedFacts
 exact(and_mk (and_mk (and_mk (and_mk (and_mk (and_mk (and_mk (and_mk (and_mk (and_mk (and_mk (and_mk (and_mk (and_mk (and_mk (and_mk (and_mk (and_mk (and_mk (and_mk (and_mk (and_mk (and_mk (and_mk (and_mk (and_mk (and_mk (and_mk (and_mk (and_mk (and_mk (by as_aux_lemma=>kernel_rfl)
  k_lo)
  k_mr)
  (by as_aux_lemma=>kernel_rfl))
  (by as_aux_lemma=>kernel_rfl))
  (by as_aux_lemma=>kernel_rfl))
  k_stops)
  (by as_aux_lemma=>kernel_rfl))
  k_knobs)
  stronger_k1)
  stronger_k2)
  stronger_k3)
  stronger_k4)
  (by as_aux_lemma=>kernel_rfl))
  (by as_aux_lemma=>kernel_rfl))
  (by as_aux_lemma=>kernel_rfl))
  (by as_aux_lemma=>kernel_rfl))
  (by as_aux_lemma=>kernel_rfl))
  (by as_aux_lemma=>kernel_rfl))
  (by as_aux_lemma=>kernel_rfl))
  (by as_aux_lemma=>kernel_rfl))
  (by as_aux_lemma=>kernel_rfl))
  (beq_iff_eq.2 k_pk.symm))
  (by as_aux_lemma=>kernel_rfl))
  k_heard)
  k_may)
  (beq_iff_eq.2 k_lift.symm))
  (beq_iff_eq.2 k_make))
  (by as_aux_lemma=>kernel_rfl))
  (by as_aux_lemma=>kernel_rfl))
  (by as_aux_lemma=>kernel_rfl))
  (by as_aux_lemma=>kernel_rfl))
end Go.Lg.B
namespace Go.Proofs.YtchjgmkeemdhlaaGreatDoor
open Go Go.Conc Go.Lg Go.Lg.B Go.ChangeShapes Go.RowKit Go.WideShapes
theorem stronger_lifted(os:Os)(started:os.Started)(H:Type)(enc:TypeId×Value→H):
  ReturnsInLeavingWide {} Tryz.checked os 15 .any (fun w args=>(Rows.tackleStrongerSpec.pre enc Tryz.prog Tryz.f15 [] false w args∧laidMetH Tryz.prog laid1 w)∧sizedMet enc Tryz.prog Tryz.f15 (OpenSpec.ofChange Rows.tackleStrongerSpec) false w args)
   (Rows.tackleStrongerSpec.post enc Tryz.prog Tryz.f15 false true false false):=by
 refine leaving_of_root (C:=Tryz.checked) (tb:=4) (X:=fun w _=>laidMetH Tryz.prog laid1 w) (fun _ _ _ hh h=>h.of_heap hh) own0 started Tryz.func15 laid0 (by
   intro t ht
   rw [Tryz.params15] at ht
   have hm:t∈ [27,5,5,5,5,5,5,5]:=ht
   have hall:([27,5,5,5,5,5,5,5].all fun u=>Tryz.prog.readableRec u && decide (u<Tryz.prog.types.size))=true:=by kernel_rfl
   have:=List.all_eq_true.1 hall t hm
   rw [Bool.and_eq_true,decide_eq_true_eq] at this
   exact this) rfl (by kernel_rfl) Tryz.underlying4
  (ChangeSpec.witness_shaped (enc:=enc) (C:=Tryz.checked) (os:=os) (X:=fun w _=>laidMetH Tryz.prog laid1 w) false (World.doorLaid Tryz.prog 89 os) #[.agg #[.int .i64 0, .slice none 0 0, .slice none 0 0, .slice none 0 0, .slice none 0 0], .int .u8 0, .int .u8 0, .int .u8 0, .int .u8 0, .int .u8 0, .int .u8 0, .int .u8 0] 8 rfl (door_shaped os _) (by kernel_rfl) (by kernel_rfl) (by kernel_rfl) (door_met os _)) ?_
 intro W base args ds gs before hval hW _ _ hL
 obtain⟨p,q,hA,hV,rfl,_,_⟩:=hW
 obtain⟨rfl,rfl⟩:=trodVars_none hV
 have hA:DataW.TrodAll enc Tryz.prog W 0 (fun _=>true) true Tryz.f15.params.toList args.toList ds p:=hA
 have hval:∀ (j:Nat) t v,Tryz.f15.params[j]? =some t→args[j]? =some v→Value.okWide Tryz.prog W .any base t v:=hval
 rw [Tryz.params15] at hA hval
 obtain⟨v1,l1,d1,k1,p1,q1,e1,rfl,rfl,h1,hA⟩:=trodAll_cons hA
 obtain⟨v2,l2,d2,k2,p2,q2,rfl,rfl,rfl,h2,hA⟩:=trodAll_cons hA
 obtain⟨v3,l3,d3,k3,p3,q3,rfl,rfl,rfl,h3,hA⟩:=trodAll_cons hA
 obtain⟨v4,l4,d4,k4,p4,q4,rfl,rfl,rfl,h4,hA⟩:=trodAll_cons hA
 obtain⟨v5,l5,d5,k5,p5,q5,rfl,rfl,rfl,h5,hA⟩:=trodAll_cons hA
 obtain⟨v6,l6,d6,k6,p6,q6,rfl,rfl,rfl,h6,hA⟩:=trodAll_cons hA
 obtain⟨v7,l7,d7,k7,p7,q7,rfl,rfl,rfl,h7,hA⟩:=trodAll_cons hA
 obtain⟨v8,l8,d8,k8,p8,q8,rfl,rfl,rfl,h8,hA⟩:=trodAll_cons hA
 obtain⟨rfl,rfl,rfl⟩:=trodAll_nil hA
 have ea:args= #[v1,v2,v3,v4,v5,v6,v7,v8]:=Array.toList_inj.1 e1
 subst ea
 obtain⟨b,b1⟩:=argBk (hval 0 27 v1 rfl rfl) h1
 obtain⟨a1,rfl,o1⟩:=argU8 (hval 1 5 v2 rfl rfl) h2
 obtain⟨a2,rfl,o2⟩:=argU8 (hval 2 5 v3 rfl rfl) h3
 obtain⟨a3,rfl,o3⟩:=argU8 (hval 3 5 v4 rfl rfl) h4
 obtain⟨a4,rfl,o4⟩:=argU8 (hval 4 5 v5 rfl rfl) h5
 obtain⟨a5,rfl,o5⟩:=argU8 (hval 5 5 v6 rfl rfl) h6
 obtain⟨a6,rfl,o6⟩:=argU8 (hval 6 5 v7 rfl rfl) h7
 obtain⟨a7,rfl,o7⟩:=argU8 (hval 7 5 v8 rfl rfl) h8
 exact⟨rfl,stronger_root o1 o2 o3 o4 o5 o6 o7 (env_of_laid hL) b1⟩
theorem stronger_row:Rows.TackleStrongerSaid:=
 OpenClaim.holds_of_wide_leaving 15 Tryz.f15 rfl rfl rfl rfl rfl rfl rfl ⟨rfl,rfl,rfl,rfl,rfl⟩ rfl rfl rfl rfl rfl stronger_name Tryz.func15 stronger_facts
  (of_decide_eq_true (by kernel_rfl)) (by unfold Func.isWrapper;first|(rw [if_pos (by decide+kernel)];kernel_rfl)|(rw [if_neg (by decide+kernel)];exact⟨rfl,rfl⟩))
  (fun os started H enc _=>stronger_lifted os started H enc)
theorem stronger_holds:Rows.TackleStrongerCardSaid:=
 card_goes .later [.funcs] true (true, "6ec45924a9ef3528b91853e2f3d4ce9a8ac3f7423f5bdc8d9ecf7c969235976f") true
  stronger_row stronger_wf tackleStronger_row_tie rfl ⟨rfl,rfl⟩ k_main rfl
  (fun f fn hf hfn=>by
   obtain rfl:f=15:=Option.some.inj (stronger_name.symm.trans hf)|>.symm
   obtain rfl:fn=Tryz.f15:=(Option.some.inj (Tryz.func15.symm.trans hfn)).symm
   exact⟨k_looks,fun j t ht=>by
    rw [Tryz.params15] at ht
    have hm:t∈ [27,5,5,5,5,5,5,5]:=by simpa using Array.mem_of_getElem? ht
    have hall:([27,5,5,5,5,5,5,5].all fun u=> !Tryz.prog.wantsStandIn u)=true:=by kernel_rfl
    exact(show Tryz.prog.wantsStandIn t=false by simpa using List.all_eq_true.1 hall t hm)⟩)
  stronger_goes
end Go.Proofs.YtchjgmkeemdhlaaGreatDoor
