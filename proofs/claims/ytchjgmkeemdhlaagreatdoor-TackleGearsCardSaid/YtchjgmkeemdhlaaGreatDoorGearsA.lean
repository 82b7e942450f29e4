/-
  It is proved that the given function answers true for every input, whatever is scheduled: the statement Gears of the seat. Conditions: none but those of the given statement itself.
-/
import Derived.Test.YtchjgmkeemdhlaaGreatDoorKE
import Derived.Conc.Holds
set_option maxRecDepth 100000
set_option maxHeartbeats 2000000
set_option linter.all false
namespace Go.Lg
open Go
theorem Bv{a c:Bool}(h:a=c):Value.bool a=Value.bool c:=congrArg _ h
end Go.Lg
namespace Go.Lg.B
open Go Go.Conc Go.Lg
theorem pulls_bd{b:Bk}(hb:b.good){g l:Int}(h0:0≤g)(h1:g<b.gs.length)(hl:0≤l):∀y∈pulls b g l,0≤y∧y≤l:=fun y hy=>by
 simp only [pulls,List.mem_cons] at hy
 rcases hy with rfl|hy
 ·omega
 ·exact pullsGo_bd hb (hb.gear h0 h1).2.1 hl y hy
end Go.Lg.B
namespace Go.Lg
open Go Go.Conc
theorem X.afterI{J:Goroutine→Mem→Prop}{b:Frame}{cs:List Frame}{n:Nat}{ds:List Deferred}{σ:Slots}{M:Mem}{k:List Item}{it:Item}{ι:Type}(Ex:ι→Prop)(σe:ι→Slots)(Me:ι→Mem)(hk:∀s,Ex s→X J b cs n k ds (σe s) (Me s))
  (h:(∀s,Ex s→X J b cs n k ds (σe s) (Me s))→X J b cs n (it::k) ds σ M):X J b cs n (it::k) ds σ M:=h hk
section
variable {P:Program}{main:Bool}{J:Goroutine→Mem→Prop}{b:Frame}(C:Ctx P main J b){cs:List Frame}{n:Nat}{ds:List Deferred}{σ:Slots}{k:List Item}{ops:Array Oper}{i:Nat}{rest:List Nat}
 {d:Nat} {ty:TypeId} {pos:String} {af:Array Edge} {g:Option (Nat×Bool)}
include C
end
end Go.Lg
namespace Go.Lg.B
open Go Go.Conc Go.Lg Go.Proofs Go.Proofs.Tryz
theorem cmpI_flip(x y:Int):cmpI y x= -cmpI x y:=by unfold cmpI;split<;>split<;>(try split)<;>omega
theorem cmpL_flip:∀a c:List Int,cmpL c a= -cmpL a c
 | [], []=>rfl
 | [],_::_=>rfl
 |_::_, []=>rfl
 |x::xs,y::ys=>by
  have h:=cmpI_flip x y
  have ih:=cmpL_flip xs ys
  simp only [cmpL]
  split<;>split<;>omega
theorem cmpL_zero:∀ {a c:List Int},cmpL a c=0→a=c
 | [], [],_=>rfl
 | [],_::_,h=>by simp [cmpL] at h
 |_::_, [],h=>by simp [cmpL] at h
 |x::xs,y::ys,h=>by
  simp only [cmpL] at h
  split at h
  ·contradiction
  ·rename_i hx
   simp only [ne_eq,Decidable.not_not] at hx
   rw [cmpI_zero.1 hx,cmpL_zero h]
theorem cmpL_refl:∀a:List Int,cmpL a a=0
 | []=>rfl
 |x::xs=>by
  have:cmpI x x=0:=cmpI_zero.2 rfl
  simp [cmpL,this,cmpL_refl xs]
theorem sameInts_iff{a c:List Int}:sameInts a c=decide (a=c):=by
 unfold sameInts earlier
 have h:=cmpL_flip a c
 by_cases e:a=c
 ·subst e;simp [cmpL_refl]
 ·have:cmpL a c≠0:=fun h=>e (cmpL_zero h)
  rw [decide_eq_false e]
  by_cases h1:cmpL a c<0
  ·simp [h1]
  ·have h2:cmpL c a<0:=O
   simp [h2]
def allLift(b:Bk)(g n:Int):Bool:=(cases b).all fun t=>lifts b t.1 g n
theorem weights_hi{b:Bk}(hb:b.good){k:Int}(h0:0≤k)(h1:k<b.cs.length){x:Int}(hx:(b.piece k).r.lo≤x∧x≤(b.piece k).r.hi):∃w∈weightsL b,nth w k=x:=by
 have hk:k.toNat<b.cs.length:=O
 have hpk:b.piece k=b.cs[k.toNat]:=by simp [Bk.piece,List.getD_eq_getElem?_getD,hk]
 refine⟨(b.cs.map fun c=>c.r.lo).set k.toNat x,mem_spread.2 ⟨by simp,fun i r hr=>?_⟩, ?_⟩
 ·rw [List.getElem?_map] at hr
  obtain⟨c,hc,rfl⟩:=Option.map_eq_some_iff.1 hr
  have hi:i<b.cs.length:=(List.getElem?_eq_some_iff.1 hc).1
  have hf:=hb.cs c (List.mem_of_getElem? hc)
  rw [List.getElem?_set]
  by_cases e:k.toNat=i
  ·subst e
   rw [if_pos rfl,if_pos (by simpa using hi)]
   have:c=b.piece k:=by rw [hpk];rw [List.getElem?_eq_getElem hi] at hc;exact(Option.some.inj hc).symm
   exact⟨x,rfl,by simpa [this] using hx⟩
  ·rw [if_neg e,List.getElem?_map,hc]
   exact⟨_,rfl,Int.le_refl _,hf.2.1⟩
 ·simp [nth,List.getD_eq_getElem?_getD,List.getElem?_set,hk]
theorem weights_in{b:Bk}{k:Int}(h0:0≤k)(h1:k<b.cs.length){w:List Int}(hw:w∈weightsL b):(b.piece k).r.lo≤nth w k∧nth w k≤(b.piece k).r.hi:=by
 have hk:k.toNat<b.cs.length:=O
 have hpk:b.piece k=b.cs[k.toNat]:=by simp [Bk.piece,List.getD_eq_getElem?_getD,hk]
 obtain⟨_,h⟩:=mem_spread.1 hw
 obtain⟨x,hx,h3⟩:=h k.toNat (b.cs[k.toNat]).r (by simp [hk])
 rw [hpk]
 simpa [nth,List.getD_eq_getElem?_getD,hx] using h3
theorem how_one{n all:Nat}(h:0<all):how n all=1↔n=all:=by
 unfold how
 split
 ·constructor
  ·intro h2;cases h2
  ·intro h2;omega
 ·split
  ·simp_all
  ·constructor
   ·intro h2;cases h2
   ·intro h2;contradiction
theorem filter_all{α:Type}{p:α→Bool}{l:List α}:(l.filter p).length=l.length↔l.all p=true:=by
 rw [List.length_filter_eq_length_iff,List.all_eq_true]
end Go.Lg.B
namespace Go.Lg
open Go Go.Conc
theorem R.finish{P:Program}{main:Bool}{J:Goroutine→Mem→Prop}{b:Frame}{cs:List Frame}{n:Nat}{ds:List Deferred}{σ:Slots}{ro:RO}{own:List (Nat×Obj)}{k:List Item}{ops:Array Oper}{l:List Nat}{α:Type}{enc:α→List Value}{e:TypeId}{kk:Nat}{v:Value}{xs:List α}{tail:List (Nat×Obj)}(hJ:Closed P main J)(hk:∀x,(enc x).length=kk)(hkp:0<kk)(hb:Buf e kk tail v (xs.flatMap enc) own)
  (h:∀ro':RO,ro.le ro'→Ls enc kk ro' v xs→R J b cs n ops l k ds σ ⟨ro',tail⟩):R J b cs n ops l k ds σ ⟨ro,own⟩:=fun hok=>X.finish hJ hk hkp hb fun ro' hl hls=>h ro' hl hls hok
end Go.Lg
namespace Go.Lg.B
open Go Go.Conc Go.Lg Go.Proofs Go.Proofs.Tryz
section
theorem rz_take(lo:Int):∀m,rz lo (m+1)=rz lo m++ [lo+m]
 |0=>by simp [rz]
 |m+1=>by
  have:=rz_take (lo+1) m
  rw [rz,this,rz]
  simp only [List.cons_append]
  congr 2
  rw [show lo+1+(m:Int)=lo+((m+1:Nat):Int) by omega]
section
variable {main:Bool}{J:Goroutine→Mem→Prop}(hJ:Closed prog main J)
include hJ
theorem smallerR_c{va vb:Value}{ro:RO}{a d:List Int}(ha:LsI ro va a)(hc:LsI ro vb d)(h1:a.length≤1000000)(h2:d.length≤1000000):CallP prog J (fnv 65) [va,vb] ro (.bool (smaller a d)):=by
 have ha0:=ha
 have hc0:=hc
 obtain⟨ab,ac,rfl⟩:=ha.form
 obtain⟨db,dc,rfl⟩:=hc.form
 have hsm:smaller a d=(decide ((a.length:Int)<d.length)||(((a.length:Int)==d.length) && earlier a d)):=by
  unfold smaller earlier
  congr 1
  ·rw [decide_eq_decide];omega
  ·congr 1
   rw [Bool.eq_iff_iff];simp
   omega
 rw [hsm]
 refine CallP.intro hJ Kr fun c cs tail hret=>enter_X (n:=22) func65 U U (Nl U) ?_
 have C:Ctx prog main J (bf 65 .normal):=⟨hJ,by decide⟩
 refine Xr C U U<|Ad C U U<|Xr C U U<|Rm C U U<|Rn C U U runUnderlying28<|Rm C U U<|Rn C U U runUnderlying28<|R.int C U U U U b_lss<|Rm C U U<|R.fix (t:=10) U (fun q1=>?_) (fun q1=>?_)
 ·refine R.pass C U U<|R.pass C U U<|R.pass C U U<|R.pass C U U<|R.pass C U U<|R.pass C U U<|R.pass C U U<|R.pass C U U<|R.pass C U U<|R.pass C U U<|R.pickT C U U U U<|Ad C U U<|Xt C func65<|Hp hret ?_
  first|(simp_all [retVal];done)
 ·refine Rm C U U<|Rn C U U runUnderlying28<|Rm C U U<|Rn C U U runUnderlying28<|R.int C U U U U b_eql<|Rm C U U<|R.fix (t:=16) U (fun q2=>?_) (fun q2=>?_)
  ·refine Rm C U U<|Rm C U U<|R.callP C U U U U (earlier_c hJ ha0 hc0 h1 h2)<|R.pickT C U U U U<|R.pickF C U U U U<|Ad C U U<|Xt C func65<|Hp hret ?_
   first|(simp_all [retVal];done)
  ·refine R.pass C U U<|R.pass C U U<|R.pass C U U<|R.pickF C U U U U<|R.pickF C U U U U<|Ad C U U<|Xt C func65<|Hp hret ?_
   first|(simp_all [retVal];done)
end
end
section
def liftsOne(b:Bk)(l:List Int)(p:Nat):Bool:=l.any fun g=>may b g p==1
def liftedL(b:Bk)(l:List Int):Bool:=(List.range b.cs.length).all (liftsOne b l)
theorem bitsFrom_mem(mask:Nat)(x:Int):∀ (m i:Nat),x∈bitsFrom mask i m↔ ∃j:Nat,i≤j∧j<i+m∧mask.testBit j=true∧x=j
 |0,i=>by
  simp only [bitsFrom,List.not_mem_nil,false_iff]
  rintro⟨j,h1,h2,_⟩;omega
 |m+1,i=>by
  have ih:=bitsFrom_mem mask x m (i+1)
  rw [bitsFrom]
  split
  ·rename_i h
   rw [List.mem_cons,ih]
   constructor
   ·rintro(rfl|⟨j,h1,h2,h3,h4⟩)
    ·exact⟨i,O,O,h,rfl⟩
    ·exact⟨j,O,O,h3,h4⟩
   ·rintro⟨j,h1,h2,h3,h4⟩
    by_cases e:j=i
    ·subst e;exact .inl h4
    ·exact .inr ⟨j,O,O,h3,h4⟩
  ·rename_i h
   rw [ih]
   constructor
   ·rintro⟨j,h1,h2,h3,h4⟩;exact⟨j,O,O,h3,h4⟩
   ·rintro⟨j,h1,h2,h3,h4⟩
    by_cases e:j=i
    ·subst e;exact absurd h3 h
    ·exact⟨j,O,O,h3,h4⟩
theorem bitsFrom_asc(mask:Nat):∀ (m i:Nat),(bitsFrom mask i m).Pairwise (· < ·)
 |0,_=> .nil
 |m+1,i=>by
  rw [bitsFrom]
  split
  ·refine List.pairwise_cons.2 ⟨fun x hx=>?_,bitsFrom_asc mask m (i+1)⟩
   obtain⟨j,h1,_,_,rfl⟩:=(bitsFrom_mem mask x m (i+1)).1 hx
   omega
  ·exact bitsFrom_asc mask m (i+1)
theorem listOf_mem{n mask:Nat}{x:Int}:x∈listOf n mask↔ ∃j:Nat,j<n∧mask.testBit j=true∧x=j:=by
 rw [listOf,bitsFrom_mem]
 constructor
 ·rintro⟨j,_,h2,h3,h4⟩;exact⟨j,O,h3,h4⟩
 ·rintro⟨j,h2,h3,h4⟩;exact⟨j,O,O,h3,h4⟩
theorem listOf_asc(n mask:Nat):(listOf n mask).Pairwise (· < ·):=bitsFrom_asc mask n 0
def maskL:List Int→Nat
 | []=>0
 |k::l=>2^k.toNat|||maskL l
theorem maskL_bit(i:Nat):∀ {l:List Int},(∀k∈l,0≤k)→((maskL l).testBit i=true↔(i:Int)∈l)
 | [],_=>by simp [maskL]
 |k::l,h=>by
  have hk:=h k Zi
  rw [maskL,Nat.testBit_or,Bool.or_eq_true,maskL_bit i (fun x hx=>h x (by simp [hx])),Nat.testBit_two_pow,decide_eq_true_eq,List.mem_cons]
  constructor
  ·rintro(h1|h1)
   ·exact .inl O
   ·exact .inr h1
  ·rintro(h1|h1)
   ·exact .inl O
   ·exact .inr h1
theorem maskL_lt{n:Nat}:∀ {l:List Int},(∀k∈l,0≤k∧k<n)→maskL l<2^n
 | [],_=>Nat.two_pow_pos n
 |k::l,h=>by
  have hk:=h k Zi
  exact Nat.or_lt_two_pow (Nat.pow_lt_pow_right O O) (maskL_lt fun x hx=>h x (by simp [hx]))
theorem listOf_mask{n:Nat}{l:List Int}(ha:l.Pairwise (· < ·))(h:∀k∈l,0≤k∧k<n):listOf n (maskL l)=l:=by
 refine asc_unique (listOf_asc _ _) ha fun x=>?_
 rw [listOf_mem]
 constructor
 ·rintro⟨j,_,h2,rfl⟩
  exact(maskL_bit j fun k hk=>(h k hk).1).1 h2
 ·intro hx
  have:=h x hx
  exact⟨x.toNat,O,(maskL_bit x.toNat fun k hk=>(h k hk).1).2 (by rw [show((x.toNat:Nat):Int)=x by omega];exact hx),O⟩
theorem smaller_iff{a c:List Int}:smaller a c=true↔a.length<c.length∨a.length=c.length∧cmpL a c<0:=by simp [smaller]
theorem cmpL_trans:∀ {a c e:List Int},cmpL a c<0→cmpL c e<0→cmpL a e<0
 | [], [],_,h,_=>by simp [cmpL] at h
 | [],_::_, [],_,h=>by simp [cmpL] at h
 | [],_::_,_::_,_,_=>by simp [cmpL]
 |_::_, [],_,h,_=>by simp [cmpL] at h
 |_::_,_::_, [],_,h=>by simp [cmpL] at h
 |x::xs,y::ys,z::zs,h1,h2=>by
  simp only [cmpL] at h1 h2⊢
  by_cases e1:cmpI x y=0
  ·rw [if_neg (by simp [e1])] at h1
   have:=cmpI_zero.1 e1
   subst this
   by_cases e2:cmpI x z=0
   ·rw [if_neg (by simp [e2])] at h2⊢
    exact cmpL_trans h1 h2
   ·rw [if_pos e2] at h2⊢;exact h2
  ·rw [if_pos e1] at h1
   have h3:=cmpI_neg.1 h1
   by_cases e2:cmpI y z=0
   ·have:=cmpI_zero.1 e2
    subst this
    rw [if_pos e1];exact h1
   ·rw [if_pos e2] at h2
    have h4:=cmpI_neg.1 h2
    have h5:cmpI x z<0:=cmpI_neg.2 O
    rw [if_pos O];exact h5
theorem smaller_trans{a c e:List Int}(h1:smaller a c=true)(h2:smaller c e=true):smaller a e=true:=by
 rw [smaller_iff] at*
 rcases h1 with h1|⟨h1,h1'⟩
 ·rcases h2 with h2|⟨h2,_⟩<;>exact .inl O
 ·rcases h2 with h2|⟨h2,h2'⟩
  ·exact .inl O
  ·exact .inr ⟨O,cmpL_trans h1' h2'⟩
theorem smaller_irr(a:List Int):¬smaller a a=true:=by rw [smaller_iff,cmpL_refl];omega
theorem smaller_total{a c:List Int}(h1:¬smaller a c=true)(h2:¬smaller c a=true):a=c:=by
 rw [smaller_iff] at*
 have h3:=cmpL_flip a c
 refine cmpL_zero ?_
 have e1:a.length=c.length:=O
 have e2:¬cmpL a c<0:=fun h=>h1 (.inr ⟨e1,h⟩)
 have e3:¬cmpL c a<0:=fun h=>h2 (.inr ⟨e1.symm,h⟩)
 omega
theorem offer_least:∀ (l:List (List Int)) (o:List Int),∃y,l.foldl offer (some o)=some y∧(y=o∨y∈l)∧(∀x,x=o∨x∈l→¬smaller x y=true)
 | [],o=>⟨o,rfl, .inl rfl,fun x hx=>by
  rcases hx with rfl|hx
  ·exact smaller_irr _
  ·cases hx⟩
 |x::l,o=>by
  rw [List.foldl_cons,offer]
  by_cases h:smaller x o=true
  ·rw [if_pos h]
   obtain⟨y,h1,h2,h3⟩:=offer_least l x
   refine⟨y,h1, ?_,fun z hz=>?_⟩
   ·rcases h2 with rfl|h2
    ·exact .inr Zi
    ·exact .inr (by simp [h2])
   ·rcases hz with rfl|hz
    ·exact fun hz=>h3 x (.inl rfl) (smaller_trans h hz)
    ·rcases List.mem_cons.1 hz with rfl|hz
     ·exact h3 _ (.inl rfl)
     ·exact h3 z (.inr hz)
  ·rw [if_neg h]
   obtain⟨y,h1,h2,h3⟩:=offer_least l o
   refine⟨y,h1, ?_,fun z hz=>?_⟩
   ·rcases h2 with rfl|h2
    ·exact .inl rfl
    ·exact .inr (by simp [h2])
   ·rcases hz with rfl|hz
    ·exact h3 _ (.inl rfl)
    ·rcases List.mem_cons.1 hz with rfl|hz
     ·intro hz
      have h4:=h3 o (.inl rfl)
      by_cases h5:smaller o z=true
      ·exact h4 (smaller_trans h5 hz)
      ·rw [smaller_total h h5] at hz
       exact h4 hz
     ·exact h3 z (.inr hz)
theorem fewestOf_none{n:Nat}{is:Nat→Bool}(h:∀m,m<2^n→is m=false):fewestOf n is=none:=by
 have:(List.range (2^n)).filter is= []:=by
  rw [List.filter_eq_nil_iff]
  intro m hm
  rw [h m (List.mem_range.1 hm)];simp
 rw [fewestOf,this];rfl
theorem fewestOf_some{n:Nat}{is:Nat→Bool}{m:Nat}(hm:m<2^n)(h:is m=true):∃y,fewestOf n is=some y∧(∃m',m'<2^n∧is m'=true∧y=listOf n m')∧∀m',m'<2^n→is m'=true→¬smaller (listOf n m') y=true:=by
 have hmem:m∈(List.range (2^n)).filter is:=List.mem_filter.2 ⟨List.mem_range.2 hm,h⟩
 have hall:∀m',m'∈(List.range (2^n)).filter is↔m'<2^n∧is m'=true:=fun m'=>by rw [List.mem_filter,List.mem_range]
 unfold fewestOf
 generalize(List.range (2^n)).filter is=L at hmem hall
 cases L with
 |nil=>cases hmem
 |cons k L=>
  obtain⟨y,h1,h2,h3⟩:=offer_least (L.map (listOf n)) (listOf n k)
  refine⟨y,by simpa [offer] using h1, ?_,fun m' hm' his=>?_⟩
  ·rcases h2 with rfl|h2
   ·have:=(hall k).1 Zi
    exact⟨k,this.1,this.2,rfl⟩
   ·obtain⟨m',hm',rfl⟩:=List.mem_map.1 h2
    have:=(hall m').1 (by simp [hm'])
    exact⟨m',this.1,this.2,rfl⟩
  ·have:=(hall m').2 ⟨hm',his⟩
   rcases List.mem_cons.1 this with rfl|this
   ·exact h3 _ (.inl rfl)
   ·exact h3 _ (.inr (List.mem_map_of_mem this))
theorem renew_zero(p:List Int):renew 0 p=p:=by
 have:∀ (l:List Int) (i:Nat),renewGo 0 i l=l:=fun l=>by
  induction l with
  |nil=>exact fun _=>rfl
  |cons x l ih=>exact fun i=>by simp [renewGo,ih]
 exact this p 0
theorem lifted_list{b:Bk}(hne:cases b≠ [])(m:Nat):lifted b (sureM b 0) m=liftedL b (listOf b.gs.length m):=by
 unfold lifted liftedL
 have key:∀p,p<b.cs.length→((List.range b.gs.length).any fun g=>m.testBit g && sureM b 0 g p)=liftsOne b (listOf b.gs.length m) p:=fun p hp=>by
  have e:∀g:Nat,sure b 0 g p=decide (may b g p=1):=fun g=>by
   rw [Bool.eq_iff_iff,decide_eq_true_eq,may,how_one (List.length_pos_iff.2 hne),filter_all]
   have:(fun t:Tn=>lifts b (renew 0 (pad 4 t.1)) g (nth t.2 p))=fun t=>lifts b t.1 g (nth t.2 p):=by
    funext t;rw [renew_zero,lifts_pad]
   rw [sure,this]
  unfold liftsOne
  rw [Bool.eq_iff_iff,List.any_eq_true,List.any_eq_true]
  constructor
  ·rintro⟨g,h1,h2⟩
   simp only [sureM,Bool.and_eq_true,decide_eq_true_eq,e] at h2
   exact⟨(g:Int),listOf_mem.2 ⟨g,List.mem_range.1 h1,h2.1,rfl⟩,by simpa using h2.2.2.2⟩
  ·rintro⟨x,h1,h2⟩
   obtain⟨g,h3,h4,rfl⟩:=listOf_mem.1 h1
   refine⟨g,List.mem_range.2 h3, ?_⟩
   simp only [sureM,Bool.and_eq_true,decide_eq_true_eq,e]
   exact⟨h4,h3,hp,by simpa using h2⟩
 rw [Bool.eq_iff_iff,List.all_eq_true,List.all_eq_true]
 exact⟨fun h p hp=>by rw [←key p (List.mem_range.1 hp)];exact h p hp,fun h p hp=>by rw [key p (List.mem_range.1 hp)];exact h p hp⟩
theorem rz_asc:∀ (m:Nat) (n:Int),(rz n m).Pairwise (· < ·)
 |0,_=> .nil
 |m+1,n=>List.pairwise_cons.2 ⟨fun x hx=>by have:=mem_rz.1 hx;omega,rz_asc m (n+1)⟩
section
variable {main:Bool}{J:Goroutine→Mem→Prop}(hJ:Closed prog main J)
include hJ
theorem uptoR_c{n:Nat}(hn:n≤1000){ro:RO}:CallR prog J (fnv 70) [.int .i64 (n:Int)] ro (fun w ro'=>LsI ro' w (rz 0 n)):=by
 refine CallR.intro hJ Kr fun c cs tail hret=>enter_X (n:=15) func70 U U (Nl U) ?_
 have C:Ctx prog main J (bf 70 .normal):=⟨hJ,by decide⟩
 refine Xr C U U<|Ad C U U<|Xr C U U<|Ad C U U<|Xs C<|Xr C U U<|Ad C U U<|X.block C.1<|X.loopI (ι:=Nat×Value×List (Nat×Obj)) C.1 (fun s=>s.1≤n∧Buf 3 1 [] s.2.1 ((rz 0 s.1).flatMap ic) s.2.2) (fun s=> [(0, .int .i64 (n:Int)),(3,s.2.1),(4, .int .i64 (s.1:Int))])
  (fun s=>⟨ro,s.2.2++tail⟩) (fun s=>n-s.1) (0, .slice none 0 0, []) ⟨Nat.zero_le _, .nil⟩ rfl ⟨U,U,U,trivial⟩ fun s hs hnext=>?_
 obtain⟨i,v2,own2⟩:=s
 obtain⟨hi,hb2⟩:=hs
 simp only at hi hb2 hnext⊢
 have hfl:((rz 0 i).flatMap ic).length=i:=by rw [flat_len,rz_len]
 refine Xs C<|Xr C U U<|Rm C U U<|Rm C U U<|R.int C U U U U b_lss<|R.done C<|Xk C U (fun hlt=>?_) (fun hlt=>?_)
 ·have hi':i<n:=O
  refine X.skip C.1<|Xs C<|X.block C.1<|X.region C U U<|Rm C U U<|Rm C U U<|R.buildSlice C (vs:=_) U U (show pvals _ _=some (numbered 0 [_]) from rfl) U runUnderlying28 sizeOf3 zeroValue3 Dd (Cat.one U U) fun p12=>R.append1 (kk:=1) C U U U U runUnderlying28 runUnderlying28 (fun _=>nofun) (show prog.info? 3=some Tryz.t3 by kernel_rfl) U U U Dd Dd (hb2.app _) U U (by simp only [List.length_append,List.length_cons,List.length_nil];omega) fun v' own' hb'=>Ad C U U<|X.inBlock C.1<|X.region C U U<|Rm C U U<|Ra C U U U<|Ad C U U ?_
  obtain⟨own3,rfl,hb3⟩:=Buf.unapp (tail:= []) hb'
  have hcat:(rz 0 i).flatMap ic++ [Value.int .i64 (i:Int)]=(rz 0 (i+1)).flatMap ic:=by rw [rz_take,List.flatMap_append,Int.zero_add];rfl
  rw [hcat] at hb3
  refine X.weaken ?_ (hnext (i+1,_,own3) ⟨hi',hb3⟩ O)
  exact⟨rfl,rfl,by simp [look],trivial⟩
 ·obtain rfl:i=n:=by omega
  refine X.exit C.1 U<|Xr C U U<|R.finish C.1 ic_len Dd (hb2.app _) fun ro4 hl4 hls4=>Rm C U U<|Ad C U U<|Xt C func70<|Hr hret hl4 ?_
  exact hls4
end
end
section
theorem fewestOf_law{n:Nat}{is:Nat→Bool}{P:List Int→Bool}(h:∀m,m<2^n→is m=P (listOf n m)):
  (fewestOf n is=none∧∀x:List Int,x.Pairwise (· < ·)→(∀k∈x,0≤k∧k<(n:Int))→P x=false)∨
  ∃y,fewestOf n is=some y∧y.Pairwise (· < ·)∧(∀k∈y,0≤k∧k<(n:Int))∧P y=true∧∀x:List Int,x.Pairwise (· < ·)→(∀k∈x,0≤k∧k<(n:Int))→P x=true→¬smaller x y=true:=by
 have hm:∀x:List Int,x.Pairwise (· < ·)→(∀k∈x,0≤k∧k<(n:Int))→maskL x<2^n∧listOf n (maskL x)=x∧is (maskL x)=P x:=fun x h1 h2=>by
  have h3:=listOf_mask h1 h2
  exact⟨maskL_lt h2,h3,by rw [h _ (maskL_lt h2),h3]⟩
 by_cases hq:∃m,m<2^n∧is m=true
 ·obtain⟨m,h1,h2⟩:=hq
  obtain⟨y,h3,⟨m',h4,h5,rfl⟩,h6⟩:=fewestOf_some h1 h2
  refine .inr ⟨_,h3,listOf_asc _ _,fun k hk=>?_,by rw [←h _ h4];exact h5,fun x hx1 hx2 hx3=>?_⟩
  ·obtain⟨j,h7,_,rfl⟩:=listOf_mem.1 hk;omega
  ·obtain⟨k1,k2,k3⟩:=hm x hx1 hx2
   have:=h6 _ k1 (by rw [k3];exact hx3)
   rwa [k2] at this
 ·refine .inl ⟨fewestOf_none fun m hm=>?_,fun x hx1 hx2=>?_⟩
  ·cases e:is m
   ·rfl
   ·exact absurd ⟨m,hm,e⟩ hq
  ·obtain⟨k1,k2,k3⟩:=hm x hx1 hx2
   cases e:P x
   ·rfl
   ·exact absurd ⟨_,k1,k3.trans e⟩ hq
theorem spread_ne{rs:List Rc}(h:∀r∈rs,r.lo≤r.hi):spread rs≠ []:=by
 have:rs.map (fun r=>r.lo)∈spread rs:=mem_spread.2 ⟨by simp,fun i r hr=>⟨r.lo,by simp [hr],Int.le_refl _,h r (List.mem_of_getElem? hr)⟩⟩
 intro e;rw [e] at this;cases this
theorem weightsL_ne{b:Bk}(hb:b.good):weightsL b≠ []:=spread_ne fun r hr=>by
 obtain⟨c,hc,rfl⟩:=List.mem_map.1 hr
 have:=hb.cs c hc
 unfold Pc.fine at this;omega
theorem gives_congr{b:Bk}(hb:b.good){p q:List Int}(h:∀i:Nat,i<b.ps.length→nth p i=nth q i){g:Int}(h0:0≤g)(h1:g<b.gs.length)(n:Int):gives b p g n=gives b q g n:=by
 unfold gives
 congr 2
 refine List.filter_congr fun i hi=>?_
 have hi:=List.mem_range.1 hi
 have hgm:=(hb.gear h0 h1).2.1
 generalize b.gear g=L at hi hgm⊢
 have e:L.getD i 0=L[i]:=by simp [List.getD_eq_getElem?_getD,hi]
 have hx:=hgm _ (List.getElem_mem hi)
 unfold givesP
 rw [e]
 have:=h (L[i]).toNat O
 rw [show(((L[i]).toNat:Nat):Int)=L[i] by omega] at this
 rw [this]
theorem lifts_congr{b:Bk}(hb:b.good){p q:List Int}(h:∀i:Nat,i<b.ps.length→nth p i=nth q i){g:Int}(h0:0≤g)(h1:g<b.gs.length)(n:Int):lifts b p g n=lifts b q g n:=by
 unfold lifts;rw [gives_congr hb h h0 h1]
theorem nth_nat(l:List Int)(i:Nat):nth l i=l.getD i 0:=rfl
theorem renewGo_get(m:Nat):∀ (l:List Int) (s i:Nat),(renewGo m s l)[i]? =l[i]?.map fun x=>if m.testBit (s+i) then 99 else x
 | [],_,_=>by simp [renewGo]
 |x::l,s,0=>by simp [renewGo]
 |x::l,s,i+1=>by
  rw [renewGo,List.getElem?_cons_succ,renewGo_get m l (s+1) i,List.getElem?_cons_succ,show s+1+i=s+(i+1) by omega]
theorem nth_renew(m:Nat)(l:List Int){i:Nat}(h:i<l.length):nth (renew m l) i=if m.testBit i then 99 else nth l i:=by
 rw [nth_nat,nth_nat,List.getD_eq_getElem?_getD,renew,renewGo_get,Nat.zero_add,List.getD_eq_getElem?_getD,List.getElem?_eq_getElem h]
 rfl
structure Bk.tiny(b:Bk):Prop where
 ps:b.ps.length≤1000
 gs:b.gs.length≤1000∧∀g∈b.gs,g.length≤1000
 cs:b.cs.length≤1000
 ts:b.ts.length≤1000
theorem getLastD_snoc(l:List Int)(x:Int):(l++ [x]).getLastD 0=x:=by simp [List.getLastD_eq_getLast?]
variable {main:Bool}{J:Goroutine→Mem→Prop}(hJ:Closed prog main J)
include hJ
theorem behindR_c{n s:Int}(hn:0≤n∧n≤99)(hs:0≤s∧s≤4)(ro:RO):CallP prog J (fnv 171) [.int .i64 n, .int .i64 s] ro (.int .i64 (behind n s)):=by
 have hm:=mul_bd hn.1 hn.2 hs.1 hs.2
 refine CallP.intro hJ Kr fun c cs tail hret=>enter_X (n:=18) func171 U U (Nl U) ?_
 have C:Ctx prog main J (bf 171 .normal):=⟨hJ,by decide⟩
 refine Xr C U U<|Ad C U U<|Xr C U U<|Rm C U U<|Ra C U U U<|R.int C U U U U (b_mul O O)<|Ad C U U<|Xr C U U<|Rm C U U<|Rm C U U<|Ra C U U U<|R.int C U U U U (b_mul O O)<|Rm C U U<|Ra C U U U<|R.int C U U U U (b_sub O O)<|Rm C U U<|R.int C U U U U (b_quoP O O O)<|Ad C U U<|Xt C func171<|Hp hret ?_
 rfl
theorem pullsOfR_c{b:Bk}{v:Value}{ro:RO}(hv:BkV ro v b)(hb:b.good){g l:Int}(hg:0≤g∧g<b.gs.length)(hl:0≤l∧l≤99):CallR prog J (fnv 102) [v, .int .i64 g, .int .i64 l] ro (fun w ro'=>LsI ro' w (pulls b g l)):=by
 obtain⟨vp,vg,vc,vt,rfl,hp,hgs,hc,ht⟩:=hv
 obtain⟨pb,pc,rfl⟩:=hp.form
 obtain⟨cb,cc,rfl⟩:=hc.form
 obtain⟨tb,tc,rfl⟩:=ht.form
 obtain⟨pp,po,pcap,pl,ptt,pfq,hpe,hpro,hpsub⟩:=hp.at Pt.len (by have:=hb.np;omega)
 cases hpe
 obtain⟨gp,go,gcap,gl,gt,gfq,rfl,hgro,hgsub⟩:=hgs.at O
 obtain⟨qb,qc,hqat,hqcap,hq⟩:=hgsub g.toNat O
 have hgear:b.gs[g.toNat]' O=b.gear g:=by simp [Bk.gear,List.getD_eq_getElem?_getD,show g.toNat<b.gs.length by omega]
 rw [hgear] at hqat hqcap hq
 have hgn:=hb.gear hg.1 hg.2
 have hgl:=hb.gearLen hg.1 hg.2
 have hpl:pulls b g l=l::pullsGo b l (b.gear g):=rfl
 rw [hpl]
 generalize b.gear g=q at hqat hqcap hq hgn hgl
 refine CallR.intro hJ Kr fun c cs tail hret=>enter_X (n:=39) func102 U U (Nl U) ?_
 have C:Ctx prog main J (bf 102 .normal):=⟨hJ,by decide⟩
 refine Xr C U U<|R.box C U U U U fun p3=>Ad C U U<|Xr C U U<|Rm C U U<|R.buildSlice C (vs:=_) U U (show pvals _ _=some (numbered 0 [_]) from rfl) U runUnderlying28 sizeOf3 zeroValue3 Dd (Cat.one U U) fun p11=>Ad C U U<|Xr C U U<|Rf C 2 U U runUnderlying27 U sizeOf23<|Rl C U U isAgg23 V U<|Rm C U U<|Rx C U U U runUnderlying23 sizeOf28<|R.loadOneRo C U U U isAgg28 hgro hqat<|Ad C U U<|Xs C<|Xr C U U<|Ad C U U<|X.block C.1<|X.loopI (ι:=Nat×Value×List (Nat×Obj)) C.1 (fun s=>s.1≤q.length∧Buf 3 1 ((p3, .cells [.int .i64 b.w, .slice (some ⟨pp,po,none⟩) b.ps.length pc, .slice (some ⟨gp,go,none⟩) b.gs.length gcap, .slice cb b.cs.length cc, .slice tb b.ts.length tc].toArray 27 (0,0))::tail) s.2.1 ((l::pullsGo b l (q.take s.1)).flatMap ic) s.2.2)
  (fun s=> [(2, .int .i64 ((l::pullsGo b l (q.take s.1)).getLastD 0)),(7,s.2.1),(8, .slice qb q.length qc),(9, .int .i64 (s.1:Int)),(3, .pointer (some ⟨p3,0,none⟩))])
  (fun s=>⟨ro,s.2.2⟩) (fun s=>q.length-s.1) (0,_,_) ⟨Nat.zero_le _, ?_⟩ rfl ⟨U,U,U,U,U,trivial⟩ fun s hi hnext=>?_
 ·exact .blk (p:=p11) (cells:= [.int .i64 l]) (spare:= []) (cap:=1) (len:=1) rfl rfl (Nat.le_refl _)
 obtain⟨i,vo,own⟩:=s
 obtain⟨hi,hbuf⟩:=hi
 simp only at hi hbuf hnext⊢
 obtain⟨p9,cap9,spare9,rfl,rfl⟩:=bufAt hbuf (by simp [ic])
 refine Xs C<|Xr C U U<|Rm C U U<|Rm C U U<|Rn C U U runUnderlying28<|R.int C U U U U b_lss<|R.done C<|Xk C U (fun hlt=>?_) (fun hlt=>?_)
 ·have hi':i<q.length:=O
  obtain⟨p,off,cap,ll,t,fq,hsl',hrop,hsub⟩:=hq.at ic_len O
  cases hsl'
  have hat:=ic_at hsub hi'
  have hn:=hgn.2.1 _ (List.getElem_mem hi')
  have htk:q.take (i+1)=q.take i++ [q[i]]:=List.take_succ_eq_append_getElem hi'
  have hacc:=pullsGo_snoc b (q.take i) l q[i]
  rw [←htk] at hacc
  generalize q[i]=m at hat hn hacc
  have hs:=hb.sheaves hn.1 hn.2
  have hsh:(b.ps[m.toNat]' O).sh=b.sheaves m:=by simp [Bk.sheaves,List.getD_eq_getElem?_getD,show m.toNat<b.ps.length by omega]
  have hpt:=pt_sh (hpsub m.toNat O)
  rw [hsh] at hpt
  have hbd:0≤(l::pullsGo b l (q.take i)).getLastD 0∧(l::pullsGo b l (q.take i)).getLastD 0≤99:=by
   have h1:(l::pullsGo b l (q.take i)).getLastD 0∈l::pullsGo b l (q.take i):=by
    rw [List.getLastD_eq_getLast?,List.getLast?_eq_getLast Zi];exact List.getLast_mem _
   rcases List.mem_cons.1 h1 with h2|h2
   ·rw [h2];exact hl
   ·have:=pullsGo_bd hb (fun x hx=>hgn.2.1 x (List.mem_of_mem_take hx)) hl.1 _ h2;omega
  have hlen:(pullsGo b l (q.take i)).length=i:=by rw [pullsGo_len];simp;omega
  have hfl:((l::pullsGo b l (q.take i)).flatMap ic).length=i+1:=by rw [flat_len,List.length_cons,hlen]
  have hlast:(l::pullsGo b l (q.take (i+1))).getLastD 0=behind ((l::pullsGo b l (q.take i)).getLastD 0) (b.sheaves m):=by
   rw [hacc, ←List.cons_append,getLastD_snoc]
  generalize hx:(l::pullsGo b l (q.take i)).getLastD 0=x at hbd hacc hlast
  generalize b.sheaves m=sm at hs hpt hacc hlast
  refine X.skip C.1<|Xs C<|X.block C.1<|Xs C<|Xd C fun hok=>Dm C 0 hok U U U<|Df (off':=1) C 1 hok U U U runUnderlying27 U sizeOf22 U<|D1 C 2 hok U U isAgg22 V U<|Dm C 3 hok U U U<|Dm C 4 hok U U U<|Dx C 5 hok U U U runUnderlying28 sizeOf3<|D2 C 6 hok U U isAgg3 hrop hat<|Dx C 7 hok U U U runUnderlying22 sizeOf67<|Df C 8 hok U U U runUnderlying67 U sizeOf3 U<|D2 C 9 hok U U isAgg3 hpro hpt<|De 10 (some 33) [false,false,false] hok (fun _ _ A hk=>?_)
  refine R.callP C U (A.w U U) (A.x U U) (A.s U U) (behindR_c hJ hbd hs _) (hk _ _ ⟨QFs.nil, ?_⟩)
  refine Da C 11 hok U U<|D.done C hok Kr<|X.region C U U<|Rm C U U<|Rm C U U<|R.buildSlice C (vs:=_) U U (show pvals _ _=some (numbered 0 [_]) from rfl) U runUnderlying28 sizeOf3 zeroValue3 Dd (Cat.one U U) fun p36=>R.append1 (kk:=1) C U U U U runUnderlying28 runUnderlying28 (fun _=>nofun) (show prog.info? 3=some Tryz.t3 by kernel_rfl) U U U Dd Dd hbuf U U (by simp only [List.length_append,List.length_cons,List.length_nil];omega) fun v' own' hb'=>Ad C U U<|X.inBlock C.1<|X.region C U U<|Rm C U U<|Ra C U U U<|Ad C U U<|X.weaken ?_ (hnext (i+1,v',own') ⟨hi', ?_⟩ ?_)
  ·exact⟨by simp only [look];rw [hlast],rfl,rfl,by simp [look],rfl,trivial⟩
  ·rw [hacc, ←List.cons_append,List.flatMap_append]
   exact hb'
  ·simp only;omega
 ·obtain rfl:i=q.length:=by omega
  rw [List.take_length] at hbuf⊢
  refine X.exit C.1 U<|Xr C U U<|R.finish C.1 ic_len Dd hbuf fun ro' hle hls=>Rm C U U<|Ad C U U<|Xt C func102<|Hr hret hle ?_
  exact hls
theorem givesOfR_c{b:Bk}{v vp':Value}{ro:RO}{p:List Int}(hv:BkV ro v b)(hb:b.good)(hp0:LsI ro vp' p)(hpl:p.length=b.ps.length){g l:Int}(hg:0≤g∧g<b.gs.length)(hl:0≤l∧l≤99):CallR prog J (fnv 60) [v,vp', .int .i64 g, .int .i64 l] ro (fun w ro'=>LsI ro' w (gives b p g l)):=by
 have hvv:=hv
 obtain⟨vp,vg,vc,vt,rfl,hp,hgs,hc,ht⟩:=hv
 obtain⟨pb,pc,rfl⟩:=hp.form
 obtain⟨cb,cc,rfl⟩:=hc.form
 obtain⟨tb,tc,rfl⟩:=ht.form
 obtain⟨gp,go,gcap,gl,gt,gfq,rfl,hgro,hgsub⟩:=hgs.at O
 obtain⟨qb,qc,hqat,hqcap,hq⟩:=hgsub g.toNat O
 have hgear:b.gs[g.toNat]' O=b.gear g:=by simp [Bk.gear,List.getD_eq_getElem?_getD,show g.toNat<b.gs.length by omega]
 rw [hgear] at hqat hqcap hq
 have hgn:=hb.gear hg.1 hg.2
 have hgl:=hb.gearLen hg.1 hg.2
 have hpn:=pulls_len b g l
 have hnp:=hb.np
 have hwb:=hb.w
 have hpb:=pulls_bd hb hg.1 hg.2 hl.1
 obtain⟨kp,ko,kcap,kl,kt,kfq,hks,hkro,hksub⟩:=hp0.at ic_len O
 subst hks
 have hgv:gives b p g l=givesTo p (b.gear g) (pulls b g l) (b.gear g).length++(if b.w<(pulls b g l).getD (b.gear g).length 0 then [((b.gear g).length:Int)] else []):=rfl
 have hpo:=pullsOfR_c hJ hvv hb hg hl
 rw [hgv]
 generalize b.gear g=q at hqat hqcap hq hgn hgl hpn
 generalize pulls b g l=ls at hpn hpo hpb
 refine CallR.intro hJ Kr fun c cs tail hret=>enter_X (n:=58) func60 U U (Nl U) ?_
 have C:Ctx prog main J (bf 60 .normal):=⟨hJ,by decide⟩
 refine Xr C U U<|R.box C U U U U fun p4=>Ad C U U<|Xs C<|Xd C fun hok=>Df (off':=2) C 0 hok U U U runUnderlying27 U sizeOf23 U<|D1 C 1 hok U U isAgg23 V U<|Dm C 2 hok U U U<|Dx C 3 hok U U U runUnderlying23 sizeOf28<|D2 C 4 hok U U isAgg28 (by first|exact hgro|exact hl1 _ _ hgro) hqat<|D5 C 5 hok U U isAgg27 sizeOf27 V Tk5<|Dm C 6 hok U U U<|Dm C 7 hok U U U<|De 8 (some 21) [false,true,true] hok (fun _ _ A hk=>?_)
 refine R.callR C U (A.w U U) (A.x U U) (A.s U U) (hpo) fun w1 ro1 hl1 hw=>hk _ _ ⟨(QFs.cons (QF.of U (fun _ _ A h=>R.loadOneRo C U (A.w U U) (A.x U U) isAgg28 (by first|exact hgro|exact hl1 _ _ hgro) hqat h)) (QFs.cons (QF.of U (fun _ _ A h=>R.loadOne C U (A.w U U) (A.x U U) isAgg23 V U h)) QFs.nil)), ?_⟩
 obtain⟨wp,wo,wcap,wl,wt,wfq,rfl,hwro,hwsub⟩:=hw.at ic_len O
 refine Da C 9 hok U U<|Da C 10 hok U U<|D.done C hok Kr<|Xr C U U<|Ad C U U<|Xs C<|Xr C U U<|Ad C U U<|X.block C.1<|X.loopI (ι:=Nat×Value×List (Nat×Obj)) C.1 (fun s=>s.1≤q.length∧Buf 3 1 [] s.2.1 ((givesTo p q ls s.1).flatMap ic) s.2.2)
  (fun s=> [(1, .slice (some ⟨kp,ko,none⟩) p.length kcap),(9, .slice qb q.length qc),(10, .slice (some ⟨wp,wo,none⟩) ls.length wcap),(11,s.2.1),(12, .int .i64 (s.1:Int)),(4, .pointer (some ⟨p4,0,none⟩))])
  (fun s=>⟨ro1,s.2.2++((p4, .cells [.int .i64 b.w, .slice pb b.ps.length pc, .slice (some ⟨gp,go,none⟩) b.gs.length gcap, .slice cb b.cs.length cc, .slice tb b.ts.length tc].toArray 27 (0,0))::tail)⟩) (fun s=>q.length-s.1) (0, .slice none 0 0, []) ⟨Nat.zero_le _, .nil⟩ rfl ⟨U,U,U,U,U,U,trivial⟩ fun s hi hnext=>?_
 obtain⟨i,vo,own⟩:=s
 obtain⟨hi,hbuf⟩:=hi
 simp only at hi hbuf hnext⊢
 have hgn0:=givesTo_len p q ls i
 have hgn1:=flat_len (givesTo p q ls i)
 refine Xs C<|Xr C U U<|Rm C U U<|Rm C U U<|Rn C U U runUnderlying28<|R.int C U U U U b_lss<|R.done C<|Xk C U (fun hlt=>?_) (fun hlt=>?_)
 ·have hi':i<q.length:=O
  obtain⟨p9,off,cap,ll,t,fq,hsl',hrop,hsub⟩:=hq.at ic_len O
  cases hsl'
  have hat:=ic_at hsub hi'
  have hwat:=ic_at hwsub (i:=i) O
  have hn:=hgn.2.1 _ (List.getElem_mem hi')
  have hkl:q[i].toNat<p.length:=O
  have hkat:=ic_at hksub hkl
  have hstep:=givesTo_succ p q ls i
  have hgp:givesP p q ls i=decide (p[q[i].toNat]<ls[i]' O):=by
   unfold givesP nth
   simp [List.getD_eq_getElem?_getD,hi',hkl,show i<ls.length by omega]
  rw [hgp] at hstep
  generalize p[q[i].toNat]=y at hkat hstep
  generalize ls[i]' O=z at hwat hstep
  generalize q[i]=m at hat hn hkl hkat
  have hrop1:=hl1 _ _ hrop
  have hkro1:=hl1 _ _ hkro
  refine X.skip C.1<|Xs C<|X.block C.1<|Xs C<|Xd C fun hok=>Dm C 0 hok U U U<|Dm C 1 hok U U U<|Dx C 2 hok U U U runUnderlying28 sizeOf3<|D2 C 3 hok U U isAgg3 hwro hwat<|Dm C 4 hok U U U<|Dm C 5 hok U U U<|Dm C 6 hok U U U<|Dx C 7 hok U U U runUnderlying28 sizeOf3<|D2 C 8 hok U U isAgg3 hrop1 hat<|Dx C 9 hok U U U runUnderlying28 sizeOf3<|D2 C 10 hok U U isAgg3 hkro1 hkat<|Di C 11 hok U U U U U b_gtr<|D.done C hok Kr<|X.cond C.1 U (fun hgv1=>?_) (fun hgv1=>?_)
  ·rw [if_pos (by simpa using hgv1)] at hstep
   refine X.region C U U<|Rm C U U<|Rm C U U<|R.buildSlice C (vs:=_) U U (show pvals _ _=some (numbered 0 [_]) from rfl) U runUnderlying28 sizeOf3 zeroValue3 Dd (Cat.one U U) fun p42=>R.append1 (kk:=1) C U U U U runUnderlying28 runUnderlying28 (fun _=>nofun) (show prog.info? 3=some Tryz.t3 by kernel_rfl) U U U Dd Dd (hbuf.app _) U U (by simp only [List.length_append,List.length_cons,List.length_nil];omega) fun v' own' hb'=>Ad C U U<|X.inBlock C.1<|X.region C U U<|Rm C U U<|Ra C U U U<|Ad C U U ?_
   obtain⟨own3,rfl,hb3⟩:=Buf.unapp (tail:= []) hb'
   refine X.weaken ?_ (hnext (i+1,v',own3) ⟨hi', ?_⟩ (by simp only;omega))
   ·exact⟨rfl,rfl,rfl,rfl,by simp [look],rfl,trivial⟩
   ·rw [hstep,List.flatMap_append];exact hb3
  ·rw [if_neg (by simpa using hgv1)] at hstep
   refine X.skip C.1<|X.inBlock C.1<|X.region C U U<|Rm C U U<|Ra C U U U<|Ad C U U<|X.weaken ?_ (hnext (i+1,vo,own) ⟨hi',by rw [hstep];exact hbuf⟩ (by simp only;omega))
   exact⟨rfl,rfl,rfl,rfl,by simp [look],rfl,trivial⟩
 ·obtain rfl:i=q.length:=by omega
  have hwat:=ic_at hwsub (i:=q.length) O
  have hlsD:ls.getD q.length 0=ls[q.length]' O:=by simp [List.getD_eq_getElem?_getD,show q.length<ls.length by omega]
  rw [hlsD] at hret
  generalize ls[q.length]' O=z at hwat hlsD hret
  refine X.exit C.1 U<|Xs C<|Xs C<|Xd C fun hok=>Dm C 0 hok U U U<|Dm C 1 hok U U U<|Ds C 2 hok U U runUnderlying28<|Dx C 3 hok U U U runUnderlying28 sizeOf3<|D2 C 4 hok U U isAgg3 hwro hwat<|Df (off':=0) C 5 hok U U U runUnderlying27 U sizeOf3 U<|Dl 6 hok (fun _ _ A h=>R.loadOne C U (A.w U U) (A.x U U) isAgg3 Vm U h)<|Di C 7 hok U U U U U b_gtr<|D.done C hok Kr<|X.cond C.1 U (fun hz=>?_) (fun hz=>?_)
  ·have hz:b.w<z:=by simpa using hz
   refine X.region C U U<|Rm C U U<|Rm C U U<|Rn C U U runUnderlying28<|R.buildSlice C (vs:=_) U U (show pvals _ _=some (numbered 0 [_]) from rfl) U runUnderlying28 sizeOf3 zeroValue3 Dd (Cat.one U U) fun p55=>R.append1 (kk:=1) C U U U U runUnderlying28 runUnderlying28 (fun _=>nofun) (show prog.info? 3=some Tryz.t3 by kernel_rfl) U U U Dd Dd (hbuf.app _) U U (by simp only [List.length_append,List.length_cons,List.length_nil];omega) fun v' own' hb'=>Ad C U U<|Xs C ?_
   obtain⟨own3,rfl,hb3⟩:=Buf.unapp (tail:= []) hb'
   have hcat:(givesTo p q ls q.length).flatMap ic++ [Value.int .i64 (q.length:Int)]=(givesTo p q ls q.length++ [(q.length:Int)]).flatMap ic:=by rw [List.flatMap_append];rfl
   rw [hcat] at hb3
   refine X.finish C.1 ic_len Dd (hb3.app _) fun ro4 hl4 hls4=>X.region C U U<|Rm C U U<|Ad C U U<|Xt C func60<|Hr hret (RO.le_trans hl1 hl4) ?_
   rw [if_pos hz];exact hls4
  ·have hz:¬b.w<z:=by simpa using hz
   refine X.skip C.1<|Xs C<|X.finish C.1 ic_len Dd (hbuf.app _) fun ro4 hl4 hls4=>X.region C U U<|Rm C U U<|Ad C U U<|Xt C func60<|Hr hret (RO.le_trans hl1 hl4) ?_
   rw [if_neg hz,List.append_nil];exact hls4
theorem liftsOfR_c{b:Bk}{v vp':Value}{ro:RO}{p:List Int}(hv:BkV ro v b)(hb:b.good)(hp0:LsI ro vp' p)(hpl:p.length=b.ps.length){g l:Int}(hg:0≤g∧g<b.gs.length)(hl:1≤l∧l≤99):CallR prog J (fnv 59) [v,vp', .int .i64 g, .int .i64 l] ro (fun w _=>w= .bool (lifts b p g l)):=by
 have hvv:=hv
 obtain⟨vp,vg,vc,vt,rfl,hp,hgs,hc,ht⟩:=hv
 obtain⟨_,_,rfl⟩:=hp.form
 obtain⟨_,_,rfl⟩:=hgs.form
 obtain⟨_,_,rfl⟩:=hc.form
 obtain⟨_,_,rfl⟩:=ht.form
 have hgl:=gives_len b p g l
 have hgl2:=hb.gearLen hg.1 hg.2
 refine CallR.intro hJ Kr fun c cs tail hret=>enter_X (n:=16) func59 U U (Nl U) ?_
 have C:Ctx prog main J (bf 59 .normal):=⟨hJ,by decide⟩
 refine Xr C U U<|R.box C U U U U fun p4=>Ad C U U<|Xr C U U<|R5 C U U isAgg27 sizeOf27 V Tk5<|Rm C U U<|Rm C U U<|Rm C U U<|R.callR C U U U U (givesOfR_c hJ hvv hb hp0 hpl hg O) fun w1 ro1 hl1 hw=>?_
 obtain⟨_,_,rfl⟩:=hw.form
 refine Rn C U U runUnderlying28<|R.int C U U U U b_eql<|Ad C U U<|Xt C func59<|Hr hret hl1 ?_
 unfold lifts
 rw [show(l==0)=false by rw [beq_eq_false_iff_ne];omega,Bool.false_or]
 refine congrArg Value.bool ?_
 rw [Bool.eq_iff_iff,beq_iff_eq,beq_iff_eq];omega
theorem testedR_c{b:Bk}{v vp':Value}{ro:RO}{p:List Int}(hv:BkV ro v b)(hb:b.good)(hp0:LsI ro vp' p)(hpl:p.length=b.ps.length):CallR prog J (fnv 109) [v,vp'] ro (fun w _=>w= .bool (right b p)):=by
 have hvv:=hv
 obtain⟨vp,vg,vc,vt,rfl,hp,hgs,hc,ht⟩:=hv
 obtain⟨pb,pc,rfl⟩:=hp.form
 obtain⟨gb,gc,rfl⟩:=hgs.form
 obtain⟨cb,cc,rfl⟩:=hc.form
 obtain⟨tb,tc,rfl⟩:=ht.form
 have hnt:=hb.nt
 obtain⟨kb,kc,hks⟩:=hp0.form
 subst hks
 refine CallR.intro hJ Kr fun c cs tail hret=>enter_X (n:=29) func109 U U (Nl U) ?_
 have C:Ctx prog main J (bf 109 .normal):=⟨hJ,by decide⟩
 refine Xr C U U<|R.box C U U U U fun p2=>Ad C U U<|Xs C<|Xr C U U<|Ad C U U<|X.block C.1<|X.loopI (ι:=Nat×RO) C.1 (fun s=>s.1≤b.ts.length∧ro.le s.2∧∀j (hj:j<b.ts.length),j<s.1→(lifts b p (b.ts[j]).g (b.ts[j]).l==(b.ts[j]).held)=true) (fun s=> [(1, .slice kb p.length kc),(2, .pointer (some ⟨p2,0,none⟩)),(5, .int .i64 (s.1:Int))])
  (fun s=>⟨s.2,(p2, .cells [.int .i64 b.w, .slice pb b.ps.length pc, .slice gb b.gs.length gc, .slice cb b.cs.length cc, .slice tb b.ts.length tc].toArray 27 (0,0))::tail⟩) (fun s=>b.ts.length-s.1) (0,ro) ⟨Nat.zero_le _,RO.le_refl _,fun j _ hj=>absurd hj (Nat.not_lt_zero _)⟩ rfl ⟨U,U,U,trivial⟩ fun s hs hnext=>?_
 obtain⟨i,ro1⟩:=s
 obtain⟨hi,hle,hall⟩:=hs
 simp only at hi hle hall hnext⊢
 refine Xs C<|Xr C U U<|Rm C U U<|Rf C 4 U U runUnderlying27 U sizeOf25<|Rl C U U isAgg25 V U<|Rn C U U runUnderlying25<|R.int C U U U U b_lss<|R.done C<|Xk C U (fun hlt=>?_) (fun hlt=>?_)
 ·have hi':i<b.ts.length:=O
  obtain⟨pp,off,cap,ll,ty,fq,hsl,hrop,hsub⟩:=(ht.mono hle).at Ts.len O
  cases hsl
  have hsi:=hsub i hi'
  have hts:=hb.ts _ (List.getElem_mem hi')
  have hnx:(lifts b p (b.ts[i]).g (b.ts[i]).l==(b.ts[i]).held)=false→right b p=false:=fun h=>by
   unfold right
   rw [List.all_eq_false]
   exact⟨_,List.getElem_mem hi',by simp [h]⟩
  have hst:(lifts b p (b.ts[i]).g (b.ts[i]).l==(b.ts[i]).held)=true→∀j (hj:j<b.ts.length),j<i+1→(lifts b p (b.ts[j]).g (b.ts[j]).l==(b.ts[j]).held)=true:=fun h j hj hji=>by
   by_cases e:j=i
   ·subst e;exact h
   ·exact hall j hj O
  generalize b.ts[i]=t at hsi hts hnx hst
  have hsi:Sub (off+i*3) 3 ll [.int .i64 t.g, .int .i64 t.l, .bool t.held]:=hsi
  refine X.skip C.1<|Xs C<|X.block C.1<|Xr C U U<|Rf C 4 U U runUnderlying27 U sizeOf25<|Rl C U U isAgg25 V U<|Rm C U U<|Rx C U U U runUnderlying25 sizeOf92<|R.loadAggRo C U U U isAgg92 sizeOf92 hrop hsi<|R.alloc C U U zeroValue92 U fun p6=>R.store C U U U U sizeOf92 U U U V Ph3<|R.done C<|Xs C<|Xd C fun hok=>D5 C 0 hok U U isAgg27 sizeOf27 V Tk5<|Dm C 1 hok U U U<|Df (off':=0) C 2 hok U U U runUnderlying92 U sizeOf3 U<|D1 C 3 hok U U isAgg3 V U<|Df (off':=1) C 4 hok U U U runUnderlying92 U sizeOf3 U<|D1 C 5 hok U U isAgg3 V U<|Df (off':=2) C 7 hok U U U runUnderlying92 U sizeOf4 U<|D1 C 8 hok U U isAgg4 V U<|De 6 (some 25) [true,false,false,false] hok (fun _ _ A hk=>?_)
  refine R.callR C U (A.w U U) (A.x U U) (A.s U U) (liftsOfR_c hJ (hvv.mono hle) hb (hp0.mono hle) hpl hts.1 hts.2) fun w2 ro2 hl2 hw=>hk _ _ ⟨(QFs.cons (QF.of U (fun _ _ A h=>R.loadOne C U (A.w U U) (A.x U U) isAgg4 V U h)) QFs.nil), ?_⟩
  subst hw
  refine Dp 9 hok (fun _ _ _ A h=>R.neBool C U (A.w U U) (A.x U U) (A.x U U) runUnderlying4 h)<|D.done C hok Kr<|X.cond C.1 U (fun hne=>?_) (fun hne=>?_)
  ·have hne:(lifts b p t.g t.l==t.held)=false:=by simpa using hne
   refine Xr C U U<|Ad C U U<|Xt C func109<|Hr hret (RO.le_trans hle hl2) ?_
   rw [hnx hne];rfl
  ·have hne:(lifts b p t.g t.l==t.held)=true:=by simpa using hne
   refine X.skip C.1<|X.inBlock C.1<|X.region C U U<|Rm C U U<|Ra C U U U<|Ad C U U<|X.drop C.1 (own':=_::tail) (List.sublist_cons_self _ _)<|X.weaken ?_ (hnext (i+1,ro2) ⟨hi',RO.le_trans hle hl2,hst hne⟩ (by simp only;omega))
   exact⟨rfl,rfl,by simp [look],trivial⟩
 ·obtain rfl:i=b.ts.length:=by omega
  refine X.exit C.1 U<|Xr C U U<|Ad C U U<|Xt C func109<|Hr hret hle ?_
  have:right b p=true:=by
   unfold right
   rw [List.all_eq_true]
   intro t ht
   obtain⟨j,hj,rfl⟩:=List.getElem_of_mem ht
   exact hall j hj hj
  rw [this];rfl
end
section
def nothing:Bk:=⟨0, [], [], [], []⟩
def newB(b:Bk)(h:Int):Bk:=if h=0 then b else nothing
abbrev U16:={n:Int//0≤n∧n≤65535}
def uc(n:U16):List Value:= [.int .u16 n.1]
end
section
def grow(all:List (List Int))(r:Rc):List (List Int):=all.flatMap fun x=>r.nums.map fun n=>x++ [n]
theorem grow_spread:∀ (rs:List Rc) (all:List (List Int)),rs.foldl grow all=all.flatMap fun x=>(spread rs).map (x++ ·)
 | [],all=>by simp [spread]
 |r::rs,all=>by
  rw [List.foldl_cons,grow_spread rs,grow,List.flatMap_assoc]
  congr 1;funext x
  simp only [spread,List.flatMap_map,List.map_flatMap,List.map_map]
  congr 1;funext n;congr 1;funext l;simp
theorem grow_all(rs:List Rc):rs.foldl grow [[]]=spread rs:=by rw [grow_spread];simp
theorem grow_to(rs:List Rc){i:Nat}(h:i<rs.length):spread (rs.take (i+1))=grow (spread (rs.take i)) rs[i]:=by
 rw [←grow_all, ←grow_all,List.take_succ_eq_append_getElem h,List.foldl_append];rfl
theorem grow_take(l:List (List Int))(r:Rc){k:Nat}(h:k<l.length):grow (l.take (k+1)) r=grow (l.take k) r++r.nums.map fun n=>l[k]++ [n]:=by
 unfold grow;rw [List.take_succ_eq_append_getElem h,List.flatMap_append];simp
theorem grow_le(l:List (List Int)){r:Rc}(h:r.hi-r.lo<3):(grow l r).length≤3*l.length:=by
 unfold grow
 induction l with
 |nil=>simp
 |cons x l ih=>
  have:r.nums.length≤3:=by rw [Rc.nums,rz_len];omega
  rw [List.flatMap_cons,List.length_append,List.length_map,List.length_cons];omega
theorem rz_to(lo:Int):∀m,rz lo (m+1)=rz lo m++ [lo+m]
 |0=>by simp [rz]
 |m+1=>by
  rw [rz,rz_to (lo+1) m,rz,List.cons_append,show lo+1+(m:Int)=lo+((m+1:Nat):Int) by omega]
section
variable {main:Bool}{J:Goroutine→Mem→Prop}(hJ:Closed prog main J)
include hJ
theorem listsR_c{rs:List Rc}{v:Value}{ro:RO}(hv:Ls Rc.cells 2 ro v rs)(hn:rs.length≤4)(hr:∀r∈rs,0≤r.lo∧r.lo≤r.hi∧r.hi≤99∧r.hi-r.lo<3):CallR prog J (fnv 178) [v] ro (fun w ro'=>LsG ro' w (spread rs)):=by
 have hv0:=hv
 obtain⟨vb,vc,rfl⟩:=hv.form
 refine CallR.intro hJ Kr fun c cs tail hret=>enter_X (n:=49) func178 U U (Nl U) ?_
 have C:Ctx prog main J (bf 178 .normal):=⟨hJ,by decide⟩
 refine Xr C U U<|Ad C U U<|Xr C U U<|R.buildSlice C (vs:=_) U U (show pvals _ _=some (numbered 0 [_]) from rfl) U runUnderlying23 sizeOf28 zeroValue28 Dd (Cat.one U U) fun p8=>Ad C U U<|Xs C<|Xr C U U<|Ad C U U<|X.block C.1<|X.finish C.1 (enc:=fun z:Value×List Int=> [z.1]) (kk:=1) (e:=28) (xs:= [(.slice none 0 0, [])]) (fun _=>rfl) Dd (Buf.blk (cells:= [.slice none 0 0]) (spare:= []) (len:=1) (cap:=1) U U (Nat.le_refl _)) fun ro0 hl0 hls0=>X.loopI (ι:=Nat×RO×Value) C.1 (fun s=>s.1≤rs.length∧ro0.le s.2.1∧LsG s.2.1 s.2.2 (spread (rs.take s.1))) (fun s=> [(0, .slice vb rs.length vc),(3,s.2.2),(4, .int .i64 (s.1:Int))])
  (fun s=>⟨s.2.1,tail⟩) (fun s=>rs.length-s.1) (0,ro0, .slice (some ⟨p8,0,none⟩) 1 1) ⟨Nat.zero_le _,RO.le_refl _,_,hls0,rfl,fun z hz=>by simp at hz;subst hz;exact⟨Ls.nil,_,_,_,rfl,Nat.le_refl _⟩⟩ rfl ⟨U,U,U,trivial⟩ fun s hs hnext=>?_
 obtain⟨i,ro1,v1⟩:=s
 obtain⟨hi,hle1,hg1⟩:=hs
 simp only at hi hle1 hg1 hnext⊢
 refine Xs C<|Xr C U U<|Rm C U U<|Rm C U U<|Rn C U U runUnderlying210<|R.int C U U U U b_lss<|R.done C<|Xk C U (fun hlt=>?_) (fun hlt=>?_)
 ·have hi':i<rs.length:=O
  have hstep:=grow_to rs hi'
  have hri:=hr _ (List.getElem_mem hi')
  have hallx:∀x∈spread (rs.take i),x.length=i:=fun x hx=>by rw [spread_len x hx,List.length_take];omega
  have hal:(spread (rs.take i)).length≤81:=by
   have h1:=spread_le (rs:=rs.take i) fun r h=>(hr r (List.mem_of_mem_take h)).2.2.2
   have h2:3^ (rs.take i).length≤3^4:=Nat.pow_le_pow_right Dd (by rw [List.length_take];omega)
   omega
  obtain⟨rp,rof,rcap,rl,rt,rfq,hsl,hrro,hrsub⟩:=(hv0.mono (RO.le_trans hl0 hle1)).at (fun _=>rfl) O
  cases hsl
  have hsi:=hrsub i hi'
  generalize rs[i]=r at hstep hri hsi
  generalize spread (rs.take i)=all at hg1 hstep hallx hal
  have hlo:rl[rof+i*2+0]? =some (.int .i64 r.lo):=hsi.get 0 Dd
  have hhi:rl[rof+i*2+1]? =some (.int .i64 r.hi):=hsi.get 1 Dd
  obtain⟨ab,ac,rfl⟩:=hg1.form
  refine X.skip C.1<|Xs C<|X.block C.1<|Xr C U U<|Ad C U U<|Xs C<|Xr C U U<|Ad C U U<|X.block C.1<|X.loopI (ι:=Nat×RO×Value×List (Value×List Int)×List (Nat×Obj)) C.1 (fun s=>s.1≤all.length∧ro1.le s.2.1∧Buf 28 1 tail s.2.2.1 (s.2.2.2.1.flatMap fun z=> [z.1]) s.2.2.2.2∧s.2.2.2.1.map (·.2)=grow (all.take s.1) r∧∀z∈s.2.2.2.1,LsI s.2.1 z.1 z.2∧capOk z.1) (fun s=> [(0, .slice (some ⟨rp,rof,none⟩) rs.length vc),(3, .slice ab all.length ac),(4, .int .i64 (i:Int)),(5,s.2.2.1),(6, .int .i64 (s.1:Int))])
   (fun s=>⟨s.2.1,s.2.2.2.2⟩) (fun s=>all.length-s.1) (0,ro1, .slice none 0 0, [],tail) ⟨Nat.zero_le _,RO.le_refl _, .nil,by simp [grow],fun _ h=>nomatch h⟩ rfl ⟨U,U,U,U,U,trivial⟩ fun s hs hnext2=>?_
  obtain⟨k,ro2,v2,zs2,own2⟩:=s
  obtain⟨hk,hle2,hb2,hzs2,hls2⟩:=hs
  simp only at hk hle2 hb2 hzs2 hls2 hnext2⊢
  refine Xs C<|Xr C U U<|Rm C U U<|Rm C U U<|Rn C U U runUnderlying23<|R.int C U U U U b_lss<|R.done C<|Xk C U (fun hlt2=>?_) (fun hlt2=>?_)
  ·have hk':k<all.length:=O
   obtain⟨ap,ao,acap,al,aty,afq,hasl,haro,hasub⟩:=hg1.at O
   cases hasl
   obtain⟨qb,qc,hqat,hqc,hqls⟩:=hasub k hk'
   have hgt:=grow_take all r hk'
   have hgl:=grow_le (all.take k) hri.2.2.2
   rw [List.length_take] at hgl
   have hxl:=hallx _ (List.getElem_mem hk')
   generalize all[k]=x at hqat hqc hqls hgt hxl
   have hrro2:=hle2 _ _ hrro
   have hrl:∃c:Nat,c=(r.hi+1-r.lo).toNat:=⟨_,rfl⟩
   obtain⟨c,hc⟩:=hrl
   have hnums:r.nums=rz r.lo c:=by rw [hc];rfl
   refine X.skip C.1<|Xs C<|X.block C.1<|Xr C U U<|Rm C U U<|Rm C U U<|Rx C U U U runUnderlying210 sizeOf65<|R.fieldAddr C U U U runUnderlying65 U sizeOf3 U<|R.loadOneRo C U U U isAgg3 hrro2 hlo<|Ad C U U<|X.block C.1<|X.loopI (ι:=Nat×RO×Value×List (Value×List Int)×List (Nat×Obj)) C.1 (fun s=>s.1≤c∧ro2.le s.2.1∧Buf 28 1 tail s.2.2.1 (s.2.2.2.1.flatMap fun z=> [z.1]) s.2.2.2.2∧s.2.2.2.1.map (·.2)=grow (all.take k) r++(rz r.lo s.1).map (fun n=>x++ [n])∧∀z∈s.2.2.2.1,LsI s.2.1 z.1 z.2∧capOk z.1) (fun s=> [(0, .slice (some ⟨rp,rof,none⟩) rs.length vc),(3, .slice (some ⟨ap,ao,none⟩) all.length ac),(4, .int .i64 (i:Int)),(5,s.2.2.1),(6, .int .i64 (k:Int)),(7, .int .i64 (r.lo+(s.1:Int)))])
    (fun s=>⟨s.2.1,s.2.2.2.2⟩) (fun s=>c-s.1) (0,ro2,v2,zs2,own2) ⟨Nat.zero_le _,RO.le_refl _,hb2,by simp [hzs2,rz],hls2⟩ rfl ⟨rfl,rfl,rfl,rfl,rfl,by simp [look],trivial⟩ fun s hs hnext3=>?_
   obtain⟨j,ro3,v3,zs3,own3⟩:=s
   obtain⟨hj,hle3,hb3,hzs3,hls3⟩:=hs
   simp only at hj hle3 hb3 hzs3 hls3 hnext3⊢
   have hlen3:=congrArg List.length hzs3
   rw [List.length_map,List.length_append,List.length_map,rz_len] at hlen3
   have hff3:(zs3.flatMap fun z:Value×List Int=> [z.1]).length=zs3.length:=by rw [flatMap_len (k:=1) (fun _=>rfl),Nat.mul_one]
   have hrro3:=hle3 _ _ hrro2
   have haro3:=hle3 _ _ (hle2 _ _ haro)
   have hqls3:=hqls.mono (RO.le_trans hle2 hle3)
   refine Xs C<|Xr C U U<|Rm C U U<|Rm C U U<|Rm C U U<|Rx C U U U runUnderlying210 sizeOf65<|R.fieldAddr C U U U runUnderlying65 U sizeOf3 U<|R.loadOneRo C U U U isAgg3 hrro3 hhi<|R.int C U U U U b_leq<|R.done C<|Xk C U (fun hlt3=>?_) (fun hlt3=>?_)
   ·have hfl:=flat_len x
    refine X.skip C.1<|Xs C<|X.block C.1<|X.region C U U<|Rm C U U<|R.buildSlice C (vs:=_) U U (show pvals _ _=some (numbered 0 []) from rfl) U runUnderlying28 sizeOf3 zeroValue3 Dd (.nil) fun p36=>Rm C U U<|Rm C U U<|Rx C U U U runUnderlying23 sizeOf28<|R.loadOneRo C U U U isAgg28 haro3 hqat<|R.append (kk:=1) C U U U U runUnderlying28 runUnderlying28 (fun _=>nofun) (show prog.info? 3=some Tryz.t3 by kernel_rfl) U U U Dd Dd (Buf.blk (cells:= []) (spare:= []) (len:=0) (cap:=0) U U (Nat.le_refl _)) (hqls3.rd ic_len) (ones_ic x) (by simp only [List.length_nil];omega) fun v' own' hb'=>Rm C U U<|R.buildSlice C (vs:=_) U U (show pvals _ _=some (numbered 0 [_]) from rfl) U runUnderlying28 sizeOf3 zeroValue3 Dd (Cat.one U U) fun p43=>R.append1 (kk:=1) C U U U U runUnderlying28 runUnderlying28 (fun _=>nofun) (show prog.info? 3=some Tryz.t3 by kernel_rfl) U U U Dd Dd hb' U U (by simp only [List.length_append,List.length_cons,List.length_nil];omega) fun v' own' hb'=>?_
    have e3:([]++x.flatMap ic)++ [Value.int .i64 (r.lo+(j:Int))]=(x++ [r.lo+(j:Int)]).flatMap ic:=by simp [List.flatMap_append,ic]
    rw [e3] at hb'
    have hco:=hb'.capOk
    refine R.finish C.1 ic_len Dd hb' fun ro4 hl4 hls4=>?_
    obtain⟨b4,c4,rfl⟩:=hls4.form
    refine R.buildSlice C (vs:=_) U U (show pvals _ _=some (numbered 0 [_]) from rfl) U runUnderlying23 sizeOf28 zeroValue28 Dd (Cat.one U U) fun p45=>R.append1 (kk:=1) C U U U U runUnderlying23 runUnderlying23 (fun _=>nofun) (show prog.info? 28=some Tryz.t28 by kernel_rfl) U U U Dd Dd hb3 U U (by simp only [List.length_append,List.length_cons,List.length_nil];omega) fun v' own' hb'=>Ad C U U<|X.inBlock C.1<|X.region C U U<|Rm C U U<|Ra C U U U<|Ad C U U<|X.weaken ?_ (hnext3 (j+1,ro4,_,zs3++ [(.slice b4 (x++ [r.lo+(j:Int)]).length c4,x++ [r.lo+(j:Int)])],_) ⟨O,RO.le_trans hle3 hl4,by simpa [List.flatMap_append] using hb', ?_,fun z hz=>?_⟩ (by simp only;omega))
    ·exact⟨rfl,rfl,rfl,rfl,rfl,by simp only [look];congr 2;omega,trivial⟩
    ·rw [List.map_append,hzs3,rz_to,List.map_append,List.append_assoc];rfl
    ·rcases List.mem_append.1 hz with hz|hz
     ·exact⟨(hls3 z hz).1.mono hl4,(hls3 z hz).2⟩
     ·rw [List.mem_singleton.1 hz];exact⟨hls4,hco⟩
   ·obtain rfl:j=c:=by omega
    rw [←hnums, ←hgt] at hzs3
    refine X.exit C.1 U<|X.inBlock C.1<|X.region C U U<|Rm C U U<|Ra C U U U<|Ad C U U<|X.weaken ?_ (hnext2 (k+1,ro3,v3,zs3,own3) ⟨hk',RO.le_trans hle2 hle3,hb3,hzs3,hls3⟩ (by simp only;omega))
    exact⟨rfl,rfl,rfl,rfl,by simp [look],trivial⟩
  ·obtain rfl:k=all.length:=by omega
   rw [List.take_length, ←hstep] at hzs2
   refine X.exit C.1 U<|X.region C U U ?_
   have hls2':=hls2
   refine R.finish C.1 (enc:=fun z:Value×List Int=> [z.1]) (fun _=>rfl) Dd hb2 fun ro3 hl3 hls3=>Rm C U U<|Ad C U U<|X.inBlock C.1<|X.region C U U<|Rm C U U<|Ra C U U U<|Ad C U U<|X.weaken ?_ (hnext (i+1,ro3,v2) ⟨hi',RO.le_trans hle1 (RO.le_trans hle2 hl3),zs2,hls3,hzs2,fun z hz=>⟨(hls2 z hz).1.mono hl3,(hls2 z hz).2⟩⟩ (by simp only;omega))
   exact⟨rfl,rfl,by simp [look],trivial⟩
 ·obtain rfl:i=rs.length:=by omega
  rw [List.take_length] at hg1
  refine X.exit C.1 U<|Xr C U U<|Rm C U U<|Ad C U U<|Xt C func178<|Hr hret (RO.le_trans hl0 hle1) ?_
  exact hg1
end
end
section
theorem BkV.all{b:Bk}{v:Value}{ro:RO}(h:BkV ro v b):∃pb pc gb gc cb cc tb tc,v= .agg [.int .i64 b.w, .slice pb b.ps.length pc, .slice gb b.gs.length gc, .slice cb b.cs.length cc, .slice tb b.ts.length tc].toArray∧Ls Pt.cells 4 ro (.slice pb b.ps.length pc) b.ps∧LsG ro (.slice gb b.gs.length gc) b.gs∧Ls Pc.cells 3 ro (.slice cb b.cs.length cc) b.cs∧Ls Ts.cells 3 ro (.slice tb b.ts.length tc) b.ts:=by
 obtain⟨vp,vg,vc,vt,rfl,hp,hg,hc,ht⟩:=h
 obtain⟨pb,pc,rfl⟩:=hp.form
 obtain⟨gb,gc,rfl⟩:=hg.form
 obtain⟨cb,cc,rfl⟩:=hc.form
 obtain⟨tb,tc,rfl⟩:=ht.form
 exact⟨_,_,_,_,_,_,_,_,rfl,hp,hg,hc,ht⟩
theorem LsG.nil{ro:RO}:LsG ro (.slice none 0 0) []:=⟨[],Ls.nil,rfl,fun _ h=>nomatch h⟩
theorem bears_nil{b:Bk}(hb:b.good):cases b= []↔bearsL b= []:=by
 constructor
 ·intro h
  cases hl:bearsL b with
  |nil=>rfl
  |cons p l=>
   cases hw:weightsL b with
   |nil=>exact absurd hw (weightsL_ne hb)
   |cons w k=>
    have:((p,w):Tn)∈cases b:=mem_cases.2 ⟨by rw [hl];exact List.mem_cons_self,by rw [hw];exact List.mem_cons_self⟩
    rw [h] at this;exact nomatch this
 ·intro h;unfold cases;rw [h];rfl
def knownR(b:Bk)(h:Int):List (List Int)×Int:=if openH b h≠0 then([],openH b h) else(bearsL b,0)
section
variable {main:Bool}{J:Goroutine→Mem→Prop}(hJ:Closed prog main J)
include hJ
theorem bearsOfR_c{b:Bk}{v:Value}{ro:RO}(hv:BkV ro v b)(hb:b.good):CallR prog J (fnv 114) [v] ro (fun w ro'=>LsG ro' w (bearsL b)):=by
 have hvv:=hv
 obtain⟨pb,pc,gb,gc,cb,cc,tb,tc,rfl,hp,hg,hc,ht⟩:=hv.all
 have hnp:=hb.np
 have hml:(b.ps.map Pt.r).length=b.ps.length:=List.length_map ..
 refine CallR.intro hJ Kr fun c cs tail hret=>enter_X (n:=46) func114 U U (Nl U) ?_
 have C:Ctx prog main J (bf 114 .normal):=⟨hJ,by decide⟩
 refine Xr C U U<|R.box C U U U U fun p1=>Ad C U U<|Xr C U U<|Ad C U U<|Xs C<|Xr C U U<|Ad C U U<|X.block C.1<|X.loopI (ι:=Nat×Value×List (Nat×Obj)) C.1 (fun s=>s.1≤b.ps.length∧Buf 65 2 [] s.2.1 (((b.ps.map Pt.r).take s.1).flatMap Rc.cells) s.2.2)
  (fun s=> [(1, .pointer (some ⟨p1,0,none⟩)),(3,s.2.1),(4, .int .i64 (s.1:Int))]) (fun s=>⟨ro,s.2.2++((p1, .cells [.int .i64 b.w, .slice pb b.ps.length pc, .slice gb b.gs.length gc, .slice cb b.cs.length cc, .slice tb b.ts.length tc].toArray 27 (0,0))::tail)⟩) (fun s=>b.ps.length-s.1) (0, .slice none 0 0, []) ⟨Nat.zero_le _, .nil⟩ rfl ⟨U,U,U,trivial⟩ fun s hs hnext=>?_
 obtain⟨i,v1,own1⟩:=s
 obtain⟨hi,hbuf⟩:=hs
 simp only at hi hbuf hnext⊢
 have hfl:(((b.ps.map Pt.r).take i).flatMap Rc.cells).length=i*2:=by
  rw [flatMap_len (k:=2) (fun _=>rfl),List.length_take];omega
 obtain⟨bs0,cap0,rfl⟩:=hbuf.form Dd
 refine Xs C<|Xr C U U<|Rm C U U<|Rf C 1 U U runUnderlying27 U sizeOf22<|R.loadOne C U U U isAgg22 Vm U<|Rn C U U runUnderlying22<|R.int C U U U U b_lss<|R.done C<|Xk C U (fun hlt=>?_) (fun hlt=>?_)
 ·have hi':i<b.ps.length:=O
  obtain⟨pp,po,pcap,pl,pty,pfq,hsl,hrop,hsub⟩:=hp.at Pt.len O
  cases hsl
  have hsi:Sub (po+i*4+2) 2 pl (b.ps[i]).r.cells:=(hsub i hi').part (i:=2) (m:=2) Dd
  have hstep:(b.ps.map Pt.r).take (i+1)=(b.ps.map Pt.r).take i++ [(b.ps[i]).r]:=by rw [List.take_succ_eq_append_getElem O,List.getElem_map]
  generalize(b.ps[i]).r=r at hsi hstep
  have hrl:r.cells.length=2:=rfl
  refine X.skip C.1<|Xs C<|X.block C.1<|X.region C U U<|Rm C U U<|Rf C 1 U U runUnderlying27 U sizeOf22<|R.loadOne C U U U isAgg22 Vm U<|Rm C U U<|Rx C U U U runUnderlying22 sizeOf67<|R.fieldAddr C U U U runUnderlying67 U sizeOf65 U<|R.loadAggRo C U U U isAgg65 sizeOf65 hrop hsi<|R.buildSlice C (vs:=_) U U (show pvals _ _=some (numbered 0 [_]) from rfl) U runUnderlying210 sizeOf65 zeroValue65 Dd (Cat.one U U) fun p22=>R.append1 (kk:=2) C U U U U runUnderlying210 runUnderlying210 (fun _=>nofun) (show prog.info? 65=some Tryz.t65 by kernel_rfl) U U U Dd Dd (hbuf.app _) U U (by(try simp only [List.length_append,List.length_cons,List.length_nil]);omega) fun v' own' hb'=>Ad C U U<|X.inBlock C.1<|X.region C U U<|Rm C U U<|Ra C U U U<|Ad C U U ?_
  obtain⟨own2,rfl,hb1⟩:=hb'.unapp (tail:= [])
  refine X.weaken ?_ (hnext (i+1,v',own2) ⟨hi', ?_⟩ (by simp only;omega))
  ·exact⟨rfl,rfl,by simp [look],trivial⟩
  ·rw [hstep,List.flatMap_append];exact hb1
 ·obtain rfl:i=b.ps.length:=by omega
  rw [List.take_of_length_le O] at hbuf hfl⊢
  refine X.exit C.1 U<|Xs C<|X.finish C.1 (enc:=Rc.cells) (fun _=>rfl) Dd (hbuf.app _) fun ro1 hl1 hls1=>X.region C U U<|Rm C U U<|R.callR C U U U U ((listsR_c (rs:=b.ps.map Pt.r) hJ hls1 O (fun r h=>by obtain⟨q,hq,rfl⟩:=List.mem_map.1 h;exact(hb.ps q hq).2))) fun v2 ro2 hl2 hq2=>?_
  obtain⟨zs,hz1,hz2,hz3⟩:=hq2
  have hL2:=RO.le_trans hl1 hl2
  have hzl:zs.length≤81:=by
   have h1:=spread_le (rs:=b.ps.map Pt.r) fun r h=>by
    obtain⟨q,hq,rfl⟩:=List.mem_map.1 h
    exact(hb.ps q hq).2.2.2.2
   have h2:3^ (b.ps.map Pt.r).length≤3^4:=Nat.pow_le_pow_right Dd O
   rw [←hz2,List.length_map] at h1
   omega
  obtain⟨zb,zc,rfl⟩:=hz1.form
  refine Ad C U U<|Xr C U U<|Ad C U U<|Xs C<|Xr C U U<|Ad C U U<|X.block C.1<|X.loopI (ι:=Nat×RO×Value×List (Nat×Obj)) C.1 (fun s=>s.1≤zs.length∧ro2.le s.2.1∧Buf 28 1 [] s.2.2.1 (((zs.take s.1).filter fun z=>right b z.2).flatMap fun z=> [z.1]) s.2.2.2)
   (fun s=> [(1, .pointer (some ⟨p1,0,none⟩)),(5, .slice zb zs.length zc),(6,s.2.2.1),(7, .int .i64 (s.1:Int))]) (fun s=>⟨s.2.1,s.2.2.2++((p1, .cells [.int .i64 b.w, .slice pb b.ps.length pc, .slice gb b.gs.length gc, .slice cb b.cs.length cc, .slice tb b.ts.length tc].toArray 27 (0,0))::tail)⟩) (fun s=>zs.length-s.1) (0,ro2, .slice none 0 0, []) ⟨Nat.zero_le _,RO.le_refl _, .nil⟩ rfl ⟨U,U,U,U,trivial⟩ fun s hs hnext2=>?_
  obtain⟨k,ro3,v3,own3⟩:=s
  obtain⟨hk,hl3,hb3⟩:=hs
  simp only at hk hl3 hb3 hnext2⊢
  have hfl3:(((zs.take k).filter fun z=>right b z.2).flatMap fun z:Value×List Int=> [z.1]).length≤k:=by
   rw [flatMap_len (k:=1) (fun _=>rfl),Nat.mul_one]
   have:=List.length_filter_le (fun z:Value×List Int=>right b z.2) (zs.take k)
   rw [List.length_take] at this;omega
  obtain⟨bs3,cap3,rfl⟩:=hb3.form Dd
  refine Xs C<|Xr C U U<|Rm C U U<|Rm C U U<|Rn C U U runUnderlying23<|R.int C U U U U b_lss<|R.done C<|Xk C U (fun hlt2=>?_) (fun hlt2=>?_)
  ·have hk':k<zs.length:=O
   obtain⟨zp,zo,zcap,zl,zty,zfq,hsl,hzro,hzsub⟩:=hz1.at (fun _=>rfl) O
   cases hsl
   have hzk:zl[zo+k*1+0]? =some zs[k].1:=(hzsub k hk').get 0 Dd
   have hzi:=hz3 _ (List.getElem_mem hk')
   have hzlen:zs[k].2.length=b.ps.length:=by
    have:zs[k].2∈spread (b.ps.map Pt.r):=by rw [←hz2];exact List.mem_map.2 ⟨_,List.getElem_mem hk',rfl⟩
    rw [spread_len _ this,hml]
   have hstep:(zs.take (k+1)).filter (fun z=>right b z.2)=(zs.take k).filter (fun z=>right b z.2)++(if right b zs[k].2 then [zs[k]] else []):=by
    rw [List.take_succ_eq_append_getElem hk',List.filter_append,List.filter_cons,List.filter_nil]
   generalize zs[k]=z at hzk hzi hzlen hstep
   obtain⟨z1,z2⟩:=z
   simp only at hzk hzi hzlen hstep
   obtain⟨qb,qc,rfl⟩:=hzi.1.form
   have hzro3:=hl3 _ _ hzro
   refine X.skip C.1<|Xs C<|X.block C.1<|Xs C<|Xd C fun hok=>Dl 0 hok (fun _ _ A h=>R.loadAgg C U (A.w U U) (A.x U U) isAgg27 sizeOf27 Vm Tk5 h)<|Dm C 1 hok U U U<|Dm C 2 hok U U U<|Dx C 3 hok U U U runUnderlying23 sizeOf28<|D2 C 4 hok U U isAgg28 hzro3 hzk<|De 5 (some 37) [false,false] hok (fun _ _ A hk=>?_)
   refine R.callR C U (A.w U U) (A.x U U) (A.s U U) (testedR_c hJ (hvv.mono (RO.le_trans hL2 hl3)) hb (hzi.1.mono hl3) hzlen) fun v4 ro4 hl4 hq4=>hk _ _ ⟨QFs.nil, ?_⟩
   refine D.done C hok Kr ?_
   subst hq4
   refine X.cond C.1 U (fun hrt=>?_) (fun hrt=>?_)
   ·rw [if_pos hrt] at hstep
    have hzro4:=hl4 _ _ hzro3
    refine X.region C U U<|Rm C U U<|Rm C U U<|Rm C U U<|Rx C U U U runUnderlying23 sizeOf28<|R.loadOneRo C U U U isAgg28 hzro4 hzk<|R.buildSlice C (vs:=_) U U (show pvals _ _=some (numbered 0 [_]) from rfl) U runUnderlying23 sizeOf28 zeroValue28 Dd (Cat.one U U) fun p43=>R.append1 (kk:=1) C U U U U runUnderlying23 runUnderlying23 (fun _=>nofun) (show prog.info? 28=some Tryz.t28 by kernel_rfl) U U U Dd Dd (hb3.app _) U U (by simp only [List.length_append,List.length_cons,List.length_nil];omega) fun v' own' hb'=>Ad C U U<|X.inBlock C.1<|X.region C U U<|Rm C U U<|Ra C U U U<|Ad C U U ?_
    obtain⟨own5,rfl,hb5⟩:=hb'.unapp (tail:= [])
    refine X.weaken ?_ (hnext2 (k+1,ro4,v',own5) ⟨hk',RO.le_trans hl3 hl4, ?_⟩ (by simp only;omega))
    ·exact⟨rfl,rfl,rfl,by simp [look],trivial⟩
    ·rw [hstep,List.flatMap_append];exact hb5
   ·rw [if_neg (by rw [hrt];decide),List.append_nil] at hstep
    refine X.skip C.1<|X.inBlock C.1<|X.region C U U<|Rm C U U<|Ra C U U U<|Ad C U U<|X.weaken ?_ (hnext2 (k+1,ro4,_,own3) ⟨hk',RO.le_trans hl3 hl4,by rw [hstep];exact hb3⟩ (by simp only;omega))
    exact⟨rfl,rfl,rfl,by simp [look],trivial⟩
  ·obtain rfl:k=zs.length:=by omega
   rw [List.take_length] at hb3 hfl3⊢
   refine X.exit C.1 U<|Xs C<|X.finish C.1 (enc:=fun z:Value×List Int=> [z.1]) (fun _=>rfl) Dd (hb3.app _) fun ro5 hl5 hls5=>X.region C U U<|Rm C U U<|Ad C U U<|Xt C func114<|Hr hret (RO.le_trans hL2 (RO.le_trans hl3 hl5))<|⟨_,hls5, ?_,fun z hz=>?_⟩
   ·rw [bearsL, ←hz2,List.filter_map];rfl
   ·have:=hz3 z (List.mem_filter.1 hz).1
    exact⟨this.1.mono (RO.le_trans hl3 hl5),this.2⟩
theorem knownR_c{b:Bk}{v:Value}{ro:RO}(hv:BkV ro v b)(hs:b.short)(h:Int):CallR prog J (fnv 120) [v, .int .i64 h] ro (fun w ro'=>∃vl,LsG ro' vl (knownR b h).1∧w= .tuple [vl, .int .i64 (knownR b h).2].toArray):=by
 have hvv:=hv
 obtain⟨pb,pc,gb,gc,cb,cc,tb,tc,rfl,hp,hg,hc,ht⟩:=hv.all
 refine CallR.intro hJ Kr fun c cs tail hret=>enter_X (n:=22) func120 U U (Nl U) ?_
 have C:Ctx prog main J (bf 120 .normal):=⟨hJ,by decide⟩
 refine Xr C U U<|R.box C U U U U fun p2=>R.asg C U U U<|Ad C U U<|Xs C<|Xr C U U<|R5 C U U isAgg27 sizeOf27 V Tk5<|R.callP C U U U U (checkBookR_c hJ hvv hs)<|Ad C U U<|Xr C U U<|Rm C U U<|R.int C U U U U b_neq<|R.done C<|X.cond C.1 U (fun h1=>?_) (fun h1=>?_)
 ·have h1:checkBook b≠0:=by simpa using h1
  have e0:openH b h=checkBook b:=by rw [openH,if_pos h1]
  have e:knownR b h=([],checkBook b):=by rw [knownR,e0,if_pos h1]
  refine Xr C U U<|Rm C U U<|R.asg C U U U<|Ad C U U<|X.ret C U U func120 U (by exact(.tmp U (.tmp U .nil)))<|Hr hret (RO.le_refl _) ?_
  rw [e];exact⟨_,LsG.nil,rfl⟩
 ·have h1:checkBook b=0:=by simpa using h1
  refine X.skip C.1<|Xs C<|Xr C U U<|Rm C U U<|R.int C U U U U b_neq<|R.done C<|X.cond C.1 U (fun h2=>?_) (fun h2=>?_)
  ·have h2:h≠0:=by simpa using h2
   have e0:openH b h=h:=by rw [openH,if_neg (by simp [h1]),if_pos h2]
   have e:knownR b h=([],h):=by rw [knownR,e0,if_pos h2]
   refine Xr C U U<|Rm C U U<|R.asg C U U U<|Ad C U U<|X.ret C U U func120 U (by exact(.tmp U (.tmp U .nil)))<|Hr hret (RO.le_refl _) ?_
   rw [e];exact⟨_,LsG.nil,rfl⟩
  ·have h2:h=0:=by simpa using h2
   have hb:=good_of h1
   have hle:=bearsL_le hb
   refine X.skip C.1<|Xr C U U<|R5 C U U isAgg27 sizeOf27 V Tk5<|R.callR C U U U U (bearsOfR_c hJ hvv hb) fun v1 ro1 hl1 hq1=>?_
   have hq:=hq1
   obtain⟨lb,lc,rfl⟩:=hq1.form
   refine Ad C U U<|Xs C<|Xr C U U<|Rm C U U<|Rn C U U runUnderlying23<|R.int C U U U U b_eql<|R.done C<|X.cond C.1 U (fun h3=>?_) (fun h3=>?_)
   ·have h3:cases b= []:=(bears_nil hb).2 (List.length_eq_zero_iff.1 (by simpa using h3))
    have e0:openH b h=9:=by rw [openH,if_neg (by simp [h1]),if_neg (by simp [h2]),if_pos h3]
    have e:knownR b h=([],9):=by rw [knownR,e0];rfl
    refine Xr C U U<|R.asg C U U U<|Ad C U U<|X.ret C U U func120 U (by exact(.tmp U (.tmp U .nil)))<|Hr hret hl1 ?_
    rw [e];exact⟨_,LsG.nil,rfl⟩
   ·have h3:¬cases b= []:=fun e=>by rw [(bears_nil hb).1 e] at h3;simp at h3
    have e0:openH b h=0:=by rw [openH,if_neg (by simp [h1]),if_neg (by simp [h2]),if_neg h3]
    have e:knownR b h=(bearsL b,0):=by rw [knownR,e0];rfl
    refine X.skip C.1<|Xr C U U<|Rm C U U<|R.asg C U U U<|Ad C U U<|X.ret C U U func120 U (by exact(.tmp U (.tmp U .nil)))<|Hr hret hl1 ?_
    rw [e];exact⟨_,hq,rfl⟩
omit hJ in
theorem how_int(n a:Nat):how n a=if(n:Int)=0 then 2 else if(n:Int)=a then 1 else 0:=by
 unfold how
 by_cases h:n=0
 ·simp [h]
 ·have h3:((n:Int)=a)↔n=a:=O
  by_cases h2:n=a
  ·rw [if_neg h,if_pos h2,if_neg O,if_pos O]
  ·rw [if_neg h,if_neg h2,if_neg O,if_neg O]
theorem howR_c(n a:Nat)(ro:RO):CallP prog J (fnv 180) [.int .i64 (n:Int), .int .i64 (a:Int)] ro (.int .i64 (how n a)):=by
 rw [how_int]
 refine CallP.intro hJ Kr fun c cs tail hret=>enter_X (n:=10) func180 U U (Nl U) ?_
 have C:Ctx prog main J (bf 180 .normal):=⟨hJ,by decide⟩
 refine Xr C U U<|Ad C U U<|Xs C<|Xr C U U<|Rm C U U<|R.int C U U U U b_eql<|R.done C<|X.cond C.1 U (fun h1=>?_) (fun h1=>?_)
 ·have h1:(n:Int)=0:=by simpa using h1
  refine Xr C U U<|Ad C U U<|Xt C func180<|Hp hret ?_
  rw [if_pos h1];rfl
 ·have h1:¬(n:Int)=0:=by simpa using h1
  refine X.skip C.1<|Xs C<|Xr C U U<|Rm C U U<|Rm C U U<|R.int C U U U U b_eql<|R.done C<|X.cond C.1 U (fun h2=>?_) (fun h2=>?_)
  ·have h2:(n:Int)=a:=by simpa using h2
   refine Xr C U U<|Ad C U U<|Xt C func180<|Hp hret ?_
   rw [if_neg h1,if_pos h2];rfl
  ·have h2:¬(n:Int)=a:=by simpa using h2
   refine X.skip C.1<|Xr C U U<|Ad C U U<|Xt C func180<|Hp hret ?_
   rw [if_neg h1,if_neg h2];rfl
end
end
section
theorem known_zero{b:Bk}{h:Int}(h0:openH b h=0):knownR b h=(bearsL b,0):=by rw [knownR,if_neg (fun e=>e h0)]
theorem known_not{b:Bk}{h:Int}(h0:openH b h≠0):knownR b h=([],openH b h):=by rw [knownR,if_pos h0]
theorem known_two{b:Bk}{h:Int}:(knownR b h).2=openH b h:=by
 by_cases h0:openH b h=0
 ·rw [known_zero h0,h0]
 ·rw [known_not h0]
theorem filter_flat{α β:Type}(l:List α)(f:α→List β)(q:β→Bool):(l.flatMap f).filter q=l.flatMap fun x=>(f x).filter q:=by
 induction l with
 |nil=>rfl
 |cons x l ih=>rw [List.flatMap_cons,List.filter_append,ih,List.flatMap_cons]
theorem flat_const{α β:Type}(l:List α)(f:α→List β)(m:Nat)(h:∀x∈l,(f x).length=m):(l.flatMap f).length=l.length*m:=by
 induction l with
 |nil=>simp
 |cons x l ih=>rw [List.flatMap_cons,List.length_append,ih fun y hy=>h y (by simp [hy]),h x Zi,List.length_cons,Nat.succ_mul];omega
theorem fibre:∀ (rs:List Rc) (i:Nat) (h:i<rs.length),∃m,∀q:Int→Bool,((spread rs).filter fun l=>q (l.getD i 0)).length=(rs[i].nums.filter q).length*m
 |r::rs,0,_=>by
  refine⟨(spread rs).length,fun q=>?_⟩
  show(((r.nums.flatMap fun n=>(spread rs).map (n:: ·)).filter fun l=>q (l.getD 0 0)).length=_)
  rw [filter_flat]
  show _=(r.nums.filter q).length*_
  induction r.nums with
  |nil=>simp
  |cons n ns ih=>
   rw [List.flatMap_cons,List.length_append,ih,List.filter_cons]
   have e:(((spread rs).map (n:: ·)).filter fun l=>q (l.getD 0 0)).length=if q n then(spread rs).length else 0:=by
    rw [List.filter_map,List.length_map]
    have:(fun l:List Int=>q (l.getD 0 0)) ∘ (n:: ·)=fun _=>q n:=rfl
    rw [this]
    cases q n<;>simp
   rw [e]
   cases q n<;>simp [Nat.succ_mul];omega
 |r::rs,i+1,h=>by
  obtain⟨m,hm⟩:=fibre rs i (by simpa using h)
  refine⟨r.nums.length*m,fun q=>?_⟩
  show(((r.nums.flatMap fun n=>(spread rs).map (n:: ·)).filter fun l=>q (l.getD (i+1) 0)).length=_)
  rw [filter_flat,flat_const _ _ (((rs[i]'(by simpa using h)).nums.filter q).length*m)]
  ·show _=((rs[i]'(by simpa using h)).nums.filter q).length*_
   rw [Nat.mul_left_comm]
  ·intro n _
   rw [List.filter_map,List.length_map]
   exact hm q
theorem how_mul(n a m:Nat)(h:0<m):how (n*m) (a*m)=how n a:=by
 have e1:n*m=0↔n=0:=by rw [Nat.mul_eq_zero];omega
 have e2:n*m=a*m↔n=a:=⟨fun e=>Nat.eq_of_mul_eq_mul_right h e,fun e=>by rw [e]⟩
 unfold how
 simp only [e1,e2]
def liftN(b:Bk)(g:Int)(r:Rc)(L:List (List Int)):Nat:=(L.flatMap fun p=>r.nums.filter fun n=>lifts b p g n).length
def allN(r:Rc)(L:List (List Int)):Nat:=(L.flatMap fun _=>r.nums).length
theorem may_known{b:Bk}(hb:b.good){g k:Int}(h0:0≤k)(h1:k<b.cs.length):may b g k=how (liftN b g (b.piece k).r (bearsL b)) (allN (b.piece k).r (bearsL b)):=by
 have hk:k.toNat<(b.cs.map Pc.r).length:=by rw [List.length_map];omega
 obtain⟨m,hm⟩:=fibre (b.cs.map Pc.r) k.toNat hk
 have hr:(b.cs.map Pc.r)[k.toNat]=(b.piece k).r:=by
  rw [List.getElem_map,Bk.piece,List.getD_eq_getElem?_getD,List.getElem?_eq_getElem O];rfl
 rw [hr] at hm
 have hall:=hm fun _=>true
 rw [List.filter_eq_self.2 (fun _ _=>rfl),List.filter_eq_self.2 (fun _ _=>rfl)] at hall
 have hpos:0<m:=by
  have:(weightsL b).length≠0:=fun e=>weightsL_ne hb (List.length_eq_zero_iff.1 e)
  rcases Nat.eq_zero_or_pos m with rfl|h
  ·rw [weightsL,hall,Nat.mul_zero] at this;exact absurd rfl this
  ·exact h
 rw [←how_mul _ _ m hpos,may]
 have e1:((cases b).filter fun t=>lifts b t.1 g (nth t.2 k)).length=liftN b g (b.piece k).r (bearsL b)*m:=by
  unfold cases liftN
  rw [filter_flat]
  induction bearsL b with
  |nil=>simp
  |cons p l ih=>
   rw [List.flatMap_cons,List.flatMap_cons,List.length_append,List.length_append,ih,Nat.add_mul,List.filter_map,List.length_map]
   exact congrArg (· +_) (hm fun n=>lifts b p g n)
 have e2:(cases b).length=allN (b.piece k).r (bearsL b)*m:=by
  unfold cases allN
  induction bearsL b with
  |nil=>simp
  |cons p l ih=>
   rw [List.flatMap_cons,List.flatMap_cons,List.length_append,List.length_append,ih,Nat.add_mul,List.length_map]
   exact congrArg (· +_) hall
 rw [e1,e2]
theorem liftN_take(b:Bk)(g:Int)(r:Rc)(L:List (List Int)){i:Nat}(h:i<L.length):liftN b g r (L.take (i+1))=liftN b g r (L.take i)+(r.nums.filter fun n=>lifts b L[i] g n).length:=by
 unfold liftN;rw [List.take_succ_eq_append_getElem h,List.flatMap_append,List.length_append];simp
theorem allN_take(r:Rc)(L:List (List Int)){i:Nat}(h:i<L.length):allN r (L.take (i+1))=allN r (L.take i)+r.nums.length:=by
 unfold allN;rw [List.take_succ_eq_append_getElem h,List.flatMap_append,List.length_append];simp
theorem filter_rz(lo:Int)(q:Int→Bool)(j:Nat):((rz lo (j+1)).filter q).length=((rz lo j).filter q).length+if q (lo+j) then 1 else 0:=by
 rw [rz_to,List.filter_append,List.length_append,List.filter_cons,List.filter_nil]
 cases q (lo+j)<;>rfl
section
variable {main:Bool}{J:Goroutine→Mem→Prop}(hJ:Closed prog main J)
include hJ
theorem mayOfR_c{b:Bk}{v vL:Value}{ro:RO}(hv:BkV ro v b)(hb:b.good){L:List (List Int)}(hL:LsG ro vL L)(hn:L.length≤81)(hl:∀p∈L,p.length=b.ps.length){g k:Int}(hg0:0≤g∧g<b.gs.length)(hk:0≤k∧k<b.cs.length):CallR prog J (fnv 127) [v,vL, .int .i64 g, .int .i64 k] ro (fun w _=>w= .int .i64 (how (liftN b g (b.piece k).r L) (allN (b.piece k).r L))):=by
 have hvv:=hv
 obtain⟨pb,pc,gb,gc,cb,cc,tb,tc,rfl,hp,hg,hc,ht⟩:=hv.all
 obtain⟨lb,lc,rfl⟩:=hL.form
 obtain⟨ap,ao,acap,al,aty,afq,hasl,haro,hasub⟩:=hc.at Pc.len O
 cases hasl
 have hpi:b.cs[k.toNat]' O=b.piece k:=by simp [Bk.piece,List.getD_eq_getElem?_getD,show k.toNat<b.cs.length by omega]
 have hlo:al[ao+k.toNat*3+1]? =some (.int .i64 (b.piece k).r.lo):=by rw [←hpi];exact(hasub k.toNat O).get 1 Dd
 have hhi:al[ao+k.toNat*3+2]? =some (.int .i64 (b.piece k).r.hi):=by rw [←hpi];exact(hasub k.toNat O).get 2 Dd
 have hf:1≤(b.piece k).r.lo∧(b.piece k).r.lo≤(b.piece k).r.hi∧(b.piece k).r.hi≤99∧(b.piece k).r.hi- (b.piece k).r.lo<3:=by rw [←hpi];exact hb.cs _ (List.getElem_mem _)
 generalize(b.piece k).r=r at hlo hhi hf⊢
 obtain⟨cn,hcc⟩:∃c:Nat,c=(r.hi+1-r.lo).toNat:=⟨_,rfl⟩
 have hnums:r.nums=rz r.lo cn:=by rw [hcc];rfl
 have hall:∀i,i≤L.length→allN r (L.take i)=i*cn:=fun i hi=>by
  unfold allN;rw [flat_const _ _ cn fun _ _=>by rw [hnums,rz_len],List.length_take,Nat.min_eq_left hi]
 have hlift:∀i,liftN b g r (L.take i)≤allN r (L.take i):=fun i=>by
  unfold liftN allN
  induction L.take i with
  |nil=>exact Nat.le_refl _
  |cons x l ih=>
   rw [List.flatMap_cons,List.flatMap_cons,List.length_append,List.length_append]
   have:=List.length_filter_le (fun n=>lifts b x g n) r.nums
   omega
 have hc3:cn≤3:=O
 have hac:∀i,i≤L.length→allN r (L.take i)≤243:=fun i hi=>by
  rw [hall i hi]
  calc i*cn≤81*3:=Nat.mul_le_mul O hc3
   _=243:=rfl
 refine CallR.intro hJ Kr fun c cs tail hret=>enter_X (n:=52) func127 U U (Nl U) ?_
 have C:Ctx prog main J (bf 127 .normal):=⟨hJ,by decide⟩
 refine Xr C U U<|R.box C U U U U fun p4=>Ad C U U<|Xr C U U<|R.asg C U U U<|Ad C U U<|Xs C<|Xr C U U<|Ad C U U<|X.block C.1<|X.loopI (ι:=Nat×RO) C.1 (fun s=>s.1≤L.length∧ro.le s.2)
  (fun s=> [(1, .slice lb L.length lc),(2, .int .i64 g),(3, .int .i64 k),(4, .pointer (some ⟨p4,0,none⟩)),(9, .int .i64 (liftN b g r (L.take s.1):Int)),(10, .int .i64 (allN r (L.take s.1):Int)),(11, .int .i64 (s.1:Int))]) (fun s=>⟨s.2,(p4, .cells [.int .i64 b.w, .slice pb b.ps.length pc, .slice gb b.gs.length gc, .slice (some ⟨ap,ao,none⟩) b.cs.length cc, .slice tb b.ts.length tc].toArray 27 (0,0))::tail⟩) (fun s=>L.length-s.1) (0,ro) ⟨Nat.zero_le _,RO.le_refl _⟩ rfl ⟨U,U,U,U,U,U,U,trivial⟩ fun s hs hnext=>?_
 obtain⟨i,ro1⟩:=s
 obtain⟨hi,hl1⟩:=hs
 simp only at hi hl1 hnext⊢
 refine Xs C<|Xr C U U<|Rm C U U<|Rm C U U<|Rn C U U runUnderlying23<|R.int C U U U U b_lss<|R.done C<|Xk C U (fun hlt=>?_) (fun hlt=>?_)
 ·have hi':i<L.length:=O
  have hpl:=hl _ (List.getElem_mem hi')
  obtain⟨lp,lo,lcap,ll,lty,lfq,hlsl,hlro,hlsub⟩:=hL.at O
  cases hlsl
  obtain⟨qb,qc,hqat,hqc,hqls⟩:=hlsub i hi'
  have hst1:=liftN_take b g r L hi'
  have hst2:=allN_take r L hi'
  rw [hnums,rz_len] at hst2
  rw [hnums] at hst1
  have ha1:=hac i hi
  have ha2:=hlift i
  generalize L[i]=x at hqat hqc hqls hpl hst1
  generalize liftN b g r (L.take i)=m1 at hst1 ha2⊢
  generalize allN r (L.take i)=m2 at hst2 ha1 ha2⊢
  have haro1:=hl1 _ _ haro
  refine X.skip C.1<|Xs C<|X.block C.1<|Xr C U U<|Rf C 3 U U runUnderlying27 U sizeOf24<|Rl C U U isAgg24 V U<|Rm C U U<|Rx C U U U runUnderlying24 sizeOf79<|R.fieldAddr C U U U runUnderlying79 U sizeOf65 U<|R.fieldAddr C U U U runUnderlying65 U sizeOf3 U<|R.loadOneRo C U U U isAgg3 haro1 hlo<|Ad C U U<|X.block C.1<|X.loopI (ι:=Nat×RO) C.1 (fun s=>s.1≤cn∧ro1.le s.2)
   (fun s=> [(1, .slice (some ⟨lp,lo,none⟩) L.length lc),(2, .int .i64 g),(3, .int .i64 k),(4, .pointer (some ⟨p4,0,none⟩)),(9, .int .i64 ((m1+((rz r.lo s.1).filter fun n=>lifts b x g n).length:Nat):Int)),(10, .int .i64 ((m2+s.1:Nat):Int)),(11, .int .i64 (i:Int)),(12, .int .i64 (r.lo+(s.1:Int)))]) (fun s=>⟨s.2,(p4, .cells [.int .i64 b.w, .slice pb b.ps.length pc, .slice gb b.gs.length gc, .slice (some ⟨ap,ao,none⟩) b.cs.length cc, .slice tb b.ts.length tc].toArray 27 (0,0))::tail⟩) (fun s=>cn-s.1) (0,ro1) ⟨Nat.zero_le _,RO.le_refl _⟩ rfl ⟨rfl,rfl,rfl,rfl,rfl,rfl,rfl,by simp [look],trivial⟩ fun s hs hnext2=>?_
  obtain⟨j,ro2⟩:=s
  obtain⟨hj,hl2⟩:=hs
  simp only at hj hl2 hnext2⊢
  have hL2:=RO.le_trans hl1 hl2
  have haro2:=hL2 _ _ haro
  have hlro2:=hL2 _ _ hlro
  have hfj:=List.length_filter_le (fun n=>lifts b x g n) (rz r.lo j)
  rw [rz_len] at hfj
  have hfs:=filter_rz r.lo (fun n=>lifts b x g n) j
  refine Xs C<|Xr C U U<|Rm C U U<|Rf C 3 U U runUnderlying27 U sizeOf24<|Rl C U U isAgg24 V U<|Rm C U U<|Rx C U U U runUnderlying24 sizeOf79<|R.fieldAddr C U U U runUnderlying79 U sizeOf65 U<|R.fieldAddr C U U U runUnderlying65 U sizeOf3 U<|R.loadOneRo C U U U isAgg3 haro2 hhi<|R.int C U U U U b_leq<|R.done C<|Xk C U (fun hlt2=>?_) (fun hlt2=>?_)
  ·refine X.skip C.1<|Xs C<|X.block C.1<|Xr C U U<|Rm C U U<|Ra C U U U<|Ad C U U<|Xs C<|Xd C fun hok=>D5 C 0 hok U U isAgg27 sizeOf27 V Tk5<|Dm C 1 hok U U U<|Dm C 2 hok U U U<|Dx C 3 hok U U U runUnderlying23 sizeOf28<|D2 C 4 hok U U isAgg28 hlro2 hqat<|Dm C 5 hok U U U<|Dm C 6 hok U U U<|De 7 (some 46) [false,false] hok (fun _ _ A hk=>?_)
   refine R.callR C U (A.w U U) (A.x U U) (A.s U U) (liftsOfR_c hJ (hvv.mono hL2) hb (hqls.mono hL2) hpl hg0 O) fun v4 ro4 hl4 hq4=>hk _ _ ⟨QFs.nil, ?_⟩
   refine D.done C hok Kr ?_
   subst hq4
   refine X.cond C.1 U (fun hyes=>?_) (fun hyes=>?_)
   ·rw [if_pos hyes] at hfs
    refine X.region C U U<|Rm C U U<|Ra C U U U<|Ad C U U<|X.inBlock C.1<|X.region C U U<|Rm C U U<|Ra C U U U<|Ad C U U<|X.weaken ?_ (hnext2 (j+1,ro4) ⟨by simp only;omega,RO.le_trans hl2 hl4⟩ (by simp only;omega))
    exact⟨rfl,rfl,rfl,rfl,by simp only [look];congr 2;omega,by simp only [look];congr 2,rfl,by simp only [look];congr 2;omega,trivial⟩
   ·rw [if_neg (by rw [hyes];decide)] at hfs
    refine X.skip C.1<|X.inBlock C.1<|X.region C U U<|Rm C U U<|Ra C U U U<|Ad C U U<|X.weaken ?_ (hnext2 (j+1,ro4) ⟨by simp only;omega,RO.le_trans hl2 hl4⟩ (by simp only;omega))
    exact⟨rfl,rfl,rfl,rfl,by simp only [look];rw [hfs];rfl,by simp only [look];congr 2,rfl,by simp only [look];congr 2;omega,trivial⟩
  ·obtain rfl:j=cn:=by omega
   refine X.exit C.1 U<|X.inBlock C.1<|X.region C U U<|Rm C U U<|Ra C U U U<|Ad C U U<|X.weaken ?_ (hnext (i+1,ro2) ⟨hi',hL2⟩ (by simp only;omega))
   exact⟨rfl,rfl,rfl,rfl,by simp only [look];rw [hst1],by simp only [look];rw [hst2],by simp [look],trivial⟩
 ·obtain rfl:i=L.length:=by omega
  rw [List.take_length]
  refine X.exit C.1 U<|Xr C U U<|Rm C U U<|Rm C U U<|R.callP C U U U U (howR_c hJ _ _ _)<|Ad C U U<|Xt C func127<|Hr hret hl1 ?_
  rfl
end
end
end Go.Lg.B
namespace Go.Lg
open Go Go.Conc
theorem Buf.at{e:TypeId}{k:Nat}{tail own:List (Nat×Obj)}{v:Value}{cells:List Value}(h:Buf e k tail v cells own)(hp:0<cells.length):∃p len cap spare,v= .slice (some ⟨p,0,none⟩) len cap∧cells.length=len*k∧own=(p, .cells (cells++spare).toArray e (0,0))::tail∧∀cells':List Value,cells'.length=cells.length→Buf e k tail v cells' ((p, .cells (cells'++spare).toArray e (0,0))::tail):=by
 cases h with
 |nil=>simp at hp
 |blk c1 c2 c3=>exact⟨_,_,_,_,rfl,c1,rfl,fun cells' hc=> .blk (by rw [hc];exact c1) (by rw [List.length_append,hc, ←List.length_append];exact c2) c3⟩
end Go.Lg
namespace Go.Lg.B
open Go Go.Conc Go.Lg Go.Proofs Go.Proofs.Tryz
section
def ext(most:Int)(i:Nat)(l:List (List Int)):List (List Int):=(l.filter fun x=>decide ((x.length:Int)<most)).map fun x=>x++ [(i:Int)]
def sets(most:Int):Nat→List (List Int)
 |0=> [[]]
 |i+1=>sets most i++ext most i (sets most i)
theorem ext_le(most:Int)(i:Nat)(l:List (List Int)):(ext most i l).length≤l.length:=by
 unfold ext;rw [List.length_map];exact List.length_filter_le _ _
theorem sets_len(most:Int):∀n,(sets most n).length≤2^n
 |0=>by simp [sets]
 |n+1=>by
  have h1:=sets_len most n
  have h2:=ext_le most n (sets most n)
  simp only [sets,List.length_append]
  have:2^ (n+1)=2^n+2^n:=by rw [Nat.pow_succ];omega
  omega
theorem sets_pos(most:Int):∀n,0<(sets most n).length
 |0=>by simp [sets]
 |n+1=>by have:=sets_pos most n;simp only [sets,List.length_append];omega
theorem sets_each(most:Int):∀n,∀l∈sets most n,l.length≤n
 |0,l,h=>by simp [sets] at h;simp [h]
 |n+1,l,h=>by
  rcases List.mem_append.1 h with h|h
  ·have:=sets_each most n l h;omega
  ·obtain⟨x,hx,rfl⟩:=List.mem_map.1 h
   have:=sets_each most n x (List.mem_filter.1 hx).1
   simp;omega
theorem ext_take(most:Int)(i:Nat)(l:List (List Int)){k:Nat}(h:k<l.length):ext most i (l.take (k+1))=ext most i (l.take k)++(if(l[k].length:Int)<most then [l[k]++ [(i:Int)]] else []):=by
 unfold ext
 rw [List.take_add_one,List.getElem?_eq_getElem h,List.filter_append,List.map_append]
 congr 1
 by_cases hm:(l[k].length:Int)<most<;>simp [hm]
abbrev LE:=Value×List Int
def le(p:LE):List Value:= [p.1]
theorem le_len(p:LE):(le p).length=1:=rfl
theorem le_flat(xs:List LE):(xs.flatMap le).length=xs.length:=by rw [flatMap_len le_len,Nat.mul_one]
theorem le_get(xs:List LE)(sp:List Value){k:Nat}(h:k<xs.length):(xs.flatMap le++sp)[0+k*1]? =some xs[k].1:=by
 have hl:=le_flat xs
 rw [Nat.zero_add,Nat.mul_one,List.getElem?_append_left O]
 clear hl
 induction xs generalizing k with
 |nil=>simp at h
 |cons x xs ih=>
  cases k with
  |zero=>rfl
  |succ k=>exact ih (by simpa using h)
section
variable {main:Bool}{J:Goroutine→Mem→Prop}(hJ:Closed prog main J)
include hJ
theorem setsR_c{n:Nat}{most:Int}(hn:n≤5){ro:RO}:CallR prog J (fnv 137) [.int .i64 (n:Int), .int .i64 most] ro (fun x ro'=>LsG ro' x (sets most n)):=by
 refine CallR.intro hJ Kr fun c cs tail hret=>enter_X (n:=42) func137 U U (Nl U) ?_
 have C:Ctx prog main J (bf 137 .normal):=⟨hJ,by decide⟩
 refine Xr C U U<|Ad C U U<|Xr C U U<|R.buildSlice C (vs:=_) U U (show pvals _ _=some (numbered 0 [_]) from rfl) U runUnderlying23 sizeOf28 zeroValue28 Dd (Cat.one U U) fun p9=>Ad C U U<|Xs C<|Xr C U U<|Ad C U U<|X.block C.1<|X.loopI (ι:=Nat×RO×Value×List LE×List (Nat×Obj)) C.1 (fun s=>s.1≤n∧ro.le s.2.1∧Buf 28 1 tail s.2.2.1 (s.2.2.2.1.flatMap le) s.2.2.2.2∧s.2.2.2.1.map (·.2)=sets most s.1∧∀p∈s.2.2.2.1,LsI s.2.1 p.1 p.2∧capOk p.1) (fun s=> [(0, .int .i64 (n:Int)),(1, .int .i64 most),(5,s.2.2.1),(6, .int .i64 (s.1:Int))])
  (fun s=>⟨s.2.1,s.2.2.2.2⟩) (fun s=>n-s.1) (0,ro, .slice (some ⟨p9,0,none⟩) 1 1, [(.slice none 0 0, [])],(p9, .cells [.slice none 0 0].toArray 28 (0,0))::tail) ⟨Nat.zero_le _,RO.le_refl _,Buf.blk (cells:= [.slice none 0 0]) (spare:= []) (len:=1) (cap:=1) rfl rfl (Nat.le_refl _),rfl,fun p hp=>by simp at hp;subst hp;exact⟨Ls.nil,_,_,_,rfl,Nat.le_refl _⟩⟩ rfl ⟨U,U,U,U,trivial⟩ fun s hs hnext=>?_
 obtain⟨i,ro1,v1,xs1,own1⟩:=s
 obtain⟨hi,hle1,hb1,hxs1,hls1⟩:=hs
 simp only at hi hle1 hb1 hxs1 hls1 hnext⊢
 have hlen1:xs1.length=(sets most i).length:=by rw [←hxs1,List.length_map]
 have hspos:=sets_pos most i
 have hpow:(sets most i).length≤2^i:=sets_len most i
 have hpow5:2^i≤2^5:=Nat.pow_le_pow_right Dd O
 have hff1:=le_flat xs1
 obtain⟨b1,c1,hv1⟩:=hb1.form Dd
 rw [hff1,Nat.div_one] at hv1
 subst hv1
 refine Xs C<|Xr C U U<|Rm C U U<|Rm C U U<|R.int C U U U U b_lss<|R.done C<|Xk C U (fun hlt=>?_) (fun hlt=>?_)
 ·have hi':i<n:=O
  refine X.skip C.1<|Xs C<|X.block C.1<|Xr C U U<|Rm C U U<|Rn C U U runUnderlying23<|Ad C U U<|Xr C U U<|Ad C U U<|X.block C.1<|X.loopI (ι:=Nat×RO×Value×List LE×List (Nat×Obj)) C.1 (fun s=>s.1≤xs1.length∧ro1.le s.2.1∧Buf 28 1 tail s.2.2.1 (s.2.2.2.1.flatMap le) s.2.2.2.2∧s.2.2.2.1.map (·.2)=sets most i++ext most i ((sets most i).take s.1)∧∀p∈s.2.2.2.1,LsI s.2.1 p.1 p.2∧capOk p.1) (fun s=> [(0, .int .i64 (n:Int)),(1, .int .i64 most),(5,s.2.2.1),(6, .int .i64 (i:Int)),(7, .int .i64 (xs1.length:Int)),(8, .int .i64 (s.1:Int))])
   (fun s=>⟨s.2.1,s.2.2.2.2⟩) (fun s=>xs1.length-s.1) (0,ro1, .slice b1 xs1.length c1,xs1,own1) ⟨Nat.zero_le _,RO.le_refl _,hb1,by simp [hxs1,ext],hls1⟩ rfl ⟨U,U,U,U,U,U,trivial⟩ fun s hs hnext2=>?_
  obtain⟨k,ro2,v2,xs2,own2⟩:=s
  obtain⟨hk,hle2,hb2,hxs2,hls2⟩:=hs
  simp only at hk hle2 hb2 hxs2 hls2 hnext2⊢
  have hel:=ext_le most i ((sets most i).take k)
  have htk:((sets most i).take k).length≤(sets most i).length:=by rw [List.length_take];omega
  have hlen2:=congrArg List.length hxs2
  rw [List.length_map,List.length_append] at hlen2
  have hff2:=le_flat xs2
  obtain⟨p2',len2,cap2,spare2,rfl,hc2,rfl,hset2⟩:=hb2.at O
  obtain rfl:len2=xs2.length:=by omega
  refine Xs C<|Xr C U U<|Rm C U U<|Rm C U U<|R.int C U U U U b_lss<|R.done C<|Xk C U (fun hlt2=>?_) (fun hlt2=>?_)
  ·have hk1:k<(sets most i).length:=O
   have hk2:k<xs2.length:=O
   have hxk:xs2[k].2=(sets most i)[k]:=by
    have h1:(xs2.map (·.2))[k]? =some (sets most i)[k]:=by rw [hxs2,List.getElem?_append_left hk1,List.getElem?_eq_getElem hk1]
    rw [List.getElem?_map,List.getElem?_eq_getElem hk2] at h1
    simpa using h1
   have hlk:=(hls2 _ (List.getElem_mem hk2)).1
   have hx:=le_get xs2 spare2 hk2
   generalize hL:xs2[k].2=l at hxk hlk
   generalize xs2[k].1=vk at hx hlk
   have hll:l.length≤i:=by rw [hxk];exact sets_each most i _ (List.getElem_mem hk1)
   have hlk0:=hlk
   obtain⟨bk,ck,rfl⟩:=hlk.form
   have hext:=ext_take most i (sets most i) hk1
   rw [←hxk] at hext
   refine X.skip C.1<|Xs C<|X.block C.1<|Xr C U U<|Rm C U U<|Rm C U U<|Rx C U U U runUnderlying23 sizeOf28<|R.loadOne C U U U isAgg28 V hx<|Rn C U U runUnderlying28<|Rm C U U<|R.int C U U U U b_lss<|R.done C<|Xk C U (fun hm=>?_) (fun hm=>?_)
   ·rw [if_pos hm] at hext
    have hfl:=flat_len l
    refine X.region C U U<|Rm C U U<|R.buildSlice C (vs:=_) U U (show pvals _ _=some (numbered 0 []) from rfl) U runUnderlying28 sizeOf3 zeroValue3 Dd (.nil) fun p30=>Rm C U U<|Rm C U U<|Rx C U U U runUnderlying23 sizeOf28<|R.loadOne C U U U isAgg28 V hx<|R.append (kk:=1) C U U U U runUnderlying28 runUnderlying28 (fun _=>nofun) (show prog.info? 3=some Tryz.t3 by kernel_rfl) U U U Dd Dd (Buf.blk (cells:= []) (spare:= []) (len:=0) (cap:=0) U U (Nat.le_refl _)) (hlk0.rd ic_len) (ones_ic l) (by simp only [List.length_nil];omega) fun v' own' hb'=>Rm C U U<|R.buildSlice C (vs:=_) U U (show pvals _ _=some (numbered 0 [_]) from rfl) U runUnderlying28 sizeOf3 zeroValue3 Dd (Cat.one U U) fun p37=>R.append1 (kk:=1) C U U U U runUnderlying28 runUnderlying28 (fun _=>nofun) (show prog.info? 3=some Tryz.t3 by kernel_rfl) U U U Dd Dd hb' U U (by simp only [List.length_append,List.length_cons,List.length_nil];omega) fun v' own' hb'=>?_
    have e3:([]++l.flatMap ic)++ [Value.int .i64 (i:Int)]=(l++ [(i:Int)]).flatMap ic:=by simp [List.flatMap_append,ic]
    rw [e3] at hb'
    have hco:=hb'.capOk
    refine R.finish C.1 ic_len Dd hb' fun ro3 hl3 hls3=>?_
    obtain⟨b3,c3,rfl⟩:=hls3.form
    refine R.buildSlice C (vs:=_) U U (show pvals _ _=some (numbered 0 [_]) from rfl) U runUnderlying23 sizeOf28 zeroValue28 Dd (Cat.one U U) fun p39=>R.append1 (kk:=1) C U U U U runUnderlying23 runUnderlying23 (fun _=>nofun) (show prog.info? 28=some Tryz.t28 by kernel_rfl) U U U Dd Dd hb2 U U (by simp only [List.length_append,List.length_cons,List.length_nil];omega) fun v' own' hb'=>Ad C U U<|X.inBlock C.1<|X.region C U U<|Rm C U U<|Ra C U U U<|Ad C U U<|X.weaken ?_ (hnext2 (k+1,ro3,_,xs2++ [(.slice b3 (l++ [(i:Int)]).length c3,l++ [(i:Int)])],_) ⟨O,RO.le_trans hle2 hl3,by simpa [List.flatMap_append,le] using hb', ?_,fun p hp=>?_⟩ O)
    ·exact⟨rfl,rfl,rfl,rfl,rfl,by simp [look],trivial⟩
    ·rw [List.map_append,hxs2,hext,List.append_assoc];rfl
    ·rcases List.mem_append.1 hp with hp|hp
     ·exact⟨(hls2 p hp).1.mono hl3,(hls2 p hp).2⟩
     ·rw [List.mem_singleton.1 hp];exact⟨hls3,hco⟩
   ·rw [if_neg hm,List.append_nil] at hext
    refine X.skip C.1<|X.inBlock C.1<|X.region C U U<|Rm C U U<|Ra C U U U<|Ad C U U<|X.weaken ?_ (hnext2 (k+1,ro2,_,xs2,_) ⟨O,hle2,hb2,by rw [hxs2,hext],hls2⟩ O)
    exact⟨rfl,rfl,rfl,rfl,rfl,by simp [look],trivial⟩
  ·obtain rfl:k=xs1.length:=by omega
   rw [List.take_of_length_le O] at hxs2
   refine X.exit C.1 U<|X.inBlock C.1<|X.region C U U<|Rm C U U<|Ra C U U U<|Ad C U U<|X.weaken ?_ (hnext (i+1,ro2,_,xs2,_) ⟨hi',RO.le_trans hle1 hle2,hb2,hxs2,hls2⟩ O)
   exact⟨rfl,rfl,rfl,by simp [look],trivial⟩
 ·obtain rfl:i=n:=by omega
  refine X.exit C.1 U<|Xr C U U<|R.finish C.1 le_len Dd hb1 fun ro3 hl3 hls3=>Rm C U U<|Ad C U U<|Xt C func137<|Hr hret (RO.le_trans hle1 hl3) ?_
  exact⟨xs1,hls3,hxs1,fun p hp=>⟨(hls1 p hp).1.mono hl3,(hls1 p hp).2⟩⟩
end
end
section
def servedL(ones:List (List Int))(x:List Int):Bool:=ones.all fun l=>l.any fun g=>x.contains g
theorem any_takeY{α:Type}(l:List α)(q:α→Bool){i:Nat}(h:i<l.length):(l.take (i+1)).any q=((l.take i).any q||q l[i]):=by
 rw [List.take_succ_eq_append_getElem h,List.any_append];simp
def oneL(b:Bk)(L:List (List Int))(k:Nat)(m:Nat):List Int:=((List.range m).filter fun g:Nat=>how (liftN b g (b.piece k).r L) (allN (b.piece k).r L)==1).map fun g:Nat=>(g:Int)
def onesL(b:Bk)(L:List (List Int))(m:Nat):List (List Int):=(List.range m).map fun k=>oneL b L k b.gs.length
theorem oneL_succ(b:Bk)(L:List (List Int))(k m:Nat):oneL b L k (m+1)=oneL b L k m++(if how (liftN b m (b.piece k).r L) (allN (b.piece k).r L)=1 then [(m:Int)] else []):=by
 unfold oneL
 rw [List.range_succ,List.filter_append,List.map_append]
 congr 1
 by_cases h:how (liftN b m (b.piece k).r L) (allN (b.piece k).r L)=1<;>simp [h]
theorem oneL_le(b:Bk)(L:List (List Int))(k m:Nat):(oneL b L k m).length≤m:=by
 unfold oneL
 rw [List.length_map]
 have:=List.length_filter_le (fun g:Nat=>how (liftN b g (b.piece k).r L) (allN (b.piece k).r L)==1) (List.range m)
 rwa [List.length_range] at this
theorem onesL_succ(b:Bk)(L:List (List Int))(m:Nat):onesL b L (m+1)=onesL b L m++ [oneL b L m b.gs.length]:=by
 unfold onesL;rw [List.range_succ,List.map_append];rfl
section
variable {main:Bool}{J:Goroutine→Mem→Prop}(hJ:Closed prog main J)
include hJ
theorem servedR_c{va vb:Value}{ro:RO}{ones:List (List Int)}{x:List Int}(ha:LsG ro va ones)(hx:LsI ro vb x)(h1:ones.length≤1000)(h2:∀l∈ones,l.length≤1000)(h3:x.length≤1000):CallP prog J (fnv 138) [va,vb] ro (.bool (servedL ones x)):=by
 have hx0:=hx
 obtain⟨ab,ac,rfl⟩:=ha.form
 obtain⟨xb,xc,rfl⟩:=hx.form
 refine CallP.intro hJ Kr fun c cs tail hret=>enter_X (n:=37) func138 U U (Nl U) ?_
 have C:Ctx prog main J (bf 138 .normal):=⟨hJ,by decide⟩
 refine Xr C U U<|Ad C U U<|Xs C<|Xr C U U<|Ad C U U<|X.block C.1<|X.loopI (ι:=Nat) C.1 (fun i=>i≤ones.length∧∀j (hj:j<ones.length),j<i→(ones[j].any fun g=>x.contains g)=true) (fun i=> [(0, .slice ab ones.length ac),(1, .slice xb x.length xc),(5, .int .i64 (i:Int))]) (fun _=>⟨ro,tail⟩) (fun i=>ones.length-i) 0 ⟨Nat.zero_le _,fun j _ h=>absurd h (Nat.not_lt_zero _)⟩ U ⟨U,U,U,trivial⟩ fun i hs hnext=>?_
 obtain⟨hi,hall⟩:=hs
 refine Xs C<|Xr C U U<|Rm C U U<|Rm C U U<|Rn C U U runUnderlying23<|R.int C U U U U b_lss<|R.done C<|Xk C U (fun hlt=>?_) (fun hlt=>?_)
 ·have hi':i<ones.length:=O
  have hl2:=h2 _ (List.getElem_mem hi')
  obtain⟨ap,ao,acap,al,aty,afq,hasl,haro,hasub⟩:=ha.at O
  cases hasl
  obtain⟨qb,qc,hqat,hqc,hqls⟩:=hasub i hi'
  have hst:(ones[i].any fun g=>x.contains g)=true→∀j (hj:j<ones.length),j<i+1→(ones[j].any fun g=>x.contains g)=true:=fun h j hj hji=>by
   by_cases e:j=i
   ·subst e;exact h
   ·exact hall j hj O
  have hno:(ones[i].any fun g=>x.contains g)=false→servedL ones x=false:=fun h=>by
   unfold servedL
   rw [List.all_eq_false]
   exact⟨_,List.getElem_mem hi',by simp only [h];decide⟩
  generalize ones[i]=l at hl2 hqat hqc hqls hst hno
  refine X.skip C.1<|Xs C<|X.block C.1<|Xr C U U<|Ad C U U<|Xs C<|Xr C U U<|Ad C U U<|X.block C.1<|X.loopI (ι:=Nat) C.1 (fun j=>j≤l.length) (fun j=> [(0, .slice (some ⟨ap,ao,none⟩) ones.length ac),(1, .slice xb x.length xc),(5, .int .i64 (i:Int)),(6, .bool ((l.take j).any fun g=>x.contains g)),(7, .int .i64 (j:Int))]) (fun _=>⟨ro,tail⟩) (fun j=>l.length-j) 0 (Nat.zero_le _) U ⟨U,U,U,U,U,trivial⟩ fun j hj hnext2=>Xs C<|Xr C U U<|Rm C U U<|Rm C U U<|Rm C U U<|Rx C U U U runUnderlying23 sizeOf28<|R.loadOneRo C U U U isAgg28 haro hqat<|Rn C U U runUnderlying28<|R.int C U U U U b_lss<|R.done C<|Xk C U (fun hlt2=>?_) (fun hlt2=>?_)
  ·have hj':j<l.length:=O
   have hat:=any_takeY l (fun g=>x.contains g) hj'
   obtain⟨lp,lo,lcap,ll,lty,lfq,hlsl,hlro,hlsub⟩:=hqls.at ic_len O
   cases hlsl
   have hlj:=ic_at hlsub hj'
   generalize l[j]=y at hat hlj
   generalize(l.take j).any (fun g=>x.contains g)=ok at hat⊢
   refine X.skip C.1<|Xs C<|X.block C.1<|X.region C U U<|Rm C U U<|Rm C U U<|R.fix (t:=24) U (fun hgd=>?_) (fun hgd=>?_)
   ·refine R.pass C U U<|R.pass C U U<|R.pass C U U<|R.pass C U U<|R.pass C U U<|R.pass C U U<|R.pass C U U<|R.pass C U U<|R.pass C U U<|R.pickT C U U U U<|Ad C U U<|X.inBlock C.1<|X.region C U U<|Rm C U U<|Ra C U U U<|Ad C U U<|X.weaken ?_ (hnext2 (j+1) hj' O)
    exact⟨rfl,rfl,rfl,by simp only [look];rw [hat,hgd];rfl,by simp [look],trivial⟩
   ·refine Rm C U U<|Rm C U U<|Rm C U U<|Rx C U U U runUnderlying23 sizeOf28<|R.loadOneRo C U U U isAgg28 haro hqat<|Rm C U U<|Rx C U U U runUnderlying28 sizeOf3<|R.loadOneRo C U U U isAgg3 hlro hlj<|R.callP C U U U U (holdsR_c hJ hx0 O _)<|R.pickF C U U U U<|Ad C U U<|X.inBlock C.1<|X.region C U U<|Rm C U U<|Ra C U U U<|Ad C U U<|X.weaken ?_ (hnext2 (j+1) hj' O)
    exact⟨rfl,rfl,rfl,by simp only [look];rw [hat,hgd];rfl,by simp [look],trivial⟩
  ·obtain rfl:j=l.length:=by omega
   rw [List.take_length]
   refine X.exit C.1 U<|Xr C U U<|Rm C U U<|R.not C U U U<|R.done C<|X.cond C.1 U (fun hbad=>?_) (fun hbad=>?_)
   ·have hbad:(l.any fun g=>x.contains g)=false:=by simpa using hbad
    refine Xr C U U<|Ad C U U<|Xt C func138<|Hp hret ?_
    rw [hno hbad];rfl
   ·have hbad:(l.any fun g=>x.contains g)=true:=by simpa using hbad
    refine X.skip C.1<|X.inBlock C.1<|X.region C U U<|Rm C U U<|Ra C U U U<|Ad C U U<|X.weaken ?_ (hnext (i+1) ⟨hi',hst hbad⟩ O)
    exact⟨rfl,rfl,by simp [look],trivial⟩
 ·obtain rfl:i=ones.length:=by omega
  refine X.exit C.1 U<|Xr C U U<|Ad C U U<|Xt C func138<|Hp hret ?_
  have:servedL ones x=true:=by
   unfold servedL
   rw [List.all_eq_true]
   intro l hl
   obtain⟨j,hj,rfl⟩:=List.getElem_of_mem hl
   exact hall j hj hj
  rw [this];rfl
theorem sureOnesR_c{b:Bk}{v vL:Value}{ro:RO}(hv:BkV ro v b)(hb:b.good){L:List (List Int)}(hL:LsG ro vL L)(hn:L.length≤81)(hl:∀p∈L,p.length=b.ps.length):CallR prog J (fnv 136) [v,vL] ro (fun w ro'=>LsG ro' w (onesL b L b.cs.length)):=by
 have hvv:=hv
 obtain⟨pb,pc,gb,gc,cb,cc,tb,tc,rfl,hp,hg,hc,ht⟩:=hv.all
 have hng:=hb.ng
 have hnc:=hb.nc
 have hL0:=hL
 obtain⟨lb,lc,rfl⟩:=hL.form
 refine CallR.intro hJ Kr fun c cs tail hret=>enter_X (n:=38) func136 U U (Nl U) ?_
 have C:Ctx prog main J (bf 136 .normal):=⟨hJ,by decide⟩
 refine Xr C U U<|R.box C U U U U fun p2=>Ad C U U<|Xr C U U<|Ad C U U<|Xs C<|Xr C U U<|Ad C U U<|X.block C.1<|X.loopI (ι:=Nat×RO×Value×List (Value×List Int)×List (Nat×Obj)) C.1 (fun s=>s.1≤b.cs.length∧ro.le s.2.1∧Buf 28 1 [] s.2.2.1 (s.2.2.2.1.flatMap fun z=> [z.1]) s.2.2.2.2∧s.2.2.2.1.map (·.2)=onesL b L s.1∧∀z∈s.2.2.2.1,LsI s.2.1 z.1 z.2∧capOk z.1) (fun s=> [(1, .slice lb L.length lc),(2, .pointer (some ⟨p2,0,none⟩)),(5,s.2.2.1),(6, .int .i64 (s.1:Int))])
  (fun s=>⟨s.2.1,s.2.2.2.2++((p2, .cells [.int .i64 b.w, .slice pb b.ps.length pc, .slice gb b.gs.length gc, .slice cb b.cs.length cc, .slice tb b.ts.length tc].toArray 27 (0,0))::tail)⟩) (fun s=>b.cs.length-s.1) (0,ro, .slice none 0 0, [], []) ⟨Nat.zero_le _,RO.le_refl _, .nil,rfl,fun _ h=>nomatch h⟩ rfl ⟨U,U,U,U,trivial⟩ fun s hs hnext=>?_
 obtain⟨k,ro1,v1,zs1,own1⟩:=s
 obtain⟨hk,hle1,hb1,hzs1,hls1⟩:=hs
 simp only at hk hle1 hb1 hzs1 hls1 hnext⊢
 have hlen1:=congrArg List.length hzs1
 rw [List.length_map,onesL,List.length_map,List.length_range] at hlen1
 have hff1:(zs1.flatMap fun z:Value×List Int=> [z.1]).length=zs1.length:=by rw [flatMap_len (k:=1) (fun _=>rfl),Nat.mul_one]
 obtain⟨bs1,cap1,rfl⟩:=hb1.form Dd
 refine Xs C<|Xr C U U<|Rm C U U<|Rf C 3 U U runUnderlying27 U sizeOf24<|R.loadOne C U U U isAgg24 Vm U<|Rn C U U runUnderlying24<|R.int C U U U U b_lss<|R.done C<|Xk C U (fun hlt=>?_) (fun hlt=>?_)
 ·have hk':k<b.cs.length:=O
  refine X.skip C.1<|Xs C<|X.block C.1<|Xr C U U<|Ad C U U<|Xs C<|Xr C U U<|Ad C U U<|X.block C.1<|X.loopI (ι:=Nat×RO×Value×List (Nat×Obj)) C.1 (fun s=>s.1≤b.gs.length∧ro1.le s.2.1∧Buf 3 1 [] s.2.2.1 ((oneL b L k s.1).flatMap ic) s.2.2.2) (fun s=> [(1, .slice lb L.length lc),(2, .pointer (some ⟨p2,0,none⟩)),(5, .slice bs1 ((zs1.flatMap fun z:Value×List Int=> [z.1]).length/1) cap1),(6, .int .i64 (k:Int)),(7,s.2.2.1),(8, .int .i64 (s.1:Int))])
   (fun s=>⟨s.2.1,s.2.2.2++(own1++((p2, .cells [.int .i64 b.w, .slice pb b.ps.length pc, .slice gb b.gs.length gc, .slice cb b.cs.length cc, .slice tb b.ts.length tc].toArray 27 (0,0))::tail))⟩) (fun s=>b.gs.length-s.1) (0,ro1, .slice none 0 0, []) ⟨Nat.zero_le _,RO.le_refl _, .nil⟩ rfl ⟨U,U,U,U,U,U,trivial⟩ fun s hs hnext2=>?_
  obtain⟨g,ro2,v2,own2⟩:=s
  obtain⟨hg0,hle2,hb2⟩:=hs
  simp only at hg0 hle2 hb2 hnext2⊢
  have hfl2:=flat_len (oneL b L k g)
  have hol:=oneL_le b L k g
  have hosucc:=oneL_succ b L k g
  obtain⟨bs2,cap2,rfl⟩:=hb2.form Dd
  have hle12:=RO.le_trans hle1 hle2
  refine Xs C<|Xr C U U<|Rm C U U<|Rf C 2 U U runUnderlying27 U sizeOf23<|R.loadOne C U U U isAgg23 Vm U<|Rn C U U runUnderlying23<|R.int C U U U U b_lss<|R.done C<|Xk C U (fun hlt2=>?_) (fun hlt2=>?_)
  ·have hg':g<b.gs.length:=O
   refine X.skip C.1<|Xs C<|X.block C.1<|Xr C U U<|R.loadAgg C U U U isAgg27 sizeOf27 Vm Tk5<|Rm C U U<|Rm C U U<|Rm C U U<|R.callR C U U U U (mayOfR_c hJ (hvv.mono hle12) hb (hL0.mono hle12) hn hl (g:=(g:Int)) (k:=(k:Int)) O O) fun v3 ro3 hl3 hq3=>?_
   subst hq3
   generalize how (liftN b (g:Int) (b.piece (k:Int)).r L) (allN (b.piece (k:Int)).r L)=hw at hosucc⊢
   refine R.int C U U U U b_eql<|R.done C<|X.cond C.1 U (fun hone=>?_) (fun hone=>?_)
   ·have hone:hw=1:=by simpa using hone
    rw [if_pos hone] at hosucc
    refine X.region C U U<|Rm C U U<|Rm C U U<|R.buildSlice C (vs:=_) U U (show pvals _ _=some (numbered 0 [_]) from rfl) U runUnderlying28 sizeOf3 zeroValue3 Dd (Cat.one U U) fun p31=>R.append1 (kk:=1) C U U U U runUnderlying28 runUnderlying28 (fun _=>nofun) (show prog.info? 3=some Tryz.t3 by kernel_rfl) U U U Dd Dd (hb2.app _) U U (by simp only [List.length_append,List.length_cons,List.length_nil];omega) fun v' own' hb'=>Ad C U U<|X.inBlock C.1<|X.region C U U<|Rm C U U<|Ra C U U U<|Ad C U U ?_
    obtain⟨own5,rfl,hb5⟩:=hb'.unapp (tail:= [])
    refine X.weaken ?_ (hnext2 (g+1,ro3,v',own5) ⟨hg',RO.le_trans hle2 hl3, ?_⟩ (by simp only;omega))
    ·exact⟨rfl,rfl,rfl,rfl,rfl,by simp [look],trivial⟩
    ·rw [hosucc,List.flatMap_append];exact hb5
   ·have hone:¬hw=1:=by simpa using hone
    rw [if_neg hone,List.append_nil] at hosucc
    refine X.skip C.1<|X.inBlock C.1<|X.region C U U<|Rm C U U<|Ra C U U U<|Ad C U U<|X.weaken ?_ (hnext2 (g+1,ro3,_,own2) ⟨hg',RO.le_trans hle2 hl3,by rw [hosucc];exact hb2⟩ (by simp only;omega))
    exact⟨rfl,rfl,rfl,rfl,rfl,by simp [look],trivial⟩
  ·obtain rfl:g=b.gs.length:=by omega
   refine X.exit C.1 U ?_
   have hco:=hb2.capOk
   refine X.finish C.1 ic_len Dd (hb2.app _) fun ro4 hl4 hls4=>X.region C U U<|Rm C U U<|Rm C U U<|R.buildSlice C (vs:=_) U U (show pvals _ _=some (numbered 0 [_]) from rfl) U runUnderlying23 sizeOf28 zeroValue28 Dd (Cat.one U U) fun p35=>R.append1 (kk:=1) C U U U U runUnderlying23 runUnderlying23 (fun _=>nofun) (show prog.info? 28=some Tryz.t28 by kernel_rfl) U U U Dd Dd (hb1.app _) U U (by simp only [List.length_append,List.length_cons,List.length_nil];omega) fun v' own' hb'=>Ad C U U<|X.inBlock C.1<|X.region C U U<|Rm C U U<|Ra C U U U<|Ad C U U ?_
   obtain⟨own5,rfl,hb5⟩:=hb'.unapp (tail:= [])
   refine X.weaken ?_ (hnext (k+1,ro4,v',zs1++ [(.slice bs2 (((oneL b L k b.gs.length).flatMap ic).length/1) cap2,oneL b L k b.gs.length)],own5) ⟨hk',RO.le_trans hle12 hl4,by simpa [List.flatMap_append] using hb5, ?_,fun z hz=>?_⟩ (by simp only;omega))
   ·exact⟨rfl,rfl,rfl,by simp [look],trivial⟩
   ·rw [List.map_append,hzs1,onesL_succ];rfl
   ·rcases List.mem_append.1 hz with hz|hz
    ·exact⟨(hls1 z hz).1.mono (RO.le_trans hle2 hl4),(hls1 z hz).2⟩
    ·rw [List.mem_singleton.1 hz];exact⟨hls4,hco⟩
 ·obtain rfl:k=b.cs.length:=by omega
  refine X.exit C.1 U<|Xs C<|X.finish C.1 (enc:=fun z:Value×List Int=> [z.1]) (fun _=>rfl) Dd (hb1.app _) fun ro5 hl5 hls5=>X.region C U U<|Rm C U U<|Ad C U U<|Xt C func136<|Hr hret (RO.le_trans hle1 hl5) ?_
  exact⟨zs1,hls5,hzs1,fun z hz=>⟨(hls1 z hz).1.mono hl5,(hls1 z hz).2⟩⟩
end
end
section
theorem mem_sets{most:Int}:∀ {n:Nat},(n:Int)≤most→∀ {x:List Int},x∈sets most n↔x.Pairwise (· < ·)∧∀k∈x,0≤k∧k<(n:Int)
 |0,_,x=>by
  constructor
  ·intro h;simp [sets] at h;subst h;exact⟨.nil,fun k hk=>nomatch hk⟩
  ·rintro⟨_,h⟩
   cases x with
   |nil=>simp [sets]
   |cons y l=>have:=h y Zi;omega
 |n+1,hn,x=>by
  have ih:=fun {x}=>mem_sets (most:=most) (n:=n) O (x:=x)
  rw [sets,List.mem_append,ih]
  have he:x∈ext most n (sets most n)↔ ∃y∈sets most n,x=y++ [(n:Int)]:=by
   unfold ext
   rw [List.mem_map]
   constructor
   ·rintro⟨y,hy,rfl⟩;exact⟨y,(List.mem_filter.1 hy).1,rfl⟩
   ·rintro⟨y,hy,rfl⟩
    have:=sets_each most n y hy
    exact⟨y,List.mem_filter.2 ⟨hy,by rw [dT];omega⟩,rfl⟩
  rw [he]
  constructor
  ·rintro(⟨h1,h2⟩|⟨y,hy,rfl⟩)
   ·exact⟨h1,fun k hk=>by have:=h2 k hk;omega⟩
   ·obtain⟨h1,h2⟩:=ih.1 hy
    refine⟨List.pairwise_append.2 ⟨h1,List.pairwise_singleton _ _,fun a ha c hc=>?_⟩,fun k hk=>?_⟩
    ·rw [List.mem_singleton.1 hc];exact(h2 a ha).2
    ·rcases List.mem_append.1 hk with hk|hk
     ·have:=h2 k hk;omega
     ·rw [List.mem_singleton.1 hk];omega
  ·rintro⟨h1,h2⟩
   rcases List.eq_nil_or_concat x with rfl|⟨y,a,rfl⟩
   ·exact .inl ⟨.nil,fun k hk=>nomatch hk⟩
   ·rw [List.concat_eq_append] at h1 h2⊢
    obtain⟨h3,_,h4⟩:=List.pairwise_append.1 h1
    have h5:∀k∈y,0≤k∧k<a:=fun k hk=>⟨(h2 k (by simp [hk])).1,h4 k hk a Zi⟩
    have h6:=h2 a Zi
    by_cases e:a=n
    ·subst e;exact .inr ⟨y,ih.2 ⟨h3,h5⟩,rfl⟩
    ·refine .inl ⟨h1,fun k hk=>?_⟩
     rcases List.mem_append.1 hk with hk|hk
     ·have:=h5 k hk;omega
     ·rw [List.mem_singleton.1 hk];omega
theorem range_listOf{n m:Nat}:∀k∈listOf n m,0≤k∧k<(n:Int):=fun k hk=>by obtain⟨j,h1,_,rfl⟩:=listOf_mem.1 hk;omega
theorem fewest_pick{n:Nat}{is:Nat→Bool}{P:List Int→Bool}(h:∀m,m<2^n→is m=P (listOf n m)){y:List Int}(hy:y∈sets n n)(h3:P y=true)(h4:∀x∈sets n n,P x=true→¬smaller x y=true):fewestOf n is=some y:=by
 obtain⟨h1,h2⟩:=(mem_sets (Int.le_refl _)).1 hy
 rcases fewestOf_law h with⟨_,h5⟩|⟨z,h5,h6,h7,h8,h9⟩
 ·have:=h5 y h1 h2;rw [h3] at this;cases this
 ·rw [h5];exact congrArg some (smaller_total (h4 z ((mem_sets (Int.le_refl _)).2 ⟨h6,h7⟩) h8) (h9 y h1 h2 h3))
theorem fewest_nonY{n:Nat}{is:Nat→Bool}{P:List Int→Bool}(h:∀m,m<2^n→is m=P (listOf n m))(h1:∀x∈sets n n,P x=false):fewestOf n is=none:=
 fewestOf_none fun m hm=>by rw [h m hm];exact h1 _ ((mem_sets (Int.le_refl _)).2 ⟨listOf_asc _ _,range_listOf⟩)
theorem served_law{b:Bk}(hb:b.good){x:List Int}(hx:∀k∈x,0≤k∧k<(b.gs.length:Int)):servedL (onesL b (bearsL b) b.cs.length) x=liftedL b x:=by
 unfold servedL onesL liftedL liftsOne
 have key:∀k,k<b.cs.length→(((oneL b (bearsL b) k b.gs.length).any fun g=>x.contains g)=true↔(x.any fun g=>may b g k==1)=true):=fun k hk=>by
  rw [List.any_eq_true,List.any_eq_true]
  constructor
  ·rintro⟨g,h1,h2⟩
   unfold oneL at h1
   obtain⟨j,h3,rfl⟩:=List.mem_map.1 h1
   have h4:=List.mem_filter.1 h3
   refine⟨(j:Int),by simpa using h2, ?_⟩
   rw [may_known hb O O];exact h4.2
  ·rintro⟨g,h1,h2⟩
   have h3:=hx g h1
   refine⟨g, ?_,by simpa using h1⟩
   unfold oneL
   refine List.mem_map.2 ⟨g.toNat,List.mem_filter.2 ⟨List.mem_range.2 O, ?_⟩,O⟩
   rw [may_known hb O O] at h2
   rwa [show((g.toNat:Nat):Int)=g by omega]
 rw [Bool.eq_iff_iff,List.all_eq_true,List.all_eq_true]
 constructor
 ·intro h p hp;exact(key p (List.mem_range.1 hp)).1 (h _ (List.mem_map.2 ⟨p,hp,rfl⟩))
 ·intro h l hl
  obtain⟨p,hp,rfl⟩:=List.mem_map.1 hl
  exact(key p (List.mem_range.1 hp)).2 (h p hp)
theorem served_mono{ones:List (List Int)}{x y:List Int}(h:∀k∈x,k∈y)(hs:servedL ones x=true):servedL ones y=true:=by
 unfold servedL at*
 rw [List.all_eq_true] at hs⊢
 intro l hl
 have:=hs l hl
 rw [List.any_eq_true] at this⊢
 obtain⟨g,h1,h2⟩:=this
 exact⟨g,h1,by simpa using h g (by simpa using h2)⟩
def bestL(P:List Int→Bool)(z:List Int)(l:List (List Int)):List Int:=((l.filter P).foldl offer (some z)).getD []
theorem bestL_some(P:List Int→Bool)(z:List Int)(l:List (List Int)):(l.filter P).foldl offer (some z)=some (bestL P z l):=by
 obtain⟨y,h,_⟩:=offer_least (l.filter P) z
 rw [bestL,h];rfl
theorem bestL_take(P:List Int→Bool)(z:List Int)(l:List (List Int)){i:Nat}(h:i<l.length):bestL P z (l.take (i+1))=if(if smaller l[i] (bestL P z (l.take i)) then P l[i] else false)=true then l[i] else bestL P z (l.take i):=by
 have e:∀x y,((some x).getD y:List Int)=x:=fun _ _=>rfl
 rw [bestL,List.take_succ_eq_append_getElem h,List.filter_append,List.foldl_append,bestL_some]
 cases hp:P l[i]
 ·simp [List.filter_cons,hp]
 ·by_cases hs:smaller l[i] (bestL P z (l.take i))=true<;>simp [List.filter_cons,hp,offer,hs]
theorem bestL_law(P:List Int→Bool)(z:List Int)(l:List (List Int))(hz:P z=true):(bestL P z l=z∨bestL P z l∈l)∧P (bestL P z l)=true∧∀x∈l,P x=true→¬smaller x (bestL P z l)=true:=by
 obtain⟨y,h1,h2,h3⟩:=offer_least (l.filter P) z
 rw [bestL_some] at h1
 cases h1
 refine⟨h2.imp id fun h=>(List.mem_filter.1 h).1, ?_,fun x hx hp=>h3 x (.inr (List.mem_filter.2 ⟨hx,hp⟩))⟩
 rcases h2 with h|h
 ·rw [h];exact hz
 ·exact(List.mem_filter.1 h).2
theorem onesL_len(b:Bk)(L:List (List Int))(m:Nat):(onesL b L m).length=m:=by rw [onesL,List.length_map,List.length_range]
theorem onesL_each(b:Bk)(L:List (List Int))(m:Nat):∀l∈onesL b L m,l.length≤b.gs.length:=fun l hl=>by
 obtain⟨k,_,rfl⟩:=List.mem_map.1 hl
 exact oneL_le b L k _
theorem up_sets(n:Nat):rz 0 n∈sets n n:=(mem_sets (Int.le_refl _)).2 ⟨rz_asc _ _,fun k hk=>by have:=mem_rz.1 hk;omega⟩
theorem fewestR_none{b:Bk}(hb:b.good)(hL:cases b≠ [])(h0:openH b 0=0)(h:servedL (onesL b (bearsL b) b.cs.length) (rz 0 b.gs.length)=false):fewestR b=(none,0):=by
 rw [fewestR,if_neg (fun e=>e h0)]
 refine congrArg (·,(0:Int)) (fewest_nonY (P:=liftedL b) (fun m _=>lifted_list hL m) fun x hx=>?_)
 have hx2:=((mem_sets (Int.le_refl _)).1 hx).2
 rw [←served_law hb hx2]
 cases e:servedL (onesL b (bearsL b) b.cs.length) x
 ·rfl
 ·rw [served_mono (fun k hk=>mem_rz.2 (by have:=hx2 k hk;omega)) e] at h;cases h
theorem fewestR_some{b:Bk}(hb:b.good)(hL:cases b≠ [])(h0:openH b 0=0)(h:servedL (onesL b (bearsL b) b.cs.length) (rz 0 b.gs.length)=true):fewestR b=(some (bestL (servedL (onesL b (bearsL b) b.cs.length)) (rz 0 b.gs.length) (sets b.gs.length b.gs.length)),0):=by
 rw [fewestR,if_neg (fun e=>e h0)]
 obtain⟨h1,h2,h3⟩:=bestL_law (servedL (onesL b (bearsL b) b.cs.length)) (rz 0 b.gs.length) (sets b.gs.length b.gs.length) h
 have h4:bestL (servedL (onesL b (bearsL b) b.cs.length)) (rz 0 b.gs.length) (sets b.gs.length b.gs.length)∈sets b.gs.length b.gs.length:=by
  rcases h1 with h1|h1
  ·rw [h1];exact up_sets _
  ·exact h1
 have hP:∀x∈sets b.gs.length b.gs.length,servedL (onesL b (bearsL b) b.cs.length) x=liftedL b x:=fun x hx=>served_law hb ((mem_sets (Int.le_refl _)).1 hx).2
 exact congrArg (·,(0:Int)) (fewest_pick (P:=liftedL b) (fun m _=>lifted_list hL m) h4 (by rw [←hP _ h4];exact h2) fun x hx hx2=>h3 x hx (by rw [hP x hx];exact hx2))
section
variable {main:Bool}{J:Goroutine→Mem→Prop}(hJ:Closed prog main J)
include hJ
theorem fewestRef_c{b:Bk}{v:Value}{ro:RO}(hv:BkV ro v b)(hs:b.short):CallR prog J (fnv 46) [v] ro (fun w ro'=>∃vl,LsI ro' vl ((fewestR b).1.getD [])∧w= .tuple [vl, .bool (fewestR b).1.isSome, .int .i64 (fewestR b).2].toArray):=by
 have hvv:=hv
 obtain⟨pb,pc,gb,gc,cb,cc,tb,tc,rfl,hp,hg,hc,ht⟩:=hv.all
 refine CallR.intro hJ Kr fun c cs tail hret=>enter_X (n:=62) func46 U U (Nl U) ?_
 have C:Ctx prog main J (bf 46 .normal):=⟨hJ,by decide⟩
 refine Xr C U U<|R.box C U U U U fun p1=>R.asg C U U U<|R.asg C U U U<|Ad C U U<|Xr C U U<|R5 C U U isAgg27 sizeOf27 V Tk5<|R.callR C U U U U ((knownR_c hJ hvv hs 0)) fun v1 ro1 hl1 hq1=>?_
 obtain⟨vl,hL,rfl⟩:=hq1
 rw [known_two] at*
 obtain⟨lb,lc,rfl⟩:=hL.form
 refine Rm C U U<|R.ext C U U U U<|R.ext C U U U U<|R.asg C U U U<|Ad C U U<|Xs C<|Xr C U U<|Rm C U U<|R.int C U U U U b_neq<|R.done C<|X.cond C.1 U (fun h1=>?_) (fun h1=>?_)
 ·have h1:openH b 0≠0:=by simpa using h1
  refine Xr C U U<|Rm C U U<|R.asg C U U U<|R.asg C U U U<|Ad C U U<|X.ret C U U func46 U (by exact(.tmp U (.tmp U (.tmp U .nil))))<|Hr hret hl1 ?_
  rw [fewestR,if_pos h1];exact⟨_,Ls.nil,rfl⟩
 ·have h1:openH b 0=0:=by simpa using h1
  obtain⟨hb,_,hne,hch⟩:=openH_good h1
  have hfn:=fewestR_none hb hne h1
  have hfs:=fewestR_some hb hne h1
  have hng:=hb.ng
  have hnc:=hb.nc
  rw [known_zero h1] at hL
  rw [show(knownR b 0).1.length=(bearsL b).length by rw [known_zero h1]]
  simp only at hL
  refine X.skip C.1<|Xs C<|Xd C fun hok=>D5 C 0 hok U U isAgg27 sizeOf27 V Tk5<|Dm C 1 hok U U U<|Df (off':=2) C 3 hok U U U runUnderlying27 U sizeOf23 U<|D1 C 4 hok U U isAgg23 V U<|Ds C 5 hok U U runUnderlying23<|Df (off':=2) C 6 hok U U U runUnderlying27 U sizeOf23 U<|D1 C 7 hok U U isAgg23 V U<|Ds C 8 hok U U runUnderlying23<|De 2 (some 21) [true,true,false] hok (fun _ _ A hk=>?_)
  refine R.callR C U (A.w U U) (A.x U U) (A.s U U) (sureOnesR_c hJ (hvv.mono hl1) hb hL (bearsL_le hb) bearsL_len) fun v2 ro2 hl2 hq2=>hk _ _ ⟨(QFs.cons (QF.of U (fun _ _ A h=>R.loadOne C U (A.w U U) (A.x U U) isAgg23 V U h)) (QFs.cons (QF.of U (fun _ _ A h=>R.loadOne C U (A.w U U) (A.x U U) isAgg23 V U h)) QFs.nil)), ?_⟩
  refine De 9 (some 28) [false,false] hok (fun _ _ A hk=>?_)
  refine R.callR C U (A.w U U) (A.x U U) (A.s U U) (setsR_c hJ (n:=b.gs.length) (most:=(b.gs.length:Int)) O) fun v3 ro3 hl3 hq3=>hk _ _ ⟨QFs.nil, ?_⟩
  refine Da C 10 hok U U<|Da C 11 hok U U<|D.done C hok Kr<|Xr C U U<|Rf C 2 U U runUnderlying27 U sizeOf23<|Rl C U U isAgg23 V U<|Rn C U U runUnderlying23<|R.callR C U U U U (uptoR_c hJ (n:=b.gs.length) O) fun v4 ro4 hl4 hq4=>?_
  have hol:=onesL_len b (bearsL b) b.cs.length
  have hoe:=onesL_each b (bearsL b) b.cs.length
  generalize onesL b (bearsL b) b.cs.length=ones at hq2 hol hoe hfn hfs
  obtain⟨ob,oc,rfl⟩:=hq2.form
  have hsl:=sets_len (b.gs.length:Int) b.gs.length
  have hse:=sets_each (b.gs.length:Int) b.gs.length
  have hpw:2^b.gs.length≤2^3:=Nat.pow_le_pow_right Dd O
  have hbest:∀l:List (List Int),(∀x∈l,x.length≤b.gs.length)→servedL ones (rz 0 b.gs.length)=true→(bestL (servedL ones) (rz 0 b.gs.length) l).length≤b.gs.length:=fun l hl hz=>by
   rcases(bestL_law (servedL ones) (rz 0 b.gs.length) l hz).1 with h|h
   ·rw [h,rz_len];exact Nat.le_refl _
   ·exact hl _ h
  generalize sets (b.gs.length:Int) b.gs.length=S at hq3 hfs hsl hse
  obtain⟨sb,sc,rfl⟩:=hq3.form
  have hzl:(rz 0 b.gs.length).length=b.gs.length:=rz_len _ _
  generalize rz 0 b.gs.length=z at hq4 hfn hfs hbest hzl
  have hL4:=RO.le_trans hl1 (RO.le_trans hl2 (RO.le_trans hl3 hl4))
  have ho4:=hq2.mono (RO.le_trans hl3 hl4)
  have hs4:=hq3.mono hl4
  have hz0:=hq4
  obtain⟨zb,zc,rfl⟩:=hq4.form
  refine Ad C U U<|Xs C<|Xr C U U<|Rm C U U<|Rm C U U<|R.callP C U U U U (servedR_c hJ ho4 hz0 O (fun l hl=>by have:=hoe l hl;omega) O)<|R.not C U U U<|R.done C<|X.cond C.1 U (fun hsv=>?_) (fun hsv=>?_)
  ·have hsv:servedL ones z=false:=by simpa using hsv
   refine Xr C U U<|R.asg C U U U<|R.asg C U U U<|Ad C U U<|X.ret C U U func46 U (by exact(.tmp U (.tmp U (.tmp U .nil))))<|Hr hret hL4 ?_
   rw [hfn hsv];exact⟨_,Ls.nil,rfl⟩
  ·have hsv:servedL ones z=true:=by simpa using hsv
   rw [hfs hsv] at hret
   have hbest:=fun l hl=>hbest l hl hsv
   refine X.skip C.1<|Xs C<|Xr C U U<|Ad C U U<|X.block C.1<|X.drop C.1 (own':=tail) (List.sublist_cons_self _ _)<|X.loopI (ι:=Nat×Value) C.1 (fun s=>s.1≤S.length∧LsI ro4 s.2 (bestL (servedL ones) z (S.take s.1))) (fun s=> [(7, .slice ob ones.length oc),(8, .slice sb S.length sc),(9,s.2),(10, .int .i64 (s.1:Int))]) (fun _=>⟨ro4,tail⟩) (fun s=>S.length-s.1) (0,_) ⟨Nat.zero_le _,hz0⟩ U ⟨U,U,U,U,trivial⟩ fun s hs' hnext=>?_
   obtain⟨i,vz⟩:=s
   obtain⟨hi,hz⟩:=hs'
   simp only at hi hz hnext⊢
   have hzz:=hz
   obtain⟨b9,c9,rfl⟩:=hz.form
   refine Xs C<|Xr C U U<|Rm C U U<|Rm C U U<|Rn C U U runUnderlying23<|R.int C U U U U b_lss<|R.done C<|Xk C U (fun hlt=>?_) (fun hlt=>?_)
   ·have hi':i<S.length:=O
    have hbl:=hbest (S.take i) fun x hx=>hse x (List.mem_of_mem_take hx)
    have hst:=bestL_take (servedL ones) z S hi'
    have hxl:=hse _ (List.getElem_mem hi')
    obtain⟨ap,ao,acap,al,aty,afq,hasl,haro,hasub⟩:=hs4.at O
    cases hasl
    obtain⟨qb,qc,hqat,hqc,hqls⟩:=hasub i hi'
    generalize S[i]=x at hst hxl hqat hqc hqls
    generalize bestL (servedL ones) z (S.take i)=y at hz hzz hbl hst hnext⊢
    refine X.skip C.1<|Xs C<|X.block C.1<|Xr C U U<|Rm C U U<|Rm C U U<|Rx C U U U runUnderlying23 sizeOf28<|R.loadOneRo C U U U isAgg28 haro hqat<|Rm C U U<|R.callP C U U U U (smallerR_c hJ hqls hzz O O)<|Rm C U U<|R.fix (t:=49) U (fun hgd=>?_) (fun hgd=>?_)
    ·refine Rm C U U<|Rm C U U<|Rm C U U<|Rx C U U U runUnderlying23 sizeOf28<|R.loadOneRo C U U U isAgg28 haro hqat<|R.callP C U U U U (servedR_c hJ ho4 hqls O (fun l hl=>by have:=hoe l hl;omega) O)<|R.pickT C U U U U<|R.done C<|X.cond C.1 U (fun hyes=>?_) (fun hyes=>?_)
     ·rw [hgd,if_pos rfl,hyes,if_pos rfl] at hst
      refine X.region C U U<|Rm C U U<|Rm C U U<|Rx C U U U runUnderlying23 sizeOf28<|R.loadOneRo C U U U isAgg28 haro hqat<|Ad C U U<|X.inBlock C.1<|X.region C U U<|Rm C U U<|Ra C U U U<|Ad C U U<|X.weaken ?_ (hnext (i+1,_) ⟨hi',by rw [hst];exact hqls⟩ (by simp only;omega))
      exact⟨rfl,rfl,rfl,by simp [look],trivial⟩
     ·rw [hgd,if_pos rfl,hyes,if_neg Dd] at hst
      refine X.skip C.1<|X.inBlock C.1<|X.region C U U<|Rm C U U<|Ra C U U U<|Ad C U U<|X.weaken ?_ (hnext (i+1,_) ⟨hi',by rw [hst];exact hzz⟩ (by simp only;omega))
      exact⟨rfl,rfl,rfl,by simp [look],trivial⟩
    ·replace hst:=hst.trans (show _=y by rw [hgd];rfl)
     refine R.pass C U U<|R.pass C U U<|R.pass C U U<|R.pass C U U<|R.pass C U U<|R.pass C U U<|R.pickF C U U U U<|R.done C<|X.cond C.1 U (fun h=>nomatch h) (fun _=>?_)
     refine X.skip C.1<|X.inBlock C.1<|X.region C U U<|Rm C U U<|Ra C U U U<|Ad C U U<|X.weaken ?_ (hnext (i+1,_) ⟨hi',by rw [hst];exact hzz⟩ (by simp only;omega))
     exact⟨rfl,rfl,rfl,by simp [look],trivial⟩
   ·obtain rfl:i=S.length:=by omega
    rw [List.take_length] at hzz⊢
    refine X.exit C.1 U<|Xr C U U<|Rm C U U<|R.asg C U U U<|R.asg C U U U<|Ad C U U<|X.ret C U U func46 U (by exact(.tmp U (.tmp U (.tmp U .nil))))<|Hr hret hL4 ?_
    exact⟨_,hzz,rfl⟩
end
end
section
theorem ic_put(v:Int)(sp:List Value):∀ {xs:List Int} {k:Nat},k<xs.length→Put k [.int .i64 v] (xs.flatMap ic++sp) ((xs.set k v).flatMap ic++sp)
 |x::xs,0,_=> .here .nil
 |x::xs,k+1,h=> .skip (ic_put v sp (by simpa using h))
def renewedP(p x:List Int):List Int:=x.foldl (fun p i=>p.set i.toNat 99) p
theorem renewedP_len(x:List Int):∀p,(renewedP p x).length=p.length:=by
 unfold renewedP
 induction x with
 |nil=>exact fun _=>rfl
 |cons i x ih=>exact fun p=>by rw [List.foldl_cons,ih,List.length_set]
theorem renewedP_take(p x:List Int){j:Nat}(h:j<x.length):renewedP p (x.take (j+1))=(renewedP p (x.take j)).set x[j].toNat 99:=by
 unfold renewedP;rw [List.take_succ_eq_append_getElem h,List.foldl_append];rfl
section
variable {main:Bool}{J:Goroutine→Mem→Prop}(hJ:Closed prog main J)
include hJ
theorem renewedOfR_c{vL vx:Value}{ro:RO}{L:List (List Int)}{x:List Int}{m:Nat}(hL:LsG ro vL L)(hx:LsI ro vx x)(hn:L.length≤81)(hl:∀p∈L,p.length=m)(hm:0<m∧m≤4)(hxl:x.length≤4)(hxr:∀k∈x,0≤k∧k<(m:Int)):CallR prog J (fnv 142) [vL,vx] ro (fun w ro'=>LsG ro' w (L.map fun p=>renewedP p x)):=by
 have hx0:=hx
 obtain⟨lb,lc,rfl⟩:=hL.form
 obtain⟨xb,xc,rfl⟩:=hx.form
 refine CallR.intro hJ Kr fun c cs tail hret=>enter_X (n:=38) func142 U U (Nl U) ?_
 have C:Ctx prog main J (bf 142 .normal):=⟨hJ,by decide⟩
 refine Xr C U U<|Ad C U U<|Xr C U U<|Ad C U U<|Xs C<|Xr C U U<|Ad C U U<|X.block C.1<|X.loopI (ι:=Nat×RO×Value×List (Value×List Int)×List (Nat×Obj)) C.1 (fun s=>s.1≤L.length∧ro.le s.2.1∧Buf 28 1 tail s.2.2.1 (s.2.2.2.1.flatMap fun z=> [z.1]) s.2.2.2.2∧s.2.2.2.1.map (·.2)=(L.take s.1).map (fun p=>renewedP p x)∧∀z∈s.2.2.2.1,LsI s.2.1 z.1 z.2∧capOk z.1) (fun s=> [(0, .slice lb L.length lc),(1, .slice xb x.length xc),(5,s.2.2.1),(6, .int .i64 (s.1:Int))])
  (fun s=>⟨s.2.1,s.2.2.2.2⟩) (fun s=>L.length-s.1) (0,ro, .slice none 0 0, [],tail) ⟨Nat.zero_le _,RO.le_refl _, .nil,rfl,fun _ h=>nomatch h⟩ rfl ⟨U,U,U,U,trivial⟩ fun s hs hnext=>?_
 obtain⟨i,ro1,v1,zs1,own1⟩:=s
 obtain⟨hi,hle1,hb1,hzs1,hls1⟩:=hs
 simp only at hi hle1 hb1 hzs1 hls1 hnext⊢
 have hlen1:=congrArg List.length hzs1
 rw [List.length_map,List.length_map,List.length_take] at hlen1
 have hff1:(zs1.flatMap fun z:Value×List Int=> [z.1]).length=zs1.length:=by rw [flatMap_len (k:=1) (fun _=>rfl),Nat.mul_one]
 refine Xs C<|Xr C U U<|Rm C U U<|Rm C U U<|Rn C U U runUnderlying23<|R.int C U U U U b_lss<|R.done C<|Xk C U (fun hlt=>?_) (fun hlt=>?_)
 ·have hi':i<L.length:=O
  obtain⟨ap,ao,acap,al,aty,afq,hasl,haro,hasub⟩:=(hL.mono hle1).at O
  cases hasl
  obtain⟨qb,qc,hqat,hqc,hqls⟩:=hasub i hi'
  have hst:(L.take (i+1)).map (fun p=>renewedP p x)=(L.take i).map (fun p=>renewedP p x)++ [renewedP L[i] x]:=by rw [List.take_succ_eq_append_getElem hi',List.map_append];rfl
  have hll:=hl _ (List.getElem_mem hi')
  generalize L[i]=l at hqat hqc hqls hst hll
  have hfl:=flat_len l
  refine X.skip C.1<|Xs C<|X.block C.1<|Xr C U U<|R.buildSlice C (vs:=_) U U (show pvals _ _=some (numbered 0 []) from rfl) U runUnderlying28 sizeOf3 zeroValue3 Dd (.nil) fun p15=>Rm C U U<|Rm C U U<|Rx C U U U runUnderlying23 sizeOf28<|R.loadOneRo C U U U isAgg28 haro hqat<|R.append (kk:=1) C U U U U runUnderlying28 runUnderlying28 (fun _=>nofun) (show prog.info? 3=some Tryz.t3 by kernel_rfl) U U U Dd Dd (Buf.blk (cells:= []) (spare:= []) (len:=0) (cap:=0) U U (Nat.le_refl _)) (hqls.rd ic_len) (ones_ic l) (by simp only [List.length_nil];omega) fun v' own' hb'=>Ad C U U<|Xs C<|Xr C U U<|Ad C U U<|X.block C.1 ?_
  rw [List.nil_append] at hb'
  have hco:=hb'.capOk
  obtain⟨p7',len7,cap7,sp7,rfl,hc7,rfl,hset7⟩:=hb'.at O
  rw [hfl,Nat.mul_one] at hc7
  refine X.loopI (ι:=Nat) C.1 (fun j=>j≤x.length) (fun j=> [(0, .slice (some ⟨ap,ao,none⟩) L.length lc),(1, .slice xb x.length xc),(5,v1),(6, .int .i64 (i:Int)),(7, .slice (some ⟨p7',0,none⟩) len7 cap7),(8, .int .i64 (j:Int))]) (fun j=>⟨ro1,(p7', .cells ((renewedP l (x.take j)).flatMap ic++sp7).toArray 3 (0,0))::own1⟩) (fun j=>x.length-j) 0 (Nat.zero_le _) U ⟨U,U,U,U,U,U,trivial⟩ fun j hj hnext2=>?_
  have hrl:=renewedP_len (x.take j) l
  refine Xs C<|Xr C U U<|Rm C U U<|Rm C U U<|Rn C U U runUnderlying28<|R.int C U U U U b_lss<|R.done C<|Xk C U (fun hlt2=>?_) (fun hlt2=>?_)
  ·have hj':j<x.length:=O
   obtain⟨xp,xo,xcap,xl,xty,xfq,hxsl,hxro,hxsub⟩:=hx0.at ic_len O
   cases hxsl
   have hxj:=ic_at hxsub hj'
   have hxk:=hxr _ (List.getElem_mem hj')
   have hst2:=renewedP_take l x hj'
   generalize x[j]=y at hxj hxk hst2
   generalize renewedP l (x.take j)=w at hrl hst2⊢
   have hxro1:=hle1 _ _ hxro
   have hpu:=ic_put 99 sp7 (xs:=w) (k:=y.toNat) O
   refine X.skip C.1<|Xs C<|X.block C.1<|X.region C U U<|Rm C U U<|Rm C U U<|Rm C U U<|Rx C U U U runUnderlying28 sizeOf3<|R.loadOneRo C U U U isAgg3 hxro1 hxj<|Rx C U U U runUnderlying28 sizeOf3<|R.store C U U U U sizeOf3 U U U V (show Put (0+y.toNat*1) _ _ _ by rw [Nat.zero_add,Nat.mul_one];exact hpu)<|R.done C<|X.inBlock C.1<|X.region C U U<|Rm C U U<|Ra C U U U<|Ad C U U ?_
   rw [←hst2]
   refine X.weaken ?_ (hnext2 (j+1) hj' O)
   exact⟨rfl,rfl,rfl,rfl,rfl,by simp [look],trivial⟩
  ·obtain rfl:j=x.length:=by omega
   rw [List.take_length] at hrl⊢
   refine X.exit C.1 U<|X.finish C.1 ic_len Dd (hset7 ((renewedP l x).flatMap ic) (by rw [flat_len,flat_len,hrl])) fun ro4 hl4 hls4=>X.region C U U<|Rm C U U<|Rm C U U<|R.buildSlice C (vs:=_) U U (show pvals _ _=some (numbered 0 [_]) from rfl) U runUnderlying23 sizeOf28 zeroValue28 Dd (Cat.one U U) fun p35=>R.append1 (kk:=1) C U U U U runUnderlying23 runUnderlying23 (fun _=>nofun) (show prog.info? 28=some Tryz.t28 by kernel_rfl) U U U Dd Dd hb1 U U (by simp only [List.length_append,List.length_cons,List.length_nil];omega) fun v' own' hb'=>Ad C U U<|X.inBlock C.1<|X.region C U U<|Rm C U U<|Ra C U U U<|Ad C U U<|X.weaken ?_ (hnext (i+1,ro4,v',zs1++ [(.slice (some ⟨p7',0,none⟩) len7 cap7,renewedP l x)],_) ⟨hi',RO.le_trans hle1 hl4,by simpa [List.flatMap_append] using hb', ?_,fun z hz=>?_⟩ (by simp only;omega))
   ·exact⟨rfl,rfl,rfl,by simp [look],trivial⟩
   ·rw [List.map_append,hzs1,hst];rfl
   ·rcases List.mem_append.1 hz with hz|hz
    ·exact⟨(hls1 z hz).1.mono hl4,(hls1 z hz).2⟩
    ·rw [List.mem_singleton.1 hz];exact⟨hls4,hco⟩
 ·obtain rfl:i=L.length:=by omega
  rw [List.take_length] at hzs1
  refine X.exit C.1 U<|Xr C U U<|R.finish C.1 (enc:=fun z:Value×List Int=> [z.1]) (fun _=>rfl) Dd hb1 fun ro5 hl5 hls5=>Rm C U U<|Ad C U U<|Xt C func142<|Hr hret (RO.le_trans hle1 hl5) ?_
  exact⟨zs1,hls5,hzs1,fun z hz=>⟨(hls1 z hz).1.mono hl5,(hls1 z hz).2⟩⟩
end
end
section
theorem liftN_le(b:Bk)(g:Int)(r:Rc)(L:List (List Int)):liftN b g r L≤allN r L∧(liftN b g r L=allN r L↔ ∀p∈L,∀n∈r.nums,lifts b p g n=true):=by
 unfold liftN allN
 induction L with
 |nil=>exact⟨Nat.le_refl _,Iff.intro (fun _ p h=>absurd h List.not_mem_nil) fun _=>rfl⟩
 |cons p L ih=>
  have h1:=List.length_filter_le (fun n=>lifts b p g n) r.nums
  have h2:(r.nums.filter fun n=>lifts b p g n).length=r.nums.length↔ ∀n∈r.nums,lifts b p g n=true:=by rw [List.length_filter_eq_length_iff]
  simp only [List.flatMap_cons,List.length_append]
  refine⟨O, ?_⟩
  constructor
  ·intro h q hq
   rcases List.mem_cons.1 hq with rfl|hq
   ·exact h2.1 O
   ·exact ih.2.1 O q hq
  ·intro h
   have h3:=h2.2 (h p Zi)
   have h4:=ih.2.2 fun q hq=>h q (by simp [hq])
   omega
theorem allN_pos{r:Rc}{L:List (List Int)}(hr:r.lo≤r.hi)(hL:L≠ []):0<allN r L:=by
 cases L with
 |nil=>exact absurd rfl hL
 |cons p L=>
  have:r.nums.length=(r.hi+1-r.lo).toNat:=rz_len _ _
  simp only [allN,List.flatMap_cons,List.length_append];omega
theorem renewedP_get(x:List Int)(hx:∀k∈x,0≤k):∀ (p:List Int) (i:Nat),i<p.length→nth (renewedP p x) i=if(i:Int)∈x then 99 else nth p i:=by
 unfold renewedP
 induction x with
 |nil=>intro p i _;simp
 |cons k x ih=>
  intro p i hi
  have hk:=hx k Zi
  rw [List.foldl_cons,ih (fun j hj=>hx j (by simp [hj])) _ _ (by rw [List.length_set];exact hi)]
  by_cases h1:(i:Int)∈x
  ·rw [if_pos h1,if_pos (by simp [h1])]
  ·rw [if_neg h1]
   by_cases h2:k.toNat=i
   ·rw [if_pos (by rw [List.mem_cons];exact .inl O)]
    simp only [nth,Int.toNat_natCast,List.getD_eq_getElem?_getD]
    rw [←h2,List.getElem?_set_self O];rfl
   ·rw [if_neg (by rw [List.mem_cons];rintro(h|h);exact h2 O;exact h1 h)]
    simp only [nth,Int.toNat_natCast,List.getD_eq_getElem?_getD,List.getElem?_set_ne h2]
def renP(b:Bk)(x:List Int):Bool:=servedL (onesL b ((bearsL b).map fun p=>renewedP p x) b.cs.length) (rz 0 b.gs.length)
theorem sure_how{b:Bk}(hb:b.good)(hne:cases b≠ [])(m:Nat){g k:Nat}(hg:g<b.gs.length)(hk:k<b.cs.length):
  sure b m g k=true↔how (liftN b g (b.piece k).r ((bearsL b).map fun p=>renewedP p (listOf b.ps.length m))) (allN (b.piece k).r ((bearsL b).map fun p=>renewedP p (listOf b.ps.length m)))=1:=by
 have hpk:b.piece k=b.cs[k]:=by simp [Bk.piece,List.getD_eq_getElem?_getD,hk]
 have hf:=hb.cs _ (List.getElem_mem hk)
 rw [←hpk] at hf
 have hbn:bearsL b≠ []:=fun e=>hne ((bears_nil hb).2 e)
 rw [how_one (allN_pos hf.2.1 (by simpa using hbn)),(liftN_le b g _ _).2]
 have hl:∀q∈bearsL b,∀n,lifts b (renew m (pad 4 q)) g n=lifts b (renewedP q (listOf b.ps.length m)) g n:=fun q hq n=>by
  have hql:=bearsL_len q hq
  have hnp:=hb.np
  refine lifts_congr hb (fun i hi=>?_) O O n
  rw [nth_renew _ _ (by rw [pad_len O];omega),nth_pad,renewedP_get _ (fun k hk=>(range_listOf k hk).1) _ _ O]
  have:(i:Int)∈listOf b.ps.length m↔m.testBit i=true:=by
   rw [listOf_mem]
   exact⟨fun⟨j,_,h,e⟩=>by rw [show i=j by omega];exact h,fun h=>⟨i,hi,h,rfl⟩⟩
  by_cases e:m.testBit i=true
  ·rw [if_pos e,if_pos (this.2 e)]
  ·rw [if_neg e,if_neg (fun h=>e (this.1 h))]
 rw [sure,List.all_eq_true]
 constructor
 ·intro h q' hq' n hn
  obtain⟨q,hq,rfl⟩:=List.mem_map.1 hq'
  obtain⟨w,hw,e⟩:=weights_hi hb (k:=(k:Int)) O O (mem_nums.1 hn)
  have:=h (q,w) (mem_cases.2 ⟨hq,hw⟩)
  rw [hl q hq,e] at this;exact this
 ·intro h t ht
  have hq:=(mem_cases.1 ht).1
  rw [hl _ hq]
  exact h _ (List.mem_map.2 ⟨_,hq,rfl⟩) _ (mem_nums.2 (weights_in O O (mem_cases.1 ht).2))
theorem renP_law{b:Bk}(hb:b.good)(hne:cases b≠ [])(m:Nat):lifted b (sureM b m) (2^b.gs.length-1)=renP b (listOf b.ps.length m):=by
 unfold lifted renP servedL onesL
 have key:∀k,k<b.cs.length→(((List.range b.gs.length).any fun g=>(2^b.gs.length-1).testBit g && sureM b m g k)=true↔((oneL b ((bearsL b).map fun p=>renewedP p (listOf b.ps.length m)) k b.gs.length).any fun g=>(rz 0 b.gs.length).contains g)=true):=fun k hk=>by
  rw [List.any_eq_true,List.any_eq_true]
  constructor
  ·rintro⟨g,h1,h2⟩
   have hg:=List.mem_range.1 h1
   simp only [sureM,Bool.and_eq_true,decide_eq_true_eq] at h2
   refine⟨(g:Int), ?_,by simpa using mem_rz.2 O⟩
   unfold oneL
   exact List.mem_map.2 ⟨g,List.mem_filter.2 ⟨h1,by rw [beq_iff_eq];exact(sure_how hb hne m hg hk).1 h2.2.2.2⟩,rfl⟩
  ·rintro⟨x,h1,h2⟩
   unfold oneL at h1
   obtain⟨g,h3,rfl⟩:=List.mem_map.1 h1
   obtain⟨h4,h5⟩:=List.mem_filter.1 h3
   rw [beq_iff_eq] at h5
   have hg:=List.mem_range.1 h4
   refine⟨g,h4, ?_⟩
   simp only [sureM,Bool.and_eq_true,decide_eq_true_eq,Nat.testBit_two_pow_sub_one]
   exact⟨hg,hg,hk,(sure_how hb hne m hg hk).2 h5⟩
 rw [Bool.eq_iff_iff,List.all_eq_true,List.all_eq_true]
 constructor
 ·intro h l hl
  obtain⟨k,hk,rfl⟩:=List.mem_map.1 hl
  exact(key k (List.mem_range.1 hk)).1 (h k hk)
 ·intro h k hk
  exact(key k (List.mem_range.1 hk)).2 (h _ (List.mem_map.2 ⟨k,hk,rfl⟩))
def bestO(P:List Int→Bool)(l:List (List Int)):Option (List Int):=(l.filter P).foldl offer none
theorem bestO_take(P:List Int→Bool)(l:List (List Int)){i:Nat}(h:i<l.length):bestO P (l.take (i+1))=if P l[i] then offer (bestO P (l.take i)) l[i] else bestO P (l.take i):=by
 unfold bestO
 rw [List.take_succ_eq_append_getElem h,List.filter_append,List.foldl_append]
 cases hp:P l[i]<;>simp [List.filter_cons,hp]
theorem bestO_law(P:List Int→Bool)(l:List (List Int)):(bestO P l=none∧∀x∈l,P x=false)∨∃y,bestO P l=some y∧y∈l∧P y=true∧∀x∈l,P x=true→¬smaller x y=true:=by
 unfold bestO
 have hm:∀x,x∈l.filter P↔x∈l∧P x=true:=fun x=>List.mem_filter
 generalize l.filter P=k at hm
 cases k with
 |nil=>
  refine .inl ⟨rfl,fun x hx=>?_⟩
  cases e:P x
  ·rfl
  ·exact nomatch (hm x).2 ⟨hx,e⟩
 |cons z k=>
  obtain⟨y,h1,h2,h3⟩:=offer_least k z
  have hy:y∈z::k:=List.mem_cons.2 h2
  exact .inr ⟨y,h1,((hm y).1 hy).1,((hm y).1 hy).2,fun x hx hp=>h3 x (List.mem_cons.1 ((hm x).2 ⟨hx,hp⟩))⟩
theorem renewR_eq{b:Bk}(hb:b.good)(hne:cases b≠ [])(h0:openH b 0=0):renewR b=(bestO (renP b) (sets b.ps.length b.ps.length),0):=by
 rw [renewR,if_neg (fun e=>e h0)]
 refine congrArg (·,(0:Int)) ?_
 rcases bestO_law (renP b) (sets b.ps.length b.ps.length) with⟨h1,h2⟩|⟨y,h1,h2,h3,h4⟩
 ·rw [h1];exact fewest_nonY (P:=renP b) (fun m _=>renP_law hb hne m) h2
 ·rw [h1];exact fewest_pick (P:=renP b) (fun m _=>renP_law hb hne m) h2 h3 h4
section
variable {main:Bool}{J:Goroutine→Mem→Prop}(hJ:Closed prog main J)
include hJ
theorem renewRef_c{b:Bk}{v:Value}{ro:RO}(hv:BkV ro v b)(hs:b.short):CallR prog J (fnv 50) [v] ro (fun w ro'=>∃vl,LsI ro' vl ((renewR b).1.getD [])∧w= .tuple [vl, .bool (renewR b).1.isSome, .int .i64 (renewR b).2].toArray):=by
 have hvv:=hv
 obtain⟨pb,pc,gb,gc,cb,cc,tb,tc,rfl,hp,hg,hc,ht⟩:=hv.all
 refine CallR.intro hJ Kr fun c cs tail hret=>enter_X (n:=63) func50 U U (Nl U) ?_
 have C:Ctx prog main J (bf 50 .normal):=⟨hJ,by decide⟩
 refine Xr C U U<|R.box C U U U U fun p1=>R.asg C U U U<|R.asg C U U U<|Ad C U U<|Xr C U U<|R5 C U U isAgg27 sizeOf27 V Tk5<|R.callR C U U U U ((knownR_c hJ hvv hs 0)) fun v1 ro1 hl1 hq1=>?_
 obtain⟨vl,hL,rfl⟩:=hq1
 rw [known_two] at*
 obtain⟨lb,lc,rfl⟩:=hL.form
 refine Rm C U U<|R.ext C U U U U<|R.ext C U U U U<|R.asg C U U U<|Ad C U U<|Xs C<|Xr C U U<|Rm C U U<|R.int C U U U U b_neq<|R.done C<|X.cond C.1 U (fun h1=>?_) (fun h1=>?_)
 ·have h1:openH b 0≠0:=by simpa using h1
  refine Xr C U U<|Rm C U U<|R.asg C U U U<|R.asg C U U U<|Ad C U U<|X.ret C U U func50 U (by exact(.tmp U (.tmp U (.tmp U .nil))))<|Hr hret hl1 ?_
  rw [renewR,if_pos h1];exact⟨_,Ls.nil,rfl⟩
 ·have h1:openH b 0=0:=by simpa using h1
  obtain⟨hb,_,hne,hch⟩:=openH_good h1
  rw [renewR_eq hb hne h1] at hret
  have hng:=hb.ng
  have hnp:=hb.np
  have hnc:=hb.nc
  rw [known_zero h1] at hL
  rw [show(knownR b 0).1.length=(bearsL b).length by rw [known_zero h1]]
  simp only at hL
  refine X.skip C.1<|Xr C U U<|Rf C 1 U U runUnderlying27 U sizeOf22<|Rl C U U isAgg22 V U<|Rn C U U runUnderlying22<|Rf C 1 U U runUnderlying27 U sizeOf22<|Rl C U U isAgg22 V U<|Rn C U U runUnderlying22<|R.callR C U U U U (setsR_c hJ (n:=b.ps.length) (most:=(b.ps.length:Int)) O) fun v2 ro2 hl2 hq2=>?_
  have hsl:=sets_len (b.ps.length:Int) b.ps.length
  have hse:=sets_each (b.ps.length:Int) b.ps.length
  have hsr:=fun x=>(mem_sets (Int.le_refl (b.ps.length:Int)) (x:=x)).1
  have hpw:2^b.ps.length≤2^4:=Nat.pow_le_pow_right Dd O
  have hbo:=fun l=>bestO_law (renP b) l
  generalize sets (b.ps.length:Int) b.ps.length=S at hq2 hsl hse hsr hret
  obtain⟨sb,sc,rfl⟩:=hq2.form
  have hL2:=RO.le_trans hl1 hl2
  refine Ad C U U<|Xr C U U<|Ad C U U<|Xr C U U<|Ad C U U<|Xs C<|Xr C U U<|Ad C U U<|X.block C.1<|X.loopI (ι:=Nat×RO×Value×Option (List Int)) C.1 (fun s=>s.1≤S.length∧ro2.le s.2.1∧LsI s.2.1 s.2.2.1 (s.2.2.2.getD [])∧s.2.2.2=bestO (renP b) (S.take s.1)) (fun s=> [(1, .pointer (some ⟨p1,0,none⟩)),(5, .slice lb (bearsL b).length lc),(7, .slice sb S.length sc),(8,s.2.2.1),(9, .bool s.2.2.2.isSome),(10, .int .i64 (s.1:Int))]) (fun s=>⟨s.2.1,(p1, .cells [.int .i64 b.w, .slice pb b.ps.length pc, .slice gb b.gs.length gc, .slice cb b.cs.length cc, .slice tb b.ts.length tc].toArray 27 (0,0))::tail⟩) (fun s=>S.length-s.1) (0,ro2, .slice none 0 0,none) ⟨Nat.zero_le _,RO.le_refl _,Ls.nil,rfl⟩ U ⟨U,U,U,U,U,U,trivial⟩ fun s hs' hnext=>?_
  obtain⟨i,ro3,vz,q⟩:=s
  obtain⟨hi,hl3,hz,hq⟩:=hs'
  simp only at hi hl3 hz hq hnext⊢
  have hL3:=RO.le_trans hL2 hl3
  have hzz:=hz
  obtain⟨b9,c9,rfl⟩:=hz.form
  refine Xs C<|Xr C U U<|Rm C U U<|Rm C U U<|Rn C U U runUnderlying23<|R.int C U U U U b_lss<|R.done C<|Xk C U (fun hlt=>?_) (fun hlt=>?_)
  ·have hi':i<S.length:=O
   have hst:=bestO_take (renP b) S hi'
   rw [←hq] at hst
   have hql:(q.getD []).length≤4:=by
    rcases hbo (S.take i) with⟨h,_⟩|⟨y,h,h2,_⟩
    ·rw [hq,h];exact Nat.zero_le _
    ·rw [hq,h];have:=hse y (List.mem_of_mem_take h2);simp only [Option.getD_some];omega
   have hxl:=hse _ (List.getElem_mem hi')
   have hxr:=(hsr _ (List.getElem_mem hi')).2
   obtain⟨ap,ao,acap,al,aty,afq,hasl,haro,hasub⟩:=(hq2.mono hl3).at O
   cases hasl
   obtain⟨qb,qc,hqat,hqc,hqls⟩:=hasub i hi'
   generalize S[i]=x at hst hxl hxr hqat hqc hqls
   have hren:∀p∈(bearsL b).map (fun p=>renewedP p x),p.length=b.ps.length:=fun p hp=>by
    obtain⟨y,hy,rfl⟩:=List.mem_map.1 hp
    rw [renewedP_len];exact bearsL_len y hy
   obtain⟨r,hr⟩:∃r,r=((!q.isSome||smaller x (q.getD [])) && renP b x):=⟨_,rfl⟩
   have hst2:bestO (renP b) (S.take (i+1))=if r then some x else q:=by
    rw [hst,hr]
    cases renP b x
    ·simp
    ·cases q with
     |none=>rfl
     |some y=>simp [offer]
   refine X.skip C.1<|Xs C<|X.block C.1<|Xs C<|X.afterI (ι:=RO) (fun s=>ro3.le s) (fun _=> [(1, .pointer (some ⟨p1,0,none⟩)),(5, .slice lb (bearsL b).length lc),(7, .slice (some ⟨ap,ao,none⟩) S.length sc),(8, .slice b9 (q.getD []).length c9),(9, .bool q.isSome),(10, .int .i64 (i:Int)),(56, .bool r)]) (fun s=>⟨s,(p1, .cells [.int .i64 b.w, .slice pb b.ps.length pc, .slice gb b.gs.length gc, .slice cb b.cs.length cc, .slice tb b.ts.length tc].toArray 27 (0,0))::tail⟩) (fun ro4 hl4=>?_) (fun hcont=>?_)
   ·have haro4:=hl4 _ _ haro
    refine X.cond C.1 U (fun hyes=>?_) (fun hyes=>?_)
    ·rw [hyes,if_pos rfl] at hst2
     refine X.region C U U<|Rm C U U<|Rm C U U<|Rx C U U U runUnderlying23 sizeOf28<|R.loadOneRo C U U U isAgg28 haro4 hqat<|R.asg C U U U<|Ad C U U<|X.inBlock C.1<|X.region C U U<|Rm C U U<|Ra C U U U<|Ad C U U<|X.weaken ?_ (hnext (i+1,ro4,_,some x) ⟨hi',RO.le_trans hl3 hl4,hqls.mono hl4,hst2.symm⟩ (by simp only;omega))
     exact⟨rfl,rfl,rfl,rfl,rfl,by simp [look],trivial⟩
    ·rw [hyes,if_neg Dd] at hst2
     refine X.skip C.1<|X.inBlock C.1<|X.region C U U<|Rm C U U<|Ra C U U U<|Ad C U U<|X.weaken ?_ (hnext (i+1,ro4,_,q) ⟨hi',RO.le_trans hl3 hl4,hzz.mono hl4,hst2.symm⟩ (by simp only;omega))
     exact⟨rfl,rfl,rfl,rfl,rfl,by simp [look],trivial⟩
   ·have _:=hcont
    refine Xd C fun hok=>Dm C 0 hok U U U<|Dp 1 hok (fun _ _ _ A h=>R.not C U (A.w U U) (A.x U U) h)<|Dm C 2 hok U U U<|D.fix (t:=34) U (fun hgd=>?_) (fun hgd=>?_)
    ·have hrt:r=renP b x:=by rw [hr,hgd,Bool.true_or,Bool.true_and]
     refine Du C 3 hok U<|Du C 4 hok U<|Du C 5 hok U<|Du C 6 hok U<|Du C 7 hok U<|Du C 8 hok U<|Dp 9 hok (fun _ _ _ A h=>R.pickT C U (A.w U U) (A.x U U) (A.x U U) h)<|Dm C 10 hok U U U<|D5 C 11 hok U U isAgg27 sizeOf27 V Tk5<|Dm C 12 hok U U U<|Dm C 13 hok U U U<|Dm C 14 hok U U U<|Dx C 15 hok U U U runUnderlying23 sizeOf28<|D2 C 16 hok U U isAgg28 haro hqat<|Df (off':=2) C 19 hok U U U runUnderlying27 U sizeOf23 U<|D1 C 20 hok U U isAgg23 V U<|Ds C 21 hok U U runUnderlying23<|De 17 (some 49) [true,false,true] hok (fun _ _ A hk=>?_)
     refine R.callR C U (A.w U U) (A.x U U) (A.s U U) (renewedOfR_c hJ (hL.mono (RO.le_trans hl2 hl3)) hqls (bearsL_le hb) bearsL_len (m:=b.ps.length) O O hxr) fun v5 ro5 hl5 hq5=>hk _ _ ⟨(QFs.cons (QF.of U (fun _ _ A h=>R.loadOne C U (A.w U U) (A.x U U) isAgg23 V U h)) (QFs.cons (QF.of U (fun _ _ A h=>R.loadAgg C U (A.w U U) (A.x U U) isAgg27 sizeOf27 V Tk5 h)) QFs.nil)), ?_⟩
     refine De 18 (some 50) [true,false] hok (fun _ _ A hk=>?_)
     refine R.callR C U (A.w U U) (A.x U U) (A.s U U) (sureOnesR_c hJ (hvv.mono (RO.le_trans hL3 hl5)) hb hq5 (by rw [List.length_map];exact bearsL_le hb) hren) fun v6 ro6 hl6 hq6=>hk _ _ ⟨(QFs.cons (QF.of U (fun _ _ A h=>R.loadOne C U (A.w U U) (A.x U U) isAgg23 V U h)) QFs.nil), ?_⟩
     refine De 22 (some 54) [false] hok (fun _ _ A hk=>?_)
     refine R.callR C U (A.w U U) (A.x U U) (A.s U U) (uptoR_c hJ (n:=b.gs.length) O) fun v7 ro7 hl7 hq7=>hk _ _ ⟨QFs.nil, ?_⟩
     refine De 23 (some 55) [] hok (fun _ _ A hk=>?_)
     refine R.callP C U (A.w U U) (A.x U U) (A.s U U) (servedR_c hJ (hq6.mono hl7) hq7 (by rw [onesL_len];omega) (fun l hl=>by have:=onesL_each _ _ _ l hl;omega) (by rw [rz_len];omega)) (hk _ _ ⟨QFs.nil, ?_⟩)
     refine Dp 24 hok (fun _ _ _ A h=>R.pickT C U (A.w U U) (A.x U U) (A.x U U) h)<|D.done C hok Kr<|X.weaken ?_ (hcont ro7 (RO.le_trans hl5 (RO.le_trans hl6 hl7)))
     rw [hrt]
     exact⟨U,U,U,U,U,U,U,trivial⟩
    ·refine Dm C 3 hok U U U<|Dm C 4 hok U U U<|Dx C 5 hok U U U runUnderlying23 sizeOf28<|D2 C 6 hok U U isAgg28 haro hqat<|Dm C 7 hok U U U<|De 8 (some 40) [false] hok (fun _ _ A hk=>?_)
     refine R.callP C U (A.w U U) (A.x U U) (A.s U U) (smallerR_c hJ hqls hzz O O) (hk _ _ ⟨QFs.nil, ?_⟩)
     refine Dp 9 hok (fun _ _ _ A h=>R.pickF C U (A.w U U) (A.x U U) (A.x U U) h)<|Dm C 10 hok U U U<|D.fix (t:=42) U (fun hgd2=>?_) (fun hgd2=>?_)
     ·have hrt:r=renP b x:=by rw [hr,hgd,hgd2,Bool.or_true,Bool.true_and]
      refine D5 C 11 hok U U isAgg27 sizeOf27 V Tk5<|Dm C 12 hok U U U<|Dm C 13 hok U U U<|Dm C 14 hok U U U<|Dx C 15 hok U U U runUnderlying23 sizeOf28<|D2 C 16 hok U U isAgg28 haro hqat<|Df (off':=2) C 19 hok U U U runUnderlying27 U sizeOf23 U<|D1 C 20 hok U U isAgg23 V U<|Ds C 21 hok U U runUnderlying23<|De 17 (some 49) [true,false,true] hok (fun _ _ A hk=>?_)
      refine R.callR C U (A.w U U) (A.x U U) (A.s U U) (renewedOfR_c hJ (hL.mono (RO.le_trans hl2 hl3)) hqls (bearsL_le hb) bearsL_len (m:=b.ps.length) O O hxr) fun v5 ro5 hl5 hq5=>hk _ _ ⟨(QFs.cons (QF.of U (fun _ _ A h=>R.loadOne C U (A.w U U) (A.x U U) isAgg23 V U h)) (QFs.cons (QF.of U (fun _ _ A h=>R.loadAgg C U (A.w U U) (A.x U U) isAgg27 sizeOf27 V Tk5 h)) QFs.nil)), ?_⟩
      refine De 18 (some 50) [true,false] hok (fun _ _ A hk=>?_)
      refine R.callR C U (A.w U U) (A.x U U) (A.s U U) (sureOnesR_c hJ (hvv.mono (RO.le_trans hL3 hl5)) hb hq5 (by rw [List.length_map];exact bearsL_le hb) hren) fun v6 ro6 hl6 hq6=>hk _ _ ⟨(QFs.cons (QF.of U (fun _ _ A h=>R.loadOne C U (A.w U U) (A.x U U) isAgg23 V U h)) QFs.nil), ?_⟩
      refine De 22 (some 54) [false] hok (fun _ _ A hk=>?_)
      refine R.callR C U (A.w U U) (A.x U U) (A.s U U) (uptoR_c hJ (n:=b.gs.length) O) fun v7 ro7 hl7 hq7=>hk _ _ ⟨QFs.nil, ?_⟩
      refine De 23 (some 55) [] hok (fun _ _ A hk=>?_)
      refine R.callP C U (A.w U U) (A.x U U) (A.s U U) (servedR_c hJ (hq6.mono hl7) hq7 (by rw [onesL_len];omega) (fun l hl=>by have:=onesL_each _ _ _ l hl;omega) (by rw [rz_len];omega)) (hk _ _ ⟨QFs.nil, ?_⟩)
      refine Dp 24 hok (fun _ _ _ A h=>R.pickT C U (A.w U U) (A.x U U) (A.x U U) h)<|D.done C hok Kr<|X.weaken ?_ (hcont ro7 (RO.le_trans hl5 (RO.le_trans hl6 hl7)))
      rw [hrt]
      exact⟨U,U,U,U,U,U,U,trivial⟩
     ·have hrt:r=false:=by rw [hr,hgd,hgd2];rfl
      refine Du C 11 hok U<|Du C 12 hok U<|Du C 13 hok U<|Du C 14 hok U<|Du C 15 hok U<|Du C 16 hok U<|Du C 17 hok U<|Du C 18 hok U<|Du C 19 hok U<|Du C 20 hok U<|Du C 21 hok U<|Du C 22 hok U<|Du C 23 hok U<|Dp 24 hok (fun _ _ _ A h=>R.pickF C U (A.w U U) (A.x U U) (A.x U U) h)<|D.done C hok Kr<|X.weaken ?_ (hcont ro3 (RO.le_refl _))
      rw [hrt]
      exact⟨U,U,U,U,U,U,U,trivial⟩
  ·obtain rfl:i=S.length:=by omega
   rw [List.take_length] at hq
   refine X.exit C.1 U<|Xr C U U<|Rm C U U<|Rm C U U<|R.asg C U U U<|R.asg C U U U<|Ad C U U<|X.ret C U U func50 U (by exact(.tmp U (.tmp U (.tmp U .nil))))<|Hr hret hL3 ?_
   rw [←hq];exact⟨_,hzz,rfl⟩
end
end
section
def expand(one gs:List Int):List (List Int):=(one.filter fun g=> !gs.contains g).map fun g=>gs++ [g]
def bfs(ones:List (List Int))(all:List (List Int)):List (List Int):=ones.foldl (fun all one=>all.flatMap (expand one)) all
def dfs:List (List Int)→List Int→Option (List Int)
 | [],gs=>some gs
 |one::rest,gs=>(expand one gs).findSome? (dfs rest)
theorem findSome_flat{α β γ:Type}(f:α→List β)(h:β→Option γ):∀l:List α,(l.flatMap f).findSome? h=l.findSome? fun x=>(f x).findSome? h
 | []=>rfl
 |x::l=>by rw [List.flatMap_cons,List.findSome?_append,findSome_flat f h l,List.findSome?_cons];cases (f x).findSome? h<;>rfl
theorem bfs_head:∀ (ones all:List (List Int)),(bfs ones all).head? =all.findSome? (dfs ones)
 | [],all=>by cases all<;>rfl
 |one::ones,all=>by
  show(bfs ones (all.flatMap (expand one))).head? =_
  rw [bfs_head ones,findSome_flat];rfl
theorem findSome_pick{β:Type}(P:Nat→Bool)(Q:Int→Bool)(f:Int→List Int)(h:List Int→Option β)(h2:Nat→Option β):∀l:List Nat,(∀g∈l,(if P g && Q g then h (f g) else none)=h2 g)→((((l.filter P).map fun g:Nat=>(g:Int)).filter Q).map f).findSome? h=l.findSome? h2
 | [],_=>rfl
 |g::l,hh=>by
  have ih:=findSome_pick P Q f h h2 l fun x hx=>hh x (by simp [hx])
  have h0:=hh g Zi
  rw [List.findSome?_cons, ←h0, ←ih]
  cases hp:P g<;>cases hq:Q g<;>simp [List.filter_cons,hp,hq,List.findSome?_cons]
theorem sure_zero{b:Bk}(hb:b.good)(hne:cases b≠ []){g k:Nat}(hg:g<b.gs.length)(hk:k<b.cs.length):sure b 0 g k=true↔how (liftN b g (b.piece k).r (bearsL b)) (allN (b.piece k).r (bearsL b))=1:=by
 have h:=sure_how hb hne 0 hg hk
 have e:listOf b.ps.length 0= []:=List.eq_nil_iff_forall_not_mem.2 fun x hx=>by
  obtain⟨j,_,h,_⟩:=listOf_mem.1 hx
  simp at h
 rw [e] at h
 have e2:(bearsL b).map (fun p=>renewedP p [])=bearsL b:=by simp [renewedP]
 rwa [e2] at h
theorem dfs_share{b:Bk}(hb:b.good)(hne:cases b≠ []):∀ (r:Nat) (gs:List Int),gs.length+r=b.cs.length→dfs ((List.range' gs.length r).map fun k=>oneL b (bearsL b) k b.gs.length) gs=shareGo b.gs.length (sureM b 0) r gs
 |0,gs,_=>rfl
 |r+1,gs,hr=>by
  rw [List.range'_succ,List.map_cons,dfs,expand]
  have hdef:shareGo b.gs.length (sureM b 0) (r+1) gs=(List.range b.gs.length).findSome? fun g=>if sureM b 0 g gs.length && !decide ((g:Int)∈gs) then shareGo b.gs.length (sureM b 0) r (gs++ [(g:Int)]) else none:=rfl
  rw [hdef]
  unfold oneL
  refine findSome_pick _ _ _ _ _ _ fun g hg=>?_
  have hg:=List.mem_range.1 hg
  have hk:gs.length<b.cs.length:=O
  have ih:=dfs_share hb hne r (gs++ [(g:Int)]) (by rw [List.length_append,List.length_singleton];omega)
  rw [List.length_append,List.length_singleton] at ih
  have e1:(how (liftN b g (b.piece (gs.length:Nat)).r (bearsL b)) (allN (b.piece (gs.length:Nat)).r (bearsL b))==1)=sureM b 0 g gs.length:=by
   rw [Bool.eq_iff_iff,beq_iff_eq, ←sure_zero hb hne hg hk]
   simp only [sureM,Bool.and_eq_true,decide_eq_true_eq]
   exact⟨fun h=>⟨hg,hk,h⟩,fun h=>h.2.2⟩
  have e2:(!gs.contains (g:Int))= !decide ((g:Int)∈gs):=by simp
  rw [e1,e2]
  unfold oneL at ih
  rw [←ih]
theorem share_bfs{b:Bk}(hb:b.good)(hne:cases b≠ [])(h0:openH b 0=0):shareR b=((bfs (onesL b (bearsL b) b.cs.length) [[]]).head?,0):=by
 rw [shareR,if_neg (fun e=>e h0),bfs_head,onesL]
 have h:=dfs_share hb hne b.cs.length [] Zi
 rw [List.findSome?_cons,List.range_eq_range',List.length_nil.symm,h]
 cases shareGo b.gs.length (sureM b 0) b.cs.length []<;>rfl
theorem expand_len(one gs:List Int):(expand one gs).length≤one.length:=by
 unfold expand;rw [List.length_map];exact List.length_filter_le _ _
theorem bfs_take(ones:List (List Int)){i:Nat}(h:i<ones.length):bfs (ones.take (i+1)) [[]]=(bfs (ones.take i) [[]]).flatMap (expand ones[i]):=by
 unfold bfs;rw [List.take_succ_eq_append_getElem h,List.foldl_append];rfl
theorem flat_leY{m:Nat}(l:List (List Int))(f:List Int→List (List Int))(h:∀x,(f x).length≤m):(l.flatMap f).length≤l.length*m:=by
 induction l with
 |nil=>simp
 |cons x l ih=>have:=h x;rw [List.flatMap_cons,List.length_append,List.length_cons,Nat.succ_mul];omega
theorem bfs_bd(ones:List (List Int))(h:∀l∈ones,l.length≤3):∀i,i≤ones.length→(bfs (ones.take i) [[]]).length≤3^i∧∀x∈bfs (ones.take i) [[]],x.length=i
 |0,_=>⟨Nat.le_refl _,fun x hx=>by simp [bfs] at hx;simp [hx]⟩
 |i+1,hi=>by
  obtain⟨h1,h2⟩:=bfs_bd ones h i O
  rw [bfs_take ones O]
  refine⟨?_,fun x hx=>?_⟩
  ·have:=flat_leY (m:=3) (bfs (ones.take i) [[]]) (expand ones[i]) fun x=>Nat.le_trans (expand_len _ _) (h _ (List.getElem_mem _))
   rw [Nat.pow_succ];omega
  ·obtain⟨y,hy,hx⟩:=List.mem_flatMap.1 hx
   obtain⟨g,_,rfl⟩:=List.mem_map.1 hx
   rw [List.length_append,h2 y hy];rfl
section
variable {main:Bool}{J:Goroutine→Mem→Prop}(hJ:Closed prog main J)
include hJ
theorem shareRef_c{b:Bk}{v:Value}{ro:RO}(hv:BkV ro v b)(hs:b.short):CallR prog J (fnv 48) [v] ro (fun w ro'=>∃vl,LsI ro' vl ((shareR b).1.getD [])∧w= .tuple [vl, .bool (shareR b).1.isSome, .int .i64 (shareR b).2].toArray):=by
 have hvv:=hv
 obtain⟨pb,pc,gb,gc,cb,cc,tb,tc,rfl,hp,hg,hc,ht⟩:=hv.all
 refine CallR.intro hJ Kr fun c cs tail hret=>enter_X (n:=84) func48 U U (Nl U) ?_
 have C:Ctx prog main J (bf 48 .normal):=⟨hJ,by decide⟩
 refine Xr C U U<|R.box C U U U U fun p1=>R.asg C U U U<|R.asg C U U U<|Ad C U U<|Xr C U U<|R5 C U U isAgg27 sizeOf27 V Tk5<|R.callR C U U U U ((knownR_c hJ hvv hs 0)) fun v1 ro1 hl1 hq1=>?_
 obtain⟨vl,hL,rfl⟩:=hq1
 rw [known_two] at*
 obtain⟨lb,lc,rfl⟩:=hL.form
 refine Rm C U U<|R.ext C U U U U<|R.ext C U U U U<|R.asg C U U U<|Ad C U U<|Xs C<|Xr C U U<|Rm C U U<|R.int C U U U U b_neq<|R.done C<|X.cond C.1 U (fun h1=>?_) (fun h1=>?_)
 ·have h1:openH b 0≠0:=by simpa using h1
  refine Xr C U U<|Rm C U U<|R.asg C U U U<|R.asg C U U U<|Ad C U U<|X.ret C U U func48 U (by exact(.tmp U (.tmp U (.tmp U .nil))))<|Hr hret hl1 ?_
  rw [shareR,if_pos h1];exact⟨_,Ls.nil,rfl⟩
 ·have h1:openH b 0=0:=by simpa using h1
  obtain⟨hb,_,hne,hch⟩:=openH_good h1
  rw [share_bfs hb hne h1] at hret
  have hng:=hb.ng
  have hnc:=hb.nc
  rw [known_zero h1] at hL
  rw [show(knownR b 0).1.length=(bearsL b).length by rw [known_zero h1]]
  simp only at hL
  refine X.skip C.1<|Xr C U U<|R5 C U U isAgg27 sizeOf27 V Tk5<|Rm C U U<|R.callR C U U U U (sureOnesR_c hJ (hvv.mono hl1) hb hL (bearsL_le hb) bearsL_len) fun v2 ro2 hl2 hq2=>?_
  have hol:=onesL_len b (bearsL b) b.cs.length
  have hoe:=onesL_each b (bearsL b) b.cs.length
  generalize onesL b (bearsL b) b.cs.length=ones at hq2 hol hoe hret
  have hbd:=bfs_bd ones fun l hl=>by have:=hoe l hl;omega
  have ho0:=hq2
  obtain⟨op,oo,ocap,ol,oty,ofq,hosl,horo,hosub⟩:=hq2.at O
  cases hosl
  have hL2:=RO.le_trans hl1 hl2
  refine Ad C U U<|Xr C U U<|R.buildSlice C (vs:=_) U U (show pvals _ _=some (numbered 0 [_]) from rfl) U runUnderlying23 sizeOf28 zeroValue28 Dd (Cat.one U U) fun p24=>Ad C U U<|Xs C<|Xr C U U<|Ad C U U<|X.block C.1<|X.finish C.1 (enc:=fun z:Value×List Int=> [z.1]) (kk:=1) (e:=28) (xs:= [(.slice none 0 0, [])]) (fun _=>rfl) Dd (Buf.blk (cells:= [.slice none 0 0]) (spare:= []) (len:=1) (cap:=1) U U (Nat.le_refl _)) fun ro0 hl0 hls0=>X.drop C.1 (own':=tail) (List.sublist_cons_self _ _)<|X.loopI (ι:=Nat×RO×Value) C.1 (fun s=>s.1≤ones.length∧ro0.le s.2.1∧LsG s.2.1 s.2.2 (bfs (ones.take s.1) [[]])) (fun s=> [(7, .slice (some ⟨op,oo,none⟩) ones.length _),(8,s.2.2),(9, .int .i64 (s.1:Int))])
   (fun s=>⟨s.2.1,tail⟩) (fun s=>ones.length-s.1) (0,ro0, .slice (some ⟨p24,0,none⟩) 1 1) ⟨Nat.zero_le _,RO.le_refl _,_,hls0,rfl,fun z hz=>by simp at hz;subst hz;exact⟨Ls.nil,_,_,_,rfl,Nat.le_refl _⟩⟩ rfl ⟨U,U,U,trivial⟩ fun s hs hnext=>?_
  obtain⟨i,ro1',v1⟩:=s
  obtain⟨hi,hle1,hg1⟩:=hs
  simp only at hi hle1 hg1 hnext⊢
  have hLi:=RO.le_trans hL2 (RO.le_trans hl0 hle1)
  refine Xs C<|Xr C U U<|Rm C U U<|Rm C U U<|Rn C U U runUnderlying23<|R.int C U U U U b_lss<|R.done C<|Xk C U (fun hlt=>?_) (fun hlt=>?_)
  ·have hi':i<ones.length:=O
   have hstep:=bfs_take ones hi'
   obtain⟨hb1,hb2⟩:=hbd i hi
   have hp3:3^i≤3^3:=Nat.pow_le_pow_right Dd O
   have hone:=hoe _ (List.getElem_mem hi')
   obtain⟨ob,oc,hoat,hoc,hols⟩:=hosub i hi'
   generalize ones[i]=one at hstep hone hoat hoc hols
   generalize bfs (ones.take i) [[]]=all at hg1 hstep hb1 hb2
   have horo1:=RO.le_trans hl0 hle1 _ _ horo
   obtain⟨ab,ac,rfl⟩:=hg1.form
   refine X.skip C.1<|Xs C<|X.block C.1<|Xr C U U<|Ad C U U<|Xs C<|Xr C U U<|Ad C U U<|X.block C.1<|X.loopI (ι:=Nat×RO×Value×List (Value×List Int)×List (Nat×Obj)) C.1 (fun s=>s.1≤all.length∧ro1'.le s.2.1∧Buf 28 1 tail s.2.2.1 (s.2.2.2.1.flatMap fun z=> [z.1]) s.2.2.2.2∧s.2.2.2.1.map (·.2)=(all.take s.1).flatMap (expand one)∧∀z∈s.2.2.2.1,LsI s.2.1 z.1 z.2∧capOk z.1) (fun s=> [(7, .slice (some ⟨op,oo,none⟩) ones.length _),(8, .slice ab all.length ac),(9, .int .i64 (i:Int)),(10,s.2.2.1),(11, .int .i64 (s.1:Int))])
    (fun s=>⟨s.2.1,s.2.2.2.2⟩) (fun s=>all.length-s.1) (0,ro1', .slice none 0 0, [],tail) ⟨Nat.zero_le _,RO.le_refl _, .nil,rfl,fun _ h=>nomatch h⟩ rfl ⟨U,U,U,U,U,trivial⟩ fun s hs hnext2=>?_
   obtain⟨j,ro2',v2',zs2,own2⟩:=s
   obtain⟨hj,hle2,hb2',hzs2,hls2⟩:=hs
   simp only at hj hle2 hb2' hzs2 hls2 hnext2⊢
   refine Xs C<|Xr C U U<|Rm C U U<|Rm C U U<|Rn C U U runUnderlying23<|R.int C U U U U b_lss<|R.done C<|Xk C U (fun hlt2=>?_) (fun hlt2=>?_)
   ·have hj':j<all.length:=O
    obtain⟨ap,ao,acap,al,aty,afq,hasl,haro,hasub⟩:=hg1.at O
    cases hasl
    obtain⟨gb4,gc4,haat,hac,hals⟩:=hasub j hj'
    have hgt:(all.take (j+1)).flatMap (expand one)=(all.take j).flatMap (expand one)++expand one all[j]:=by rw [List.take_succ_eq_append_getElem hj',List.flatMap_append];simp
    have hgl:=flat_leY (m:=3) (all.take j) (expand one) fun x=>Nat.le_trans (expand_len _ _) O
    rw [List.length_take] at hgl
    have hxl:=hb2 _ (List.getElem_mem hj')
    generalize all[j]=gs at haat hac hals hgt hxl
    refine X.skip C.1<|Xs C<|X.block C.1<|Xr C U U<|Ad C U U<|X.block C.1<|X.loopI (ι:=Nat×RO×Value×List (Value×List Int)×List (Nat×Obj)) C.1 (fun s=>s.1≤one.length∧ro2'.le s.2.1∧Buf 28 1 tail s.2.2.1 (s.2.2.2.1.flatMap fun z=> [z.1]) s.2.2.2.2∧s.2.2.2.1.map (·.2)=(all.take j).flatMap (expand one)++expand (one.take s.1) gs∧∀z∈s.2.2.2.1,LsI s.2.1 z.1 z.2∧capOk z.1) (fun s=> [(7, .slice (some ⟨op,oo,none⟩) ones.length _),(8, .slice (some ⟨ap,ao,none⟩) all.length ac),(9, .int .i64 (i:Int)),(10,s.2.2.1),(11, .int .i64 (j:Int)),(12, .int .i64 (s.1:Int))])
     (fun s=>⟨s.2.1,s.2.2.2.2⟩) (fun s=>one.length-s.1) (0,ro2',v2',zs2,own2) ⟨Nat.zero_le _,RO.le_refl _,hb2',by simp [hzs2,expand],hls2⟩ rfl ⟨U,U,U,U,U,U,trivial⟩ fun s hs hnext3=>?_
    obtain⟨k,ro3,v3,zs3,own3⟩:=s
    obtain⟨hk,hle3,hb3,hzs3,hls3⟩:=hs
    simp only at hk hle3 hb3 hzs3 hls3 hnext3⊢
    have hlen3:=congrArg List.length hzs3
    rw [List.length_map,List.length_append] at hlen3
    have hel:=expand_len (one.take k) gs
    rw [List.length_take] at hel
    have hff3:(zs3.flatMap fun z:Value×List Int=> [z.1]).length=zs3.length:=by rw [flatMap_len (k:=1) (fun _=>rfl),Nat.mul_one]
    have horo3:=RO.le_trans hle2 hle3 _ _ horo1
    have haro3:=RO.le_trans hle2 hle3 _ _ haro
    have hals3:=hals.mono (RO.le_trans hle2 hle3)
    refine Xs C<|Xr C U U<|Rm C U U<|Rm C U U<|Rm C U U<|Rx C U U U runUnderlying23 sizeOf28<|R.loadOneRo C U U U isAgg28 horo3 hoat<|Rn C U U runUnderlying28<|R.int C U U U U b_lss<|R.done C<|Xk C U (fun hlt3=>?_) (fun hlt3=>?_)
    ·have hk':k<one.length:=O
     obtain⟨yp,yo,ycap,yl,yty,yfq,hysl,hyro,hysub⟩:=(hols.mono (RO.le_trans hl0 (RO.le_trans hle1 (RO.le_trans hle2 hle3)))).at ic_len O
     cases hysl
     have hyat:=ic_at hysub hk'
     have hyro3:=hyro
     have hst3:expand (one.take (k+1)) gs=expand (one.take k) gs++(if gs.contains one[k] then [] else [gs++ [one[k]]]):=by
      unfold expand
      rw [List.take_succ_eq_append_getElem hk',List.filter_append,List.map_append]
      congr 1
      cases hcc:gs.contains one[k]
      ·have hm:one[k]∉gs:=by simpa using hcc
       simp [List.filter_cons,hm]
      ·have hm:one[k]∈gs:=by simpa using hcc
       simp [List.filter_cons,hm]
     generalize one[k]=y at hyat hst3
     have hfl:=flat_len gs
     refine X.skip C.1<|Xs C<|X.block C.1<|Xs C<|Xd C fun hok=>Dm C 0 hok U U U<|Dm C 1 hok U U U<|Dx C 2 hok U U U runUnderlying23 sizeOf28<|D2 C 3 hok U U isAgg28 haro3 haat<|Dm C 4 hok U U U<|Dm C 5 hok U U U<|Dx C 6 hok U U U runUnderlying23 sizeOf28<|D2 C 7 hok U U isAgg28 horo3 hoat<|Dm C 8 hok U U U<|Dx C 9 hok U U U runUnderlying28 sizeOf3<|D2 C 10 hok U U isAgg3 hyro3 hyat<|De 11 (some 57) [false,false,false] hok (fun _ _ A hk=>?_)
     refine R.callP C U (A.w U U) (A.x U U) (A.s U U) (holdsR_c hJ hals3 O y) (hk _ _ ⟨QFs.nil, ?_⟩)
     refine Dp 12 hok (fun _ _ _ A h=>R.not C U (A.w U U) (A.x U U) h)<|D.done C hok Kr<|X.cond C.1 U (fun hnew=>?_) (fun hnew=>?_)
     ·have hnew:gs.contains y=false:=by simpa using hnew
      rw [hnew,if_neg Dd] at hst3
      refine Xd C fun hok=>Dm C 0 hok U U U<|Dm C 2 hok U U U<|Dm C 3 hok U U U<|Dx C 4 hok U U U runUnderlying23 sizeOf28<|D2 C 5 hok U U isAgg28 haro3 haat<|Dm C 7 hok U U U<|Dm C 8 hok U U U<|Dx C 9 hok U U U runUnderlying23 sizeOf28<|D2 C 10 hok U U isAgg28 horo3 hoat<|Dm C 11 hok U U U<|Dx C 12 hok U U U runUnderlying28 sizeOf3<|D2 C 13 hok U U isAgg3 hyro3 hyat<|D.eP2 (i:=1) (i':=14) (dst:=(some 60)) (dst':=(some 73)) [true,true,true] [false,false,true] hok U U Kr Kr Kr (fun _ _ A hk=>?_) (fun _ _ A hk=>?_)
      ·
       refine R.buildSlice C (vs:=_) U (A.w U U) (show pvals _ _=some (numbered 0 []) from(A.p U U)) U runUnderlying28 sizeOf3 zeroValue3 Dd (.nil) fun p60=>hk _ _ ⟨(QFs.cons (QF.of U (fun _ _ A h=>R.loadOneRo C U (A.w U U) (A.x U U) isAgg3 hyro3 hyat h)) (QFs.cons (QF.of U (fun _ _ A h=>R.loadOneRo C U (A.w U U) (A.x U U) isAgg28 horo3 hoat h)) (QFs.cons (QF.of U (fun _ _ A h=>R.loadOneRo C U (A.w U U) (A.x U U) isAgg28 haro3 haat h)) QFs.nil))), ?_⟩
       refine D.eP2 (i:=6) (i':=14) (dst:=(some 65)) (dst':=(some 73)) [true,true,false] [false,false,true] hok U U Kr Kr Kr (fun _ _ A hk=>?_) (fun _ _ A hk=>?_)
       ·
        refine R.appendH (kk:=1) C U (A.w U U) (A.x U U) (A.x U U) runUnderlying28 runUnderlying28 (fun _=>nofun) (show prog.info? 3=some Tryz.t3 by kernel_rfl) U U U Dd Dd (Buf.blk (tail:= []) (cells:= []) (spare:= []) (len:=0) (cap:=0) U U (Nat.le_refl _)) (hals3.rd ic_len) (ones_ic gs) (by simp only [List.length_nil];omega) U fun v' own' hb'=>hk _ _ ⟨(QFs.cons (QF.of U (fun _ _ A h=>R.loadOneRo C U (A.w U U) (A.x U U) isAgg3 hyro3 hyat h)) (QFs.cons (QF.of U (fun _ _ A h=>R.loadOneRo C U (A.w U U) (A.x U U) isAgg28 horo3 hoat h)) QFs.nil)), ?_⟩
        refine De 14 (some 73) [false,false] hok (fun _ _ A hk=>?_)
        refine R.buildSlice C (vs:=_) U (A.w U U) (show pvals _ _=some (numbered 0 [_]) from(A.p U U)) U runUnderlying28 sizeOf3 zeroValue3 Dd (Cat.one U U) fun p73=>hk _ _ ⟨QFs.nil, ?_⟩
        refine De 15 (some 74) [] hok (fun _ _ A hk=>?_)
        refine R.append1 (kk:=1) C U (A.w U U) (A.x U U) (A.x U U) runUnderlying28 runUnderlying28 (fun _=>nofun) (show prog.info? 3=some Tryz.t3 by kernel_rfl) U U U Dd Dd (hb'.app _) U U (by simp only [List.length_append,List.length_cons,List.length_nil];omega) fun v' own' hb'=>hk _ _ ⟨QFs.nil, ?_⟩
        refine De 16 (some 75) [] hok (fun _ _ A hk=>?_)
        have e3:([]++gs.flatMap ic)++ [Value.int .i64 y]=(gs++ [y]).flatMap ic:=by simp [List.flatMap_append,ic]
        rw [e3] at hb'
        have hco:=hb'.capOk
        refine R.finish C.1 ic_len Dd hb' fun ro4 hl4 hls4=>?_
        obtain⟨b4,c4,rfl⟩:=hls4.form
        refine R.buildSlice C (vs:=_) U (A.w U U) (show pvals _ _=some (numbered 0 [_]) from(A.p U U)) U runUnderlying23 sizeOf28 zeroValue28 Dd (Cat.one U U) fun p75=>hk _ _ ⟨QFs.nil, ?_⟩
        refine De 17 (some 76) [] hok (fun _ _ A hk=>?_)
        refine R.append1 (kk:=1) C U (A.w U U) (A.x U U) (A.x U U) runUnderlying23 runUnderlying23 (fun _=>nofun) (show prog.info? 28=some Tryz.t28 by kernel_rfl) U U U Dd Dd hb3 U U (by simp only [List.length_append,List.length_cons,List.length_nil];omega) fun v' own' hb'=>hk _ _ ⟨QFs.nil, ?_⟩
        refine Da C 18 hok U U<|D.done C hok Kr<|X.inBlock C.1<|X.region C U U<|Rm C U U<|Ra C U U U<|Ad C U U<|X.weaken ?_ (hnext3 (k+1,ro4,_,zs3++ [(.slice b4 (gs++ [y]).length c4,gs++ [y])],_) ⟨O,RO.le_trans hle3 hl4,by simpa [List.flatMap_append] using hb', ?_,fun z hz=>?_⟩ (by simp only;omega))
        ·exact⟨rfl,rfl,rfl,rfl,rfl,by simp [look],trivial⟩
        ·rw [List.map_append,hzs3,hst3,List.append_assoc];rfl
        ·rcases List.mem_append.1 hz with hz|hz
         ·exact⟨(hls3 z hz).1.mono hl4,(hls3 z hz).2⟩
         ·rw [List.mem_singleton.1 hz];exact⟨hls4,hco⟩
       ·
        refine R.buildSlice C (vs:=_) U (A.w U U) (show pvals _ _=some (numbered 0 [_]) from(A.p U U)) U runUnderlying28 sizeOf3 zeroValue3 Dd (Cat.one U U) fun p73=>hk _ _ ⟨(QFs.cons (QF.of U (fun _ _ A h=>R.loadOneRo C U (A.w U U) (A.x U U) isAgg28 haro3 haat h)) QFs.nil), ?_⟩
        refine De 6 (some 65) [false] hok (fun _ _ A hk=>?_)
        refine R.perm C.1 (List.Perm.swap _ _ _)<|R.appendH (kk:=1) C U (A.w U U) (A.x U U) (A.x U U) runUnderlying28 runUnderlying28 (fun _=>nofun) (show prog.info? 3=some Tryz.t3 by kernel_rfl) U U U Dd Dd (Buf.blk (tail:= []) (cells:= []) (spare:= []) (len:=0) (cap:=0) U U (Nat.le_refl _)) (hals3.rd ic_len) (ones_ic gs) (by simp only [List.length_nil];omega) U fun v' own' hb'=>hk _ _ ⟨QFs.nil, ?_⟩
        refine De 15 (some 74) [] hok (fun _ _ A hk=>?_)
        refine R.perm C.1 (List.perm_middle (l₁:=own') (a:=(p73, .cells [.int .i64 y].toArray 3 (0,0))) (l₂:=own3))<|R.append1 (kk:=1) C U (A.w U U) (A.x U U) (A.x U U) runUnderlying28 runUnderlying28 (fun _=>nofun) (show prog.info? 3=some Tryz.t3 by kernel_rfl) U U U Dd Dd (hb'.app _) U U (by simp only [List.length_append,List.length_cons,List.length_nil];omega) fun v' own' hb'=>hk _ _ ⟨QFs.nil, ?_⟩
        refine De 16 (some 75) [] hok (fun _ _ A hk=>?_)
        have e3:([]++gs.flatMap ic)++ [Value.int .i64 y]=(gs++ [y]).flatMap ic:=by simp [List.flatMap_append,ic]
        rw [e3] at hb'
        have hco:=hb'.capOk
        refine R.finish C.1 ic_len Dd hb' fun ro4 hl4 hls4=>?_
        obtain⟨b4,c4,rfl⟩:=hls4.form
        refine R.buildSlice C (vs:=_) U (A.w U U) (show pvals _ _=some (numbered 0 [_]) from(A.p U U)) U runUnderlying23 sizeOf28 zeroValue28 Dd (Cat.one U U) fun p75=>hk _ _ ⟨QFs.nil, ?_⟩
        refine De 17 (some 76) [] hok (fun _ _ A hk=>?_)
        refine R.append1 (kk:=1) C U (A.w U U) (A.x U U) (A.x U U) runUnderlying23 runUnderlying23 (fun _=>nofun) (show prog.info? 28=some Tryz.t28 by kernel_rfl) U U U Dd Dd hb3 U U (by simp only [List.length_append,List.length_cons,List.length_nil];omega) fun v' own' hb'=>hk _ _ ⟨QFs.nil, ?_⟩
        refine Da C 18 hok U U<|D.done C hok Kr<|X.inBlock C.1<|X.region C U U<|Rm C U U<|Ra C U U U<|Ad C U U<|X.weaken ?_ (hnext3 (k+1,ro4,_,zs3++ [(.slice b4 (gs++ [y]).length c4,gs++ [y])],_) ⟨O,RO.le_trans hle3 hl4,by simpa [List.flatMap_append] using hb', ?_,fun z hz=>?_⟩ (by simp only;omega))
        ·exact⟨rfl,rfl,rfl,rfl,rfl,by simp [look],trivial⟩
        ·rw [List.map_append,hzs3,hst3,List.append_assoc];rfl
        ·rcases List.mem_append.1 hz with hz|hz
         ·exact⟨(hls3 z hz).1.mono hl4,(hls3 z hz).2⟩
         ·rw [List.mem_singleton.1 hz];exact⟨hls4,hco⟩
      ·
       refine R.buildSlice C (vs:=_) U (A.w U U) (show pvals _ _=some (numbered 0 [_]) from(A.p U U)) U runUnderlying28 sizeOf3 zeroValue3 Dd (Cat.one U U) fun p73=>hk _ _ ⟨(QFs.cons (QF.of U (fun _ _ A h=>R.loadOneRo C U (A.w U U) (A.x U U) isAgg28 haro3 haat h)) QFs.nil), ?_⟩
       refine De 1 (some 60) [true] hok (fun _ _ A hk=>?_)
       refine R.buildSlice C (vs:=_) U (A.w U U) (show pvals _ _=some (numbered 0 []) from(A.p U U)) U runUnderlying28 sizeOf3 zeroValue3 Dd (.nil) fun p60=>hk _ _ ⟨(QFs.cons (QF.of U (fun _ _ A h=>R.loadOneRo C U (A.w U U) (A.x U U) isAgg28 haro3 haat h)) QFs.nil), ?_⟩
       refine De 6 (some 65) [false] hok (fun _ _ A hk=>?_)
       refine R.appendH (kk:=1) C U (A.w U U) (A.x U U) (A.x U U) runUnderlying28 runUnderlying28 (fun _=>nofun) (show prog.info? 3=some Tryz.t3 by kernel_rfl) U U U Dd Dd (Buf.blk (tail:= []) (cells:= []) (spare:= []) (len:=0) (cap:=0) U U (Nat.le_refl _)) (hals3.rd ic_len) (ones_ic gs) (by simp only [List.length_nil];omega) U fun v' own' hb'=>hk _ _ ⟨QFs.nil, ?_⟩
       refine De 15 (some 74) [] hok (fun _ _ A hk=>?_)
       refine R.perm C.1 (List.perm_middle (l₁:=own') (a:=(p73, .cells [.int .i64 y].toArray 3 (0,0))) (l₂:=own3))<|R.append1 (kk:=1) C U (A.w U U) (A.x U U) (A.x U U) runUnderlying28 runUnderlying28 (fun _=>nofun) (show prog.info? 3=some Tryz.t3 by kernel_rfl) U U U Dd Dd (hb'.app _) U U (by simp only [List.length_append,List.length_cons,List.length_nil];omega) fun v' own' hb'=>hk _ _ ⟨QFs.nil, ?_⟩
       refine De 16 (some 75) [] hok (fun _ _ A hk=>?_)
       have e3:([]++gs.flatMap ic)++ [Value.int .i64 y]=(gs++ [y]).flatMap ic:=by simp [List.flatMap_append,ic]
       rw [e3] at hb'
       have hco:=hb'.capOk
       refine R.finish C.1 ic_len Dd hb' fun ro4 hl4 hls4=>?_
       obtain⟨b4,c4,rfl⟩:=hls4.form
       refine R.buildSlice C (vs:=_) U (A.w U U) (show pvals _ _=some (numbered 0 [_]) from(A.p U U)) U runUnderlying23 sizeOf28 zeroValue28 Dd (Cat.one U U) fun p75=>hk _ _ ⟨QFs.nil, ?_⟩
       refine De 17 (some 76) [] hok (fun _ _ A hk=>?_)
       refine R.append1 (kk:=1) C U (A.w U U) (A.x U U) (A.x U U) runUnderlying23 runUnderlying23 (fun _=>nofun) (show prog.info? 28=some Tryz.t28 by kernel_rfl) U U U Dd Dd hb3 U U (by simp only [List.length_append,List.length_cons,List.length_nil];omega) fun v' own' hb'=>hk _ _ ⟨QFs.nil, ?_⟩
       refine Da C 18 hok U U<|D.done C hok Kr<|X.inBlock C.1<|X.region C U U<|Rm C U U<|Ra C U U U<|Ad C U U<|X.weaken ?_ (hnext3 (k+1,ro4,_,zs3++ [(.slice b4 (gs++ [y]).length c4,gs++ [y])],_) ⟨O,RO.le_trans hle3 hl4,by simpa [List.flatMap_append] using hb', ?_,fun z hz=>?_⟩ (by simp only;omega))
       ·exact⟨rfl,rfl,rfl,rfl,rfl,by simp [look],trivial⟩
       ·rw [List.map_append,hzs3,hst3,List.append_assoc];rfl
       ·rcases List.mem_append.1 hz with hz|hz
        ·exact⟨(hls3 z hz).1.mono hl4,(hls3 z hz).2⟩
        ·rw [List.mem_singleton.1 hz];exact⟨hls4,hco⟩
     ·have hnew:gs.contains y=true:=by simpa using hnew
      rw [hnew,if_pos rfl,List.append_nil] at hst3
      refine X.skip C.1<|X.inBlock C.1<|X.region C U U<|Rm C U U<|Ra C U U U<|Ad C U U<|X.weaken ?_ (hnext3 (k+1,ro3,v3,zs3,own3) ⟨hk',hle3,hb3,by rw [hzs3,hst3],hls3⟩ (by simp only;omega))
      exact⟨rfl,rfl,rfl,rfl,rfl,by simp [look],trivial⟩
    ·obtain rfl:k=one.length:=by omega
     rw [List.take_length, ←hgt] at hzs3
     refine X.exit C.1 U<|X.inBlock C.1<|X.region C U U<|Rm C U U<|Ra C U U U<|Ad C U U<|X.weaken ?_ (hnext2 (j+1,ro3,v3,zs3,own3) ⟨hj',RO.le_trans hle2 hle3,hb3,hzs3,hls3⟩ (by simp only;omega))
     exact⟨rfl,rfl,rfl,rfl,by simp [look],trivial⟩
   ·obtain rfl:j=all.length:=by omega
    rw [List.take_length, ←hstep] at hzs2
    refine X.exit C.1 U<|X.region C U U<|R.finish C.1 (enc:=fun z:Value×List Int=> [z.1]) (fun _=>rfl) Dd hb2' fun ro3 hl3 hls3=>Rm C U U<|Ad C U U<|X.inBlock C.1<|X.region C U U<|Rm C U U<|Ra C U U U<|Ad C U U<|X.weaken ?_ (hnext (i+1,ro3,v2') ⟨hi',RO.le_trans hle1 (RO.le_trans hle2 hl3),zs2,hls3,hzs2,fun z hz=>⟨(hls2 z hz).1.mono hl3,(hls2 z hz).2⟩⟩ (by simp only;omega))
    exact⟨rfl,rfl,by simp [look],trivial⟩
  ·obtain rfl:i=ones.length:=by omega
   have hbe:=hbd ones.length (Nat.le_refl _)
   rw [List.take_length] at hg1 hbe
   generalize bfs ones [[]]=all at hg1 hbe hret
   obtain⟨ab,ac,rfl⟩:=hg1.form
   refine X.exit C.1 U<|Xs C<|Xr C U U<|Rm C U U<|Rn C U U runUnderlying23<|R.int C U U U U b_eql<|R.done C<|X.cond C.1 U (fun hz=>?_) (fun hz=>?_)
   ·have hz:all= []:=List.length_eq_zero_iff.1 (by simpa using hz)
    refine Xr C U U<|R.asg C U U U<|R.asg C U U U<|Ad C U U<|X.ret C U U func48 U (by exact(.tmp U (.tmp U (.tmp U .nil))))<|hret _ _ _ hLi (by repeat (first|exact List.Sublist.refl _|apply List.Sublist.cons|apply List.sublist_append_of_sublist_right)) ?_
    rw [hz];exact⟨_,Ls.nil,rfl⟩
   ·cases all with
    |nil=>simp at hz
    |cons gs all=>
     obtain⟨ap,ao,acap,al,aty,afq,hasl,haro,hasub⟩:=hg1.at Zi
     cases hasl
     obtain⟨gb4,gc4,haat,hac,hals⟩:=hasub 0 Zi
     have hl0:0<(gs::all).length:=by simp
     refine X.skip C.1<|Xr C U U<|Rm C U U<|Rx C U U U runUnderlying23 sizeOf28<|R.loadOneRo C U U U isAgg28 haro haat<|R.asg C U U U<|R.asg C U U U<|Ad C U U<|X.ret C U U func48 U (by exact(.tmp U (.tmp U (.tmp U .nil))))<|hret _ _ _ hLi (by repeat (first|exact List.Sublist.refl _|apply List.Sublist.cons|apply List.sublist_append_of_sublist_right)) ?_
     exact⟨_,hals,rfl⟩
end
end
section
theorem fewestOf_len(n:Nat)(is:Nat→Bool):((fewestOf n is).getD []).length≤n:=by
 by_cases h:∃m,m<2^n∧is m=true
 ·obtain⟨m,h1,h2⟩:=h
  obtain⟨y,h3,⟨m',_,_,rfl⟩,_⟩:=fewestOf_some h1 h2
  rw [h3];exact listOf_len m' n 0
 ·rw [fewestOf_none fun m hm=>by
   cases e:is m
   ·rfl
   ·exact absurd ⟨m,hm,e⟩ h]
  exact Nat.zero_le _
theorem sameInts_self5(l:List Int):sameInts l l=true:=by rw [sameInts_iff];simp
theorem shareR_len5{b:Bk}:((shareR b).1.getD []).length≤1000000:=by
 by_cases h0:openH b 0=0
 ·obtain⟨hb,_,hne,hch⟩:=openH_good h0
  rw [share_bfs hb hne h0]
  have hol:=onesL_len b (bearsL b) b.cs.length
  have hbd:=(bfs_bd (onesL b (bearsL b) b.cs.length) (fun l hl=>by have:=onesL_each _ _ _ l hl;have:=hb.ng;omega) _ (Nat.le_refl _)).2
  rw [List.take_length] at hbd
  have hnc:=hb.nc
  cases hh:bfs (onesL b (bearsL b) b.cs.length) [[]] with
  |nil=>exact Nat.zero_le _
  |cons x l=>
   have:=hbd x (by rw [hh];exact List.mem_cons_self)
   show x.length≤_
   omega
 ·rw [shareR,if_pos h0];exact Nat.zero_le _
theorem fewestR_len5{b:Bk}:((fewestR b).1.getD []).length≤1000000:=by
 by_cases h0:openH b 0=0
 ·have:=(openH_good h0).1.ng
  rw [fewestR,if_neg (fun e=>e h0)]
  exact Nat.le_trans (fewestOf_len _ _) O
 ·rw [fewestR,if_pos h0];exact Nat.zero_le _
theorem renewR_len5{b:Bk}:((renewR b).1.getD []).length≤1000000:=by
 by_cases h0:openH b 0=0
 ·have:=(openH_good h0).1.np
  rw [renewR,if_neg (fun e=>e h0)]
  exact Nat.le_trans (fewestOf_len _ _) O
 ·rw [renewR,if_pos h0];exact Nat.zero_le _
theorem gears_root{b:Bk}{vb:Value}{ro:RO}(he:Env ro)(hv:BkV ro vb b):Root prog 5 [vb] ro (fun w _=>w= .bool true):=by
 intro Post hret
 have hJ:Closed prog true (JM prog (Go.Conc.Good prog Post)):=JM.closed
 have hvv:=hv
 obtain⟨pb,pc,gb,gc,cb,cc,tb,tc,rfl,hp,hg,hc,ht⟩:=hv.all
 let main:=true
 let J:=JM prog (Go.Conc.Good prog Post)
 refine enter_X (n:=92) func5 U U (Nl U) ?_
 have C:Ctx prog main J (bf 5 .normal):=⟨hJ,by decide⟩
 refine Xr C U U<|R.box C U U U U fun p1=>Ad C U U<|Xs C<|Xr C U U<|R5 C U U isAgg27 sizeOf27 V Tk5<|R.callP C U U U U (greatR_c hJ hvv)<|R.done C<|X.cond C.1 U (fun hfit=>?_) (fun hfit=>?_)
 ·refine Xr C U U<|R.callR C U U U U ((hoisted_c _ he)) fun v9 ro9 hl9 hq9=>Ad C U U<|X.ret0 C Kr U U func5 U (by exact(.tmp U .nil)) fun w9 hs9=>hret _ _ _ hl9 ?_ w9 hs9
  exact hq9
 ·have hsh:=short_of hfit
  have hlf:=fewestR_len5 (b:=b)
  have hls:=shareR_len5 (b:=b)
  have hlr:=renewR_len5 (b:=b)
  refine X.skip C.1<|Xr C U U<|R5 C U U isAgg27 sizeOf27 V Tk5<|R.callR C U U U U (fewestG_c he hvv hsh) fun v1 ro1 hl1 hq1=>?_
  obtain⟨w1,y1,rfl⟩:=hq1
  obtain⟨_,_,rfl⟩:=y1.form
  refine Rm C U U<|R.ext C U U U U<|R.ext C U U U U<|R.ext C U U U U<|R.asg C U U U<|R.asg C U U U<|Ad C U U<|Xr C U U<|R5 C U U isAgg27 sizeOf27 V Tk5<|R.callR C U U U U (fewestRef_c hJ (hvv.mono hl1) hsh) fun v2 ro2 hl2 hq2=>?_
  obtain⟨w2,y2,rfl⟩:=hq2
  obtain⟨_,_,rfl⟩:=y2.form
  refine Rm C U U<|R.ext C U U U U<|R.ext C U U U U<|R.ext C U U U U<|R.asg C U U U<|R.asg C U U U<|Ad C U U<|Xs C<|Xr C U U<|Rm C U U<|Rm C U U<|R.callP C U U U U (sameInts_c hJ (y1.mono hl2) y2 hlf hlf)<|R.not C U U U<|R.fixv (t:=27) (v':= .bool false) U (by(rw [sameInts_self5];rfl))<|Rm C U U<|Rm C U U<|Rm C U U<|R.neBool C U U U U runUnderlying4<|R.fixv (t:=31) (v':= .bool false) U (Bv (by simp)) ?_;refine R.pickF C U U U U<|Rm C U U<|Rm C U U<|Rm C U U<|R.int C U U U U b_neq<|R.fixv (t:=36) (v':= .bool false) U (Bv (by simp)) ?_;refine R.pickF C U U U U<|R.done C<|X.cond C.1 U (fun h=>nomatch h) (fun _=>?_)
  refine X.skip C.1<|Xr C U U<|R5 C U U isAgg27 sizeOf27 V Tk5<|R.callR C U U U U (share_c (he.mono (RO.le_trans hl1 hl2)) (hvv.mono (RO.le_trans hl1 hl2)) hsh) fun v3 ro3 hl3 hq3=>?_
  obtain⟨w3,y3,rfl⟩:=hq3
  obtain⟨_,_,rfl⟩:=y3.form
  refine Rm C U U<|R.ext C U U U U<|R.ext C U U U U<|R.ext C U U U U<|R.asg C U U U<|R.asg C U U U<|Ad C U U<|Xr C U U<|R5 C U U isAgg27 sizeOf27 V Tk5<|R.callR C U U U U (shareRef_c hJ (hvv.mono (RO.le_trans hl1 (RO.le_trans hl2 hl3))) hsh) fun v4 ro4 hl4 hq4=>?_
  obtain⟨w4,y4,rfl⟩:=hq4
  obtain⟨_,_,rfl⟩:=y4.form
  refine Rm C U U<|R.ext C U U U U<|R.ext C U U U U<|R.ext C U U U U<|R.asg C U U U<|R.asg C U U U<|Ad C U U<|Xs C<|Xr C U U<|Rm C U U<|Rm C U U<|R.callP C U U U U (sameInts_c hJ (y3.mono hl4) y4 hls hls)<|R.not C U U U<|R.fixv (t:=53) (v':= .bool false) U (by(rw [sameInts_self5];rfl))<|Rm C U U<|Rm C U U<|Rm C U U<|R.neBool C U U U U runUnderlying4<|R.fixv (t:=57) (v':= .bool false) U (Bv (by simp)) ?_;refine R.pickF C U U U U<|Rm C U U<|Rm C U U<|Rm C U U<|R.int C U U U U b_neq<|R.fixv (t:=62) (v':= .bool false) U (Bv (by simp)) ?_;refine R.pickF C U U U U<|R.done C<|X.cond C.1 U (fun h=>nomatch h) (fun _=>?_)
  refine X.skip C.1<|Xr C U U<|R5 C U U isAgg27 sizeOf27 V Tk5<|R.callR C U U U U (renew_c (he.mono (RO.le_trans hl1 (RO.le_trans hl2 (RO.le_trans hl3 hl4)))) (hvv.mono (RO.le_trans hl1 (RO.le_trans hl2 (RO.le_trans hl3 hl4)))) hsh) fun v5 ro5 hl5 hq5=>?_
  obtain⟨w5,y5,rfl⟩:=hq5
  obtain⟨_,_,rfl⟩:=y5.form
  refine Rm C U U<|R.ext C U U U U<|R.ext C U U U U<|R.ext C U U U U<|R.asg C U U U<|R.asg C U U U<|Ad C U U<|Xr C U U<|R5 C U U isAgg27 sizeOf27 V Tk5<|R.callR C U U U U (renewRef_c hJ (hvv.mono (RO.le_trans hl1 (RO.le_trans hl2 (RO.le_trans hl3 (RO.le_trans hl4 hl5))))) hsh) fun v6 ro6 hl6 hq6=>?_
  obtain⟨w6,y6,rfl⟩:=hq6
  obtain⟨_,_,rfl⟩:=y6.form
  refine Rm C U U<|R.ext C U U U U<|R.ext C U U U U<|R.ext C U U U U<|R.asg C U U U<|R.asg C U U U<|Ad C U U<|Xr C U U<|Rm C U U<|Rm C U U<|R.callP C U U U U (sameInts_c hJ (y5.mono hl6) y6 hlr hlr) ?_
  rw [sameInts_self5]
  refine Rm C U U<|R.fixv (t:=79) (v':= .bool true) U (by rfl)<|Rm C U U<|Rm C U U<|R.eqBool C U U U U runUnderlying4<|R.fixv (t:=82) (v':= .bool true) U (Bv (by simp)) ?_;refine R.pickT C U U U U<|Rm C U U<|Rm C U U<|Rm C U U<|R.int C U U U U b_eql<|R.fixv (t:=87) (v':= .bool true) U (Bv (by simp)) ?_;refine R.pickT C U U U U<|Rm C U U<|R.callR C U U U U ((hoisted_c _ (he.mono (RO.le_trans hl1 (RO.le_trans hl2 (RO.le_trans hl3 (RO.le_trans hl4 (RO.le_trans hl5 hl6)))))))) fun v13 ro7 hl7 hq13=>R.pickT C U U U U<|Ad C U U<|X.ret0 C Kr U U func5 U (by exact(.tmp U .nil)) fun w9 hs9=>hret _ _ _ (RO.le_trans hl1 (RO.le_trans hl2 (RO.le_trans hl3 (RO.le_trans hl4 (RO.le_trans hl5 (RO.le_trans hl6 hl7)))))) ?_ w9 hs9
  exact hq13
end
end Go.Lg.B
namespace Go.Lg.B
open Go Go.Proofs Go.Proofs.YtchjgmkeemdhlaaGreatDoor Go.Proofs.Tryz
theorem gears_k1:(Rows.tackleGearsRow.inPlace==prog.inPlace 5)=true:=by kernel_rfl
theorem gears_k2:(Rows.tackleGearsRow.unfollowed==prog.unfollowed 5)=true:=by kernel_rfl
theorem gears_k3:(Rows.tackleGearsRow.recurses==prog.recurses 5)=true:=by kernel_rfl
theorem gears_k4:(Rows.tackleGearsRow.named==prog.varsNamed 5)=true:=by kernel_rfl
theorem gears_name:prog.funcNamed "lagan/laganlaw07.TackleGears" =some 5:=by kernel_rfl
theorem gears_goes:true=Rows.tackleGearsRow.goesBy prog:=by kernel_rfl
theorem gears_wf:Rows.tackleGearsRow.wfByText (OpenSpec.ofChange Rows.tackleGearsSpec)=true:=by kernel_rfl
theorem gears_facts:joinedFacts prog 5 Tryz.f5 Rows.tackleGearsSpec Rows.tackleGearsRow=true:=by
 unfold joinedFacts
 exact(and_mk (and_mk (and_mk (and_mk (and_mk (and_mk (and_mk (and_mk (and_mk (and_mk (and_mk (and_mk (and_mk (and_mk (and_mk (and_mk (and_mk (and_mk (and_mk (and_mk (and_mk (and_mk (and_mk (and_mk (and_mk (and_mk (and_mk (and_mk (and_mk (and_mk (and_mk (by as_aux_lemma=>kernel_rfl)
  k_lo)
  k_mr)
  (by as_aux_lemma=>kernel_rfl))
  (by as_aux_lemma=>kernel_rfl))
  (by as_aux_lemma=>kernel_rfl))
  k_stops)
  (by as_aux_lemma=>kernel_rfl))
  k_knobs)
  gears_k1)
  gears_k2)
  gears_k3)
  gears_k4)
  (by as_aux_lemma=>kernel_rfl))
  (by as_aux_lemma=>kernel_rfl))
  (by as_aux_lemma=>kernel_rfl))
  (by as_aux_lemma=>kernel_rfl))
  (by as_aux_lemma=>kernel_rfl))
  (by as_aux_lemma=>kernel_rfl))
  (by as_aux_lemma=>kernel_rfl))
  (by as_aux_lemma=>kernel_rfl))
  (by as_aux_lemma=>kernel_rfl))
  (beq_iff_eq.2 k_pk.symm))
  (by as_aux_lemma=>kernel_rfl))
  k_heard)
  k_may)
  (beq_iff_eq.2 k_lift.symm))
  (beq_iff_eq.2 k_make))
  (by as_aux_lemma=>kernel_rfl))
  (by as_aux_lemma=>kernel_rfl))
  (by as_aux_lemma=>kernel_rfl))
  (by as_aux_lemma=>kernel_rfl))
end Go.Lg.B
namespace Go.Proofs.YtchjgmkeemdhlaaGreatDoor
open Go Go.Conc Go.Lg Go.Lg.B Go.ChangeShapes Go.RowKit Go.WideShapes
theorem gears_lifted(os:Os)(started:os.Started)(H:Type)(enc:TypeId×Value→H):
  ReturnsInLeavingWide {} Tryz.checked os 5 .any (fun w args=>(Rows.tackleGearsSpec.pre enc Tryz.prog Tryz.f5 [] false w args∧laidMetH Tryz.prog laid1 w)∧sizedMet enc Tryz.prog Tryz.f5 (OpenSpec.ofChange Rows.tackleGearsSpec) false w args)
   (Rows.tackleGearsSpec.post enc Tryz.prog Tryz.f5 false true false false):=by
 refine leaving_of_root (C:=Tryz.checked) (tb:=4) (X:=fun w _=>laidMetH Tryz.prog laid1 w) (fun _ _ _ hh h=>h.of_heap hh) own0 started Tryz.func5 laid0 (by
   intro t ht
   rw [Tryz.params5] at ht
   have hm:t∈ [27]:=ht
   have hall:([27].all fun u=>Tryz.prog.readableRec u && decide (u<Tryz.prog.types.size))=true:=by kernel_rfl
   have:=List.all_eq_true.1 hall t hm
   rw [Bool.and_eq_true,decide_eq_true_eq] at this
   exact this) rfl Kr Tryz.underlying4
  (ChangeSpec.witness_shaped (enc:=enc) (C:=Tryz.checked) (os:=os) (X:=fun w _=>laidMetH Tryz.prog laid1 w) false (World.doorLaid Tryz.prog 89 os) #[.agg #[.int .i64 0, .slice none 0 0, .slice none 0 0, .slice none 0 0, .slice none 0 0]] 8 rfl (door_shaped os _) Kr Kr Kr (door_met os _)) ?_
 intro W base args ds gs before hval hW _ _ hL
 obtain⟨p,q,hA,hV,rfl,_,_⟩:=hW
 obtain⟨rfl,rfl⟩:=trodVars_none hV
 have hA:DataW.TrodAll enc Tryz.prog W 0 (fun _=>true) true Tryz.f5.params.toList args.toList ds p:=hA
 have hval:∀ (j:Nat) t v,Tryz.f5.params[j]? =some t→args[j]? =some v→Value.okWide Tryz.prog W .any base t v:=hval
 rw [Tryz.params5] at hA hval
 obtain⟨v1,l1,d1,k1,p1,q1,e1,rfl,rfl,h1,hA⟩:=trodAll_cons hA
 obtain⟨rfl,rfl,rfl⟩:=trodAll_nil hA
 have ea:args= #[v1]:=Array.toList_inj.1 e1
 subst ea
 obtain⟨b,b1⟩:=argBk (hval 0 27 v1 rfl rfl) h1
 exact⟨rfl,gears_root (env_of_laid hL) b1⟩
theorem gears_row:Rows.TackleGearsSaid:=
 OpenClaim.holds_of_wide_leaving 5 Tryz.f5 rfl rfl rfl rfl rfl rfl rfl ⟨rfl,rfl,rfl,rfl,rfl⟩ rfl rfl rfl rfl rfl gears_name Tryz.func5 gears_facts
  (of_decide_eq_true Kr) (by unfold Func.isWrapper;first|(rw [if_pos (by decide+kernel)];kernel_rfl)|(rw [if_neg (by decide+kernel)];exact⟨rfl,rfl⟩))
  (fun os started H enc _=>gears_lifted os started H enc)
theorem gears_holds:Rows.TackleGearsCardSaid:=
 card_goes .later [.funcs] true (true, "6ec45924a9ef3528b91853e2f3d4ce9a8ac3f7423f5bdc8d9ecf7c969235976f") true
  gears_row gears_wf tackleGears_row_tie rfl ⟨rfl,rfl⟩ k_main rfl
  (fun f fn hf hfn=>by
   obtain rfl:f=5:=Option.some.inj (gears_name.symm.trans hf)|>.symm
   obtain rfl:fn=Tryz.f5:=(Option.some.inj (Tryz.func5.symm.trans hfn)).symm
   exact⟨k_looks,fun j t ht=>by
    rw [Tryz.params5] at ht
    have hm:t∈ [27]:=by simpa using Array.mem_of_getElem? ht
    have hall:([27].all fun u=> !Tryz.prog.wantsStandIn u)=true:=by kernel_rfl
    exact(show Tryz.prog.wantsStandIn t=false by simpa using List.all_eq_true.1 hall t hm)⟩)
  gears_goes
end Go.Proofs.YtchjgmkeemdhlaaGreatDoor
