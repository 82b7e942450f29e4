/-
  It is proved that the given function answers true for every input, whatever is scheduled: the statement AnyOrder of the seat. Conditions: none but those of the given statement itself.
-/
import Derived.Test.YtchjgmkeemdhlaaGreatDoorKE
import Derived.Conc.Holds
set_option maxRecDepth 100000
set_option maxHeartbeats 2000000
set_option linter.all false
set_option linter.unusedVariables false
set_option linter.unusedSimpArgs false
set_option linter.unusedSectionVars false
namespace Go.Lg
open Go
theorem Bv{a c:Bool}(h:a=c):Value.bool a=Value.bool c:=congrArg _ h
end Go.Lg
namespace Go.Lg.B
open Go Go.Conc Go.Lg Go.Proofs Go.Proofs.Tryz
theorem cmpI_flip(x y:Int):cmpI y x= -cmpI x y:=by unfold cmpI;split<;>split<;>(try split)<;>omega
theorem cmpL_flip:∀a c:List Int,cmpL c a= -cmpL a c
 | [], []=>rfl
 | [],_::_=>rfl
 |_::_, []=>rfl
 |x::xs,y::ys=>by
  have h:=cmpI_flip x y
  have ih:=cmpL_flip xs ys
  simp only [cmpL]
  split<;>split<;>omega
theorem cmpL_zero:∀ {a c:List Int},cmpL a c=0→a=c
 | [], [],_=>rfl
 | [],_::_,h=>by simp [cmpL] at h
 |_::_, [],h=>by simp [cmpL] at h
 |x::xs,y::ys,h=>by
  simp only [cmpL] at h
  split at h
  ·contradiction
  ·rename_i hx
   simp only [ne_eq,Decidable.not_not] at hx
   rw [cmpI_zero.1 hx,cmpL_zero h]
theorem cmpL_refl:∀a:List Int,cmpL a a=0
 | []=>rfl
 |x::xs=>by
  have:cmpI x x=0:=cmpI_zero.2 rfl
  simp [cmpL,this,cmpL_refl xs]
theorem sameInts_iff{a c:List Int}:sameInts a c=decide (a=c):=by
 unfold sameInts earlier
 have h:=cmpL_flip a c
 by_cases e:a=c
 ·subst e;simp [cmpL_refl]
 ·have:cmpL a c≠0:=fun h=>e (cmpL_zero h)
  rw [decide_eq_false e]
  by_cases h1:cmpL a c<0
  ·simp [h1]
  ·have h2:cmpL c a<0:=by omega
   simp [h2]
inductive LeL:List Int→List Int→Prop
 |nil:LeL [] []
 |cons {x y:Int} {a c:List Int}:x≤y→LeL a c→LeL (x::a) (y::c)
theorem LeL.getD{a c:List Int}(h:LeL a c):∀i,a.getD i 0≤c.getD i 0:=by
 induction h with
 |nil=>intro i;simp
 |cons h _ ih=>
  intro i
  cases i with
  |zero=>simpa using h
  |succ i=>simpa using ih i
theorem how_one{n all:Nat}(h:0<all):how n all=1↔n=all:=by
 unfold how
 split
 ·constructor
  ·intro h2;cases h2
  ·intro h2;omega
 ·split
  ·simp_all
  ·constructor
   ·intro h2;cases h2
   ·intro h2;contradiction
theorem filter_all{α:Type}{p:α→Bool}{l:List α}:(l.filter p).length=l.length↔l.all p=true:=by
 rw [List.length_filter_eq_length_iff,List.all_eq_true]
theorem open_nine{b:Bk}(h:checkBook b=0)(hL:cases b= []):openH b 0=9:=by rw [openH_zero,if_neg (fun e=>e h),if_pos hL]
theorem open_zero{b:Bk}(h:checkBook b=0)(hL:cases b≠ []):openH b 0=0:=by rw [openH_zero,if_neg (fun e=>e h),if_neg hL]
theorem mayH_eq{b:Bk}{g k:Int}(h:there g b.gs.length=0)(h2:there k b.cs.length=0):mayH b g k=openH b 0:=by simp [mayH,firstH,h,h2]
theorem bitsFrom_mem(mask:Nat)(x:Int):∀ (m i:Nat),x∈bitsFrom mask i m↔ ∃j:Nat,i≤j∧j<i+m∧mask.testBit j=true∧x=j
 |0,i=>by
  simp only [bitsFrom,List.not_mem_nil,false_iff]
  rintro⟨j,h1,h2,_⟩;omega
 |m+1,i=>by
  have ih:=bitsFrom_mem mask x m (i+1)
  rw [bitsFrom]
  split
  ·rename_i h
   rw [List.mem_cons,ih]
   constructor
   ·rintro(rfl|⟨j,h1,h2,h3,h4⟩)
    ·exact⟨i,by omega,by omega,h,rfl⟩
    ·exact⟨j,by omega,by omega,h3,h4⟩
   ·rintro⟨j,h1,h2,h3,h4⟩
    by_cases e:j=i
    ·subst e;exact .inl h4
    ·exact .inr ⟨j,by omega,by omega,h3,h4⟩
  ·rename_i h
   rw [ih]
   constructor
   ·rintro⟨j,h1,h2,h3,h4⟩;exact⟨j,by omega,by omega,h3,h4⟩
   ·rintro⟨j,h1,h2,h3,h4⟩
    by_cases e:j=i
    ·subst e;exact absurd h3 h
    ·exact⟨j,by omega,by omega,h3,h4⟩
theorem bitsFrom_asc(mask:Nat):∀ (m i:Nat),(bitsFrom mask i m).Pairwise (· < ·)
 |0,_=> .nil
 |m+1,i=>by
  rw [bitsFrom]
  split
  ·refine List.pairwise_cons.2 ⟨fun x hx=>?_,bitsFrom_asc mask m (i+1)⟩
   obtain⟨j,h1,_,_,rfl⟩:=(bitsFrom_mem mask x m (i+1)).1 hx
   omega
  ·exact bitsFrom_asc mask m (i+1)
theorem listOf_mem{n mask:Nat}{x:Int}:x∈listOf n mask↔ ∃j:Nat,j<n∧mask.testBit j=true∧x=j:=by
 rw [listOf,bitsFrom_mem]
 constructor
 ·rintro⟨j,_,h2,h3,h4⟩;exact⟨j,by omega,h3,h4⟩
 ·rintro⟨j,h2,h3,h4⟩;exact⟨j,by omega,by omega,h3,h4⟩
theorem listOf_asc(n mask:Nat):(listOf n mask).Pairwise (· < ·):=bitsFrom_asc mask n 0
def maskL:List Int→Nat
 | []=>0
 |k::l=>2^k.toNat|||maskL l
theorem maskL_bit(i:Nat):∀ {l:List Int},(∀k∈l,0≤k)→((maskL l).testBit i=true↔(i:Int)∈l)
 | [],_=>by simp [maskL]
 |k::l,h=>by
  have hk:=h k (by simp)
  rw [maskL,Nat.testBit_or,Bool.or_eq_true,maskL_bit i (fun x hx=>h x (by simp [hx])),Nat.testBit_two_pow,decide_eq_true_eq,List.mem_cons]
  constructor
  ·rintro(h1|h1)
   ·exact .inl (by omega)
   ·exact .inr h1
  ·rintro(h1|h1)
   ·exact .inl (by omega)
   ·exact .inr h1
theorem maskL_lt{n:Nat}:∀ {l:List Int},(∀k∈l,0≤k∧k<n)→maskL l<2^n
 | [],_=>Nat.two_pow_pos n
 |k::l,h=>by
  have hk:=h k (by simp)
  exact Nat.or_lt_two_pow (Nat.pow_lt_pow_right (by omega) (by omega)) (maskL_lt fun x hx=>h x (by simp [hx]))
theorem listOf_mask{n:Nat}{l:List Int}(ha:l.Pairwise (· < ·))(h:∀k∈l,0≤k∧k<n):listOf n (maskL l)=l:=by
 refine asc_unique (listOf_asc _ _) ha fun x=>?_
 rw [listOf_mem]
 constructor
 ·rintro⟨j,_,h2,rfl⟩
  exact(maskL_bit j fun k hk=>(h k hk).1).1 h2
 ·intro hx
  have:=h x hx
  exact⟨x.toNat,by omega,(maskL_bit x.toNat fun k hk=>(h k hk).1).2 (by rw [show((x.toNat:Nat):Int)=x by omega];exact hx),by omega⟩
theorem smaller_iff{a c:List Int}:smaller a c=true↔a.length<c.length∨a.length=c.length∧cmpL a c<0:=by simp [smaller]
theorem cmpL_trans:∀ {a c e:List Int},cmpL a c<0→cmpL c e<0→cmpL a e<0
 | [], [],_,h,_=>by simp [cmpL] at h
 | [],_::_, [],_,h=>by simp [cmpL] at h
 | [],_::_,_::_,_,_=>by simp [cmpL]
 |_::_, [],_,h,_=>by simp [cmpL] at h
 |_::_,_::_, [],_,h=>by simp [cmpL] at h
 |x::xs,y::ys,z::zs,h1,h2=>by
  simp only [cmpL] at h1 h2⊢
  by_cases e1:cmpI x y=0
  ·rw [if_neg (by simp [e1])] at h1
   have:=cmpI_zero.1 e1
   subst this
   by_cases e2:cmpI x z=0
   ·rw [if_neg (by simp [e2])] at h2⊢
    exact cmpL_trans h1 h2
   ·rw [if_pos e2] at h2⊢;exact h2
  ·rw [if_pos e1] at h1
   have h3:=cmpI_neg.1 h1
   by_cases e2:cmpI y z=0
   ·have:=cmpI_zero.1 e2
    subst this
    rw [if_pos e1];exact h1
   ·rw [if_pos e2] at h2
    have h4:=cmpI_neg.1 h2
    have h5:cmpI x z<0:=cmpI_neg.2 (by omega)
    rw [if_pos (by omega)];exact h5
theorem smaller_trans{a c e:List Int}(h1:smaller a c=true)(h2:smaller c e=true):smaller a e=true:=by
 rw [smaller_iff] at*
 rcases h1 with h1|⟨h1,h1'⟩
 ·rcases h2 with h2|⟨h2,_⟩<;>exact .inl (by omega)
 ·rcases h2 with h2|⟨h2,h2'⟩
  ·exact .inl (by omega)
  ·exact .inr ⟨by omega,cmpL_trans h1' h2'⟩
theorem smaller_irr(a:List Int):¬smaller a a=true:=by rw [smaller_iff,cmpL_refl];omega
theorem smaller_total{a c:List Int}(h1:¬smaller a c=true)(h2:¬smaller c a=true):a=c:=by
 rw [smaller_iff] at*
 have h3:=cmpL_flip a c
 refine cmpL_zero ?_
 have e1:a.length=c.length:=by omega
 have e2:¬cmpL a c<0:=fun h=>h1 (.inr ⟨e1,h⟩)
 have e3:¬cmpL c a<0:=fun h=>h2 (.inr ⟨e1.symm,h⟩)
 omega
theorem offer_least:∀ (l:List (List Int)) (o:List Int),∃y,l.foldl offer (some o)=some y∧(y=o∨y∈l)∧(∀x,x=o∨x∈l→¬smaller x y=true)
 | [],o=>⟨o,rfl, .inl rfl,fun x hx=>by
  rcases hx with rfl|hx
  ·exact smaller_irr _
  ·cases hx⟩
 |x::l,o=>by
  rw [List.foldl_cons,offer]
  by_cases h:smaller x o=true
  ·rw [if_pos h]
   obtain⟨y,h1,h2,h3⟩:=offer_least l x
   refine⟨y,h1, ?_,fun z hz=>?_⟩
   ·rcases h2 with rfl|h2
    ·exact .inr (by simp)
    ·exact .inr (by simp [h2])
   ·rcases hz with rfl|hz
    ·exact fun hz=>h3 x (.inl rfl) (smaller_trans h hz)
    ·rcases List.mem_cons.1 hz with rfl|hz
     ·exact h3 _ (.inl rfl)
     ·exact h3 z (.inr hz)
  ·rw [if_neg h]
   obtain⟨y,h1,h2,h3⟩:=offer_least l o
   refine⟨y,h1, ?_,fun z hz=>?_⟩
   ·rcases h2 with rfl|h2
    ·exact .inl rfl
    ·exact .inr (by simp [h2])
   ·rcases hz with rfl|hz
    ·exact h3 _ (.inl rfl)
    ·rcases List.mem_cons.1 hz with rfl|hz
     ·intro hz
      have h4:=h3 o (.inl rfl)
      by_cases h5:smaller o z=true
      ·exact h4 (smaller_trans h5 hz)
      ·rw [smaller_total h h5] at hz
       exact h4 hz
     ·exact h3 z (.inr hz)
theorem fewestOf_none{n:Nat}{is:Nat→Bool}(h:∀m,m<2^n→is m=false):fewestOf n is=none:=by
 have:(List.range (2^n)).filter is= []:=by
  rw [List.filter_eq_nil_iff]
  intro m hm
  rw [h m (List.mem_range.1 hm)];simp
 rw [fewestOf,this];rfl
theorem fewestOf_some{n:Nat}{is:Nat→Bool}{m:Nat}(hm:m<2^n)(h:is m=true):∃y,fewestOf n is=some y∧(∃m',m'<2^n∧is m'=true∧y=listOf n m')∧∀m',m'<2^n→is m'=true→¬smaller (listOf n m') y=true:=by
 have hmem:m∈(List.range (2^n)).filter is:=List.mem_filter.2 ⟨List.mem_range.2 hm,h⟩
 have hall:∀m',m'∈(List.range (2^n)).filter is↔m'<2^n∧is m'=true:=fun m'=>by rw [List.mem_filter,List.mem_range]
 unfold fewestOf
 generalize(List.range (2^n)).filter is=L at hmem hall
 cases L with
 |nil=>cases hmem
 |cons k L=>
  obtain⟨y,h1,h2,h3⟩:=offer_least (L.map (listOf n)) (listOf n k)
  refine⟨y,by simpa [offer] using h1, ?_,fun m' hm' his=>?_⟩
  ·rcases h2 with rfl|h2
   ·have:=(hall k).1 (by simp)
    exact⟨k,this.1,this.2,rfl⟩
   ·obtain⟨m',hm',rfl⟩:=List.mem_map.1 h2
    have:=(hall m').1 (by simp [hm'])
    exact⟨m',this.1,this.2,rfl⟩
  ·have:=(hall m').2 ⟨hm',his⟩
   rcases List.mem_cons.1 this with rfl|this
   ·exact h3 _ (.inl rfl)
   ·exact h3 _ (.inr (List.mem_map_of_mem this))
theorem renew_zero(p:List Int):renew 0 p=p:=by
 have:∀ (l:List Int) (i:Nat),renewGo 0 i l=l:=fun l=>by
  induction l with
  |nil=>exact fun _=>rfl
  |cons x l ih=>exact fun i=>by simp [renewGo,ih]
 exact this p 0
theorem rz_asc:∀ (m:Nat) (n:Int),(rz n m).Pairwise (· < ·)
 |0,_=> .nil
 |m+1,n=>List.pairwise_cons.2 ⟨fun x hx=>by have:=mem_rz.1 hx;omega,rz_asc m (n+1)⟩
section
variable {main:Bool}{J:Goroutine→Mem→Prop}(hJ:Closed prog main J)
include hJ
end
end Go.Lg.B
namespace Go.Lg.B
open Go Go.Conc Go.Lg Go.Proofs Go.Proofs.Tryz
theorem fewestOf_law{n:Nat}{is:Nat→Bool}{P:List Int→Bool}(h:∀m,m<2^n→is m=P (listOf n m)):
  (fewestOf n is=none∧∀x:List Int,x.Pairwise (· < ·)→(∀k∈x,0≤k∧k<(n:Int))→P x=false)∨
  ∃y,fewestOf n is=some y∧y.Pairwise (· < ·)∧(∀k∈y,0≤k∧k<(n:Int))∧P y=true∧∀x:List Int,x.Pairwise (· < ·)→(∀k∈x,0≤k∧k<(n:Int))→P x=true→¬smaller x y=true:=by
 have hm:∀x:List Int,x.Pairwise (· < ·)→(∀k∈x,0≤k∧k<(n:Int))→maskL x<2^n∧listOf n (maskL x)=x∧is (maskL x)=P x:=fun x h1 h2=>by
  have h3:=listOf_mask h1 h2
  exact⟨maskL_lt h2,h3,by rw [h _ (maskL_lt h2),h3]⟩
 by_cases hq:∃m,m<2^n∧is m=true
 ·obtain⟨m,h1,h2⟩:=hq
  obtain⟨y,h3,⟨m',h4,h5,rfl⟩,h6⟩:=fewestOf_some h1 h2
  refine .inr ⟨_,h3,listOf_asc _ _,fun k hk=>?_,by rw [←h _ h4];exact h5,fun x hx1 hx2 hx3=>?_⟩
  ·obtain⟨j,h7,_,rfl⟩:=listOf_mem.1 hk;omega
  ·obtain⟨k1,k2,k3⟩:=hm x hx1 hx2
   have:=h6 _ k1 (by rw [k3];exact hx3)
   rwa [k2] at this
 ·refine .inl ⟨fewestOf_none fun m hm=>?_,fun x hx1 hx2=>?_⟩
  ·cases e:is m
   ·rfl
   ·exact absurd ⟨m,hm,e⟩ hq
  ·obtain⟨k1,k2,k3⟩:=hm x hx1 hx2
   cases e:P x
   ·rfl
   ·exact absurd ⟨_,k1,k3.trans e⟩ hq
theorem testsGo_of{m:Int}:∀ {l:List Ts},(∀t∈l,(0≤t.g∧t.g<m)∧1≤t.l∧t.l≤99)→testsGo m l=0
 | [],_=>rfl
 |t::l,h=>by
  have ht:=h t (by simp)
  rw [testsGo,if_neg (fun e=>e (there_zero.2 ht.1)),if_neg (fun e=>e (loadH_zero.2 ht.2))]
  exact testsGo_of fun x hx=>h x (by simp [hx])
def Bk.onlyL(b:Bk)(l:List Int):Bk:={b with ts:=l.map fun k=>b.ts.getD k.toNat default}
def noneL(b:Bk)(l:List Int):Bool:=decide (cases (b.onlyL l)= [])
theorem selK_list{mask:Nat}{l:List Ts}:∀k,k≤l.length→selK mask l k=(bitsFrom mask 0 k).map fun i=>l.getD i.toNat default
 |0,_=>by simp [selK,bitsFrom]
 |k+1,h=>by
  rw [selK_succ (by omega),bitsFrom_snoc,selK_list k (by omega)]
  simp only [Nat.zero_add]
  have hk:k<l.length:=by omega
  split
  ·simp [List.getD_eq_getElem?_getD,hk]
  ·simp
theorem only_list(b:Bk)(m:Nat):b.only m=b.onlyL (listOf b.ts.length m):=by
 unfold Bk.only Bk.onlyL selT
 rw [selK_list _ (Nat.le_refl _)];rfl
theorem noneLeft_list(b:Bk)(m:Nat):noneLeft b m=noneL b (listOf b.ts.length m):=by
 unfold noneLeft noneL
 rw [only_list];simp
theorem spread_ne{rs:List Rc}(h:∀r∈rs,r.lo≤r.hi):spread rs≠ []:=by
 have:rs.map (fun r=>r.lo)∈spread rs:=mem_spread.2 ⟨by simp,fun i r hr=>⟨r.lo,by simp [hr],Int.le_refl _,h r (List.mem_of_getElem? hr)⟩⟩
 intro e;rw [e] at this;cases this
theorem weightsL_ne{b:Bk}(hb:b.good):weightsL b≠ []:=spread_ne fun r hr=>by
 obtain⟨c,hc,rfl⟩:=List.mem_map.1 hr
 have:=hb.cs c hc
 unfold Pc.fine at this;omega
theorem cases_nil{b:Bk}(hb:b.good):cases b= []↔bearsL b= []:=by
 constructor
 ·intro h
  rw [List.eq_nil_iff_forall_not_mem] at h⊢
  intro p hp
  cases hw:weightsL b with
  |nil=>exact weightsL_ne hb hw
  |cons w ws=>exact h (p,w) (mem_cases.2 ⟨hp,by rw [hw];simp⟩)
 ·intro h
  unfold cases
  rw [h];rfl
theorem bare_cases{b:Bk}(hb:b.good)(ht:b.ts= []):cases b≠ []:=by
 rw [Ne,cases_nil hb]
 have hr:∀p,right b p=true:=fun p=>by unfold right;rw [ht];rfl
 have h1:spread (b.ps.map Pt.r)≠ []:=spread_ne fun r hr=>by
  obtain⟨c,hc,rfl⟩:=List.mem_map.1 hr
  have:=hb.ps c hc
  unfold Pt.fine at this;omega
 unfold bearsL
 rw [List.filter_eq_self.2 (fun p _=>hr p)]
 exact h1
theorem rz_getD:∀ (l pre:List Ts),(rz pre.length l.length).map (fun k=>(pre++l).getD k.toNat default)=l
 | [],_=>rfl
 |t::l,pre=>by
  have ih:=rz_getD l (pre++ [t])
  rw [List.length_append,List.length_singleton,List.append_assoc,List.singleton_append] at ih
  rw [List.length_cons,rz,List.map_cons,show((pre.length:Int)+1)=((pre.length+1:Nat):Int) by omega,ih]
  simp [List.getD_eq_getElem?_getD]
theorem onlyL_all(b:Bk):b.onlyL (rz 0 b.ts.length)=b:=by
 have:=rz_getD b.ts []
 unfold Bk.onlyL
 rw [List.nil_append] at this
 rw [show(rz 0 b.ts.length).map (fun k=>b.ts.getD k.toNat default)=b.ts from this]
theorem clash_law{b:Bk}(hb:b.good)(hL:cases b= []):∃y,fewestOf b.ts.length (noneLeft b)=some y∧y.Pairwise (· < ·)∧(∀k∈y,0≤k∧k<(b.ts.length:Int))∧noneL b y=true∧(∀x:List Int,x.Pairwise (· < ·)→(∀k∈x,0≤k∧k<(b.ts.length:Int))→noneL b x=true→¬smaller x y=true)∧y≠ []:=by
 rcases fewestOf_law (n:=b.ts.length) (is:=noneLeft b) (P:=noneL b) (fun m _=>noneLeft_list b m) with⟨_,h⟩|⟨y,h1,h2,h3,h4,h5⟩
 ·have:=h (rz 0 b.ts.length) (rz_asc _ _) (fun k hk=>by have:=mem_rz.1 hk;omega)
  unfold noneL at this
  rw [onlyL_all,hL] at this
  simp at this
 ·refine⟨y,h1,h2,h3,h4,h5,fun e=>?_⟩
  subst e
  have hg:(b.onlyL []).good:=⟨hb.w,hb.np,hb.ps,hb.ng,hb.gs,hb.nc,hb.cs,by simp [Bk.onlyL],fun t ht=>by simp [Bk.onlyL] at ht⟩
  exact bare_cases hg rfl (by simpa [noneL] using h4)
theorem pullsGo_alike{b c:Bk}(h:∀x,b.sheaves x=c.sheaves x):∀ (q:List Int) (n:Int),pullsGo b n q=pullsGo c n q
 | [],_=>rfl
 |x::q,n=>by rw [pullsGo,pullsGo,h,pullsGo_alike h q]
theorem gives_alike{b c:Bk}(hw:b.w=c.w)(hg:b.gs=c.gs)(h:∀x,b.sheaves x=c.sheaves x)(p:List Int)(g n:Int):gives b p g n=gives c p g n:=by
 have e:∀g,b.gear g=c.gear g:=fun g=>by unfold Bk.gear;rw [hg]
 unfold gives pulls
 rw [hw,e,pullsGo_alike h]
theorem lifts_alike{b c:Bk}(hw:b.w=c.w)(hg:b.gs=c.gs)(h:∀x,b.sheaves x=c.sheaves x)(p:List Int)(g n:Int):lifts b p g n=lifts c p g n:=by
 unfold lifts;rw [gives_alike hw hg h]
structure RenOk(b c:Bk)(l:List Int):Prop where
 w:c.w=b.w
 gs:c.gs=b.gs
 cs:c.cs=b.cs
 ts:c.ts=b.ts
 np:c.ps.length=b.ps.length
 sh:∀x,c.sheaves x=b.sheaves x
 ps:∀i:Nat,c.ps[i]? =b.ps[i]?.map fun p=>if(i:Int)∈l then {p with r:=⟨99,99⟩ } else p
 ch:checkBook b=0→checkBook c=0
theorem may_all{b:Bk}(hne:cases b≠ []){g p:Nat}:may b g p=1↔((cases b).all fun t=>lifts b t.1 g (nth t.2 p))=true:=by
 rw [may,how_one (List.length_pos_iff.2 hne),filter_all]
def shOk(ng:Nat)(s:Nat→Nat→Bool):List Int→List Int→Bool
 |_, []=>true
 |gs,g::z=>between g 0 ((ng:Int) -1) && (!decide (g∈gs) && (s g.toNat gs.length && shOk ng s (gs++ [g]) z))
theorem range_first{α:Type}(f:Nat→Option α):∀n:Nat,(∀j,j<n→f j=none)∨∃g,g<n∧(∀j,j<g→f j=none)∧∃x,f g=some x
 |0=> .inl fun j h=>by omega
 |n+1=>by
  rcases range_first f n with h|⟨g,h1,h2⟩
  ·cases e:f n with
   |none=>
    refine .inl fun j hj=>?_
    by_cases e2:j=n
    ·rw [e2];exact e
    ·exact h j (by omega)
   |some x=>exact .inr ⟨n,by omega,h,x,e⟩
  ·exact .inr ⟨g,by omega,h2⟩
theorem share_law(ng:Nat)(s:Nat→Nat→Bool):∀ (r:Nat) (gs:List Int),
  (shareGo ng s r gs=none∧∀z:List Int,z.length=r→shOk ng s gs z=false)∨
  ∃z,shareGo ng s r gs=some (gs++z)∧z.length=r∧shOk ng s gs z=true∧∀z':List Int,z'.length=r→shOk ng s gs z'=true→¬cmpL z' z<0
 |0,gs=> .inr ⟨[],by simp [shareGo],rfl,rfl,fun z' hz _=>by
   rw [List.length_eq_zero_iff] at hz;subst hz;simp [cmpL]⟩
 |r+1,gs=>by
  have ih:=share_law ng s r
  have inv:∀ (g:Int) (z:List Int),shOk ng s gs (g::z)=true→∃j:Nat,g=j∧j<ng∧(j:Int)∉gs∧s j gs.length=true∧shOk ng s (gs++ [g]) z=true:=fun g z h=>by
   simp only [shOk,Bool.and_eq_true,between_iff,Bool.not_eq_true',decide_eq_false_iff_not] at h
   obtain⟨j,rfl⟩:=Int.eq_ofNat_of_zero_le h.1.1
   exact⟨j,rfl,by omega,h.2.1,by simpa using h.2.2.1,h.2.2.2⟩
  have e:shareGo ng s (r+1) gs=(List.range ng).findSome? fun g=>if s g gs.length && !decide ((g:Int)∈gs) then shareGo ng s r (gs++ [(g:Int)]) else none:=rfl
  rw [e]
  generalize hf:(fun g:Nat=>if s g gs.length && !decide ((g:Int)∈gs) then shareGo ng s r (gs++ [(g:Int)]) else none)=f
  have hfe:∀g:Nat,s g gs.length=true→(g:Int)∉gs→f g=shareGo ng s r (gs++ [(g:Int)]):=fun g h1 h2=>by rw [←hf];simp [h1,h2]
  rcases range_first f ng with h|⟨g,h1,h2,x,h3⟩
  ·refine .inl ⟨findSome_miss h,fun z hz=>?_⟩
   cases z with
   |nil=>simp at hz
   |cons g z=>
    cases hs:shOk ng s gs (g::z) with
    |false=>rfl
    |true=>
     obtain⟨j,rfl,h4,h5,h6,h7⟩:=inv g z hs
     have h8:=h j h4
     rw [hfe j h6 h5] at h8
     rcases ih (gs++ [(j:Int)]) with⟨_,k2⟩|⟨z',k1,_⟩
     ·have:=k2 z (by simpa using hz)
      rw [h7] at this;cases this
     ·rw [k1] at h8;cases h8
  ·have hg:s g gs.length=true∧(g:Int)∉gs:=by
    rw [←hf] at h3
    simp only at h3
    split at h3
    ·rename_i h4;simpa using h4
    ·cases h3
   rw [findSome_hit h1 h2 h3]
   rw [hfe g hg.1 hg.2] at h3
   rcases ih (gs++ [(g:Int)]) with⟨k1,_⟩|⟨z,k1,k2,k3,k4⟩
   ·rw [k1] at h3;cases h3
   ·rw [k1] at h3
    have hx:=Option.some.inj h3
    refine .inr ⟨(g:Int)::z,by rw [←hx];simp,by simp [k2], ?_,fun z' hz hs=>?_⟩
    ·simp only [shOk,Bool.and_eq_true,between_iff,Bool.not_eq_true',decide_eq_false_iff_not,Int.toNat_natCast]
     exact⟨by omega,hg.2,hg.1,k3⟩
    ·cases z' with
     |nil=>simp at hz
     |cons g' z'=>
      obtain⟨j,rfl,h4,h5,h6,h7⟩:=inv g' z' hs
      by_cases hlt:j<g
      ·have h8:=h2 j hlt
       rw [hfe j h6 h5] at h8
       rcases ih (gs++ [(j:Int)]) with⟨_,q2⟩|⟨z2,q1,_⟩
       ·have:=q2 z' (by simpa using hz)
        rw [h7] at this;cases this
       ·rw [q1] at h8;cases h8
      ·rw [cmpL]
       by_cases heq:j=g
       ·subst heq
        rw [if_neg (by simp [cmpI])]
        exact k4 z' (by simpa using hz) h7
       ·have:cmpI (j:Int) g=1:=by unfold cmpI;rw [if_neg (by omega),if_pos (by omega)]
        rw [this,if_pos (by decide)];decide
theorem shOk_cong{ng:Nat}{s s':Nat→Nat→Bool}{nc:Nat}(h:∀g p,g<ng→p<nc→s g p=s' g p):∀ (z gs:List Int),gs.length+z.length≤nc→shOk ng s gs z=shOk ng s' gs z
 | [],_,_=>rfl
 |g::z,gs,hn=>by
  rw [List.length_cons] at hn
  simp only [shOk]
  by_cases hb:between g 0 ((ng:Int) -1)=true
  ·have hb':=between_iff.1 hb
   rw [h g.toNat gs.length (by omega) (by omega),shOk_cong h z (gs++ [g]) (by simp;omega)]
  ·simp only [Bool.not_eq_true] at hb
   rw [hb];rfl
def mayS(b:Bk)(g p:Nat):Bool:=may b g p==1
theorem sureM_may{b:Bk}(hne:cases b≠ []){g p:Nat}(hg:g<b.gs.length)(hp:p<b.cs.length):sureM b 0 g p=mayS b g p:=by
 have e:sure b 0 g p=decide (may b g p=1):=by
  rw [Bool.eq_iff_iff,decide_eq_true_eq,may_all hne]
  have:(fun t:Tn=>lifts b (renew 0 (pad 4 t.1)) g (nth t.2 p))=fun t=>lifts b t.1 g (nth t.2 p):=by
   funext t;rw [renew_zero,lifts_pad]
  rw [sure,this]
 unfold sureM mayS
 rw [e]
 simp only [hg,hp,decide_true,Bool.true_and]
 rw [Bool.eq_iff_iff];simp
theorem shareR_law{b:Bk}(hch:checkBook b=0)(hne:cases b≠ []):
  ((shareR b)=(none,0)∧∀z:List Int,z.length=b.cs.length→shOk b.gs.length (mayS b) [] z=false)∨
  ∃z,shareR b=(some z,0)∧z.length=b.cs.length∧shOk b.gs.length (mayS b) [] z=true∧∀z':List Int,z'.length=b.cs.length→shOk b.gs.length (mayS b) [] z'=true→¬cmpL z' z<0:=by
 have hop:=open_zero hch hne
 have hcg:∀z:List Int,z.length=b.cs.length→shOk b.gs.length (sureM b 0) [] z=shOk b.gs.length (mayS b) [] z:=fun z hz=>shOk_cong (nc:=b.cs.length) (fun g p hg hp=>sureM_may hne hg hp) z [] (by simp [hz])
 have e:shareR b=(shareGo b.gs.length (sureM b 0) b.cs.length [],0):=by rw [shareR,hop];rfl
 rw [e]
 rcases share_law b.gs.length (sureM b 0) b.cs.length [] with⟨h1,h2⟩|⟨z,h1,h2,h3,h4⟩
 ·exact .inl ⟨by rw [h1],fun z hz=>by rw [←hcg z hz];exact h2 z hz⟩
 ·exact .inr ⟨z,by rw [h1];rfl,h2,by rw [←hcg z h2];exact h3,fun z' hz hs=>h4 z' hz (by rw [hcg z' hz];exact hs)⟩
def Bk.rev(b:Bk):Bk:={b with cs:=b.cs.reverse,ts:=b.ts.reverse}
theorem piecesGo_iff:∀ {l:List Pc} {before:List (List UInt8)},piecesGo before l=0↔(∀p∈l,isLabel p.nm=true∧isNarrow p.r 1=true)∧(l.map Pc.nm).Nodup∧∀p∈l,p.nm∉before
 | [],_=>by simp [piecesGo]
 |x::l,before=>by
  have hn:nameH x.nm before=0↔isLabel x.nm=true∧x.nm∉before:=by
   unfold nameH
   by_cases h1:isLabel x.nm=true
   ·by_cases h2:x.nm∈before<;>simp [h1,h2]
   ·simp [h1]
  have ih:=piecesGo_iff (l:=l) (before:=before++ [x.nm])
  have e:piecesGo before (x::l)=0↔nameH x.nm before=0∧isNarrow x.r 1=true∧piecesGo (before++ [x.nm]) l=0:=by
   rw [piecesGo]
   by_cases h1:nameH x.nm before=0
   ·by_cases h2:isNarrow x.r 1=true<;>simp [h1,h2]
   ·simp [h1]
  rw [e,hn,ih,List.map_cons,List.nodup_cons]
  constructor
  ·rintro⟨⟨h1,h2⟩,h3,h4,h5,h6⟩
   refine⟨fun p hp=>?_,⟨fun hx=>?_,h5⟩,fun p hp=>?_⟩
   ·rcases List.mem_cons.1 hp with rfl|hp
    ·exact⟨h1,h3⟩
    ·exact h4 p hp
   ·obtain⟨p,hp,e⟩:=List.mem_map.1 hx
    exact h6 p hp (by rw [e];simp)
   ·rcases List.mem_cons.1 hp with rfl|hp
    ·exact h2
    ·exact fun hb=>h6 p hp (by simp [hb])
  ·rintro⟨h1,⟨h2,h3⟩,h4⟩
   refine⟨⟨(h1 x (by simp)).1,h4 x (by simp)⟩,(h1 x (by simp)).2,fun p hp=>h1 p (by simp [hp]),h3,fun p hp hb=>?_⟩
   rcases List.mem_append.1 hb with hb|hb
   ·exact h4 p (by simp [hp]) hb
   ·rw [List.mem_singleton] at hb
    exact h2 (List.mem_map.2 ⟨p,hp,hb⟩)
theorem check_rev{b:Bk}(hch:checkBook b=0):checkBook b.rev=0:=by
 obtain⟨w,p,g,c,t⟩:=check_parts hch
 have hb:=good_of hch
 have hc:b.rev.piecesH=0:=by
  unfold Bk.piecesH at c⊢
  obtain⟨c1,c2⟩:=ite_zero (by decide) c
  have hl:b.rev.cs.length=b.cs.length:=List.length_reverse
  rw [hl,if_neg c1]
  obtain⟨h1,h2,h3⟩:=piecesGo_iff.1 c2
  refine piecesGo_iff.2 ⟨fun p hp=>h1 p (List.mem_reverse.1 hp), ?_,fun p _ h=>by cases h⟩
  show(b.cs.reverse.map Pc.nm).Nodup
  rw [List.map_reverse]
  exact List.pairwise_reverse.2 (h2.imp fun h=>h.symm)
 have ht:b.rev.testsH=0:=by
  unfold Bk.testsH
  have hl:b.rev.ts.length=b.ts.length:=List.length_reverse
  rw [hl,if_neg (by have:=hb.nt;omega)]
  exact testsGo_of fun t ht=>hb.ts t (List.mem_reverse.1 ht)
 have hw:b.rev.winchH=0:=w
 have hp:b.rev.partsH=0:=p
 have hg:b.rev.gearsH=0:=g
 unfold checkBook
 rw [hw,hp,hg,hc,ht];rfl
theorem spread_nodup:∀rs:List Rc,(spread rs).Nodup
 | []=>by simp [spread]
 |r::rs=>by
  have ih:=spread_nodup rs
  simp only [spread,List.Nodup,List.pairwise_flatMap]
  refine⟨fun n _=>List.pairwise_map.2 (ih.imp fun h e=>h (List.cons.inj e).2),(rz_asc _ _).imp fun hlt x hx y hy e=>?_⟩
  obtain⟨a,_,rfl⟩:=List.mem_map.1 hx
  obtain⟨c,_,rfl⟩:=List.mem_map.1 hy
  have:=(List.cons.inj e).1
  omega
theorem spread_rev{rs:List Rc}{l:List Int}(h:l∈spread rs):l.reverse∈spread rs.reverse:=by
 obtain⟨h1,h2⟩:=mem_spread.1 h
 refine mem_spread.2 ⟨by simp [h1],fun i r hr=>?_⟩
 have hi:i<rs.length:=by have:=(List.getElem?_eq_some_iff.1 hr).1;simpa using this
 rw [List.getElem?_reverse hi] at hr
 obtain⟨x,hx,h3⟩:=h2 _ r hr
 exact⟨x,by rw [List.getElem?_reverse (by omega),h1];exact hx,h3⟩
theorem lifts_rev(b:Bk)(p:List Int)(g n:Int):lifts b.rev p g n=lifts b p g n:=lifts_alike (b:=b.rev) (c:=b) rfl rfl (fun _=>rfl) p g n
theorem bearsL_rev(b:Bk):bearsL b.rev=bearsL b:=by
 unfold bearsL
 have:right b.rev=right b:=by
  funext p
  unfold right
  simp only [lifts_rev]
  show b.ts.reverse.all _=_
  rw [List.all_reverse]
 rw [this];rfl
def flipT(t:Tn):Tn:=(t.1,t.2.reverse)
theorem flip_mem{b:Bk}{t:Tn}:t∈cases b.rev↔flipT t∈cases b:=by
 rw [mem_cases,mem_cases,bearsL_rev]
 have e:b.rev.cs.map Pc.r=(b.cs.map Pc.r).reverse:=by show b.cs.reverse.map Pc.r=_;rw [List.map_reverse]
 have h:t.2∈weightsL b.rev↔t.2.reverse∈weightsL b:=by
  unfold weightsL
  rw [e]
  constructor
  ·intro h
   have:=spread_rev h
   rwa [List.reverse_reverse] at this
  ·intro h
   have:=spread_rev h
   rwa [List.reverse_reverse] at this
 rw [h];rfl
theorem cases_nodup(b:Bk):(cases b).Nodup:=by
 unfold cases
 simp only [List.Nodup,List.pairwise_flatMap]
 refine⟨fun p _=>List.pairwise_map.2 ((spread_nodup _).imp fun h e=>h (Prod.mk.inj e).2), ?_⟩
 have h1:(bearsL b).Nodup:=(spread_nodup _).filter _
 refine h1.imp fun hne x hx y hy e=>?_
 obtain⟨a,_,rfl⟩:=List.mem_map.1 hx
 obtain⟨c,_,rfl⟩:=List.mem_map.1 hy
 exact hne (Prod.mk.inj e).1
theorem cases_perm(b:Bk):((cases b.rev).map flipT).Perm (cases b):=by
 have hn:((cases b.rev).map flipT).Nodup:=List.pairwise_map.2 ((cases_nodup _).imp fun h e=>h (by
  have h1:=(Prod.mk.inj e).1
  have h2:=List.reverse_inj.1 (Prod.mk.inj e).2
  exact Prod.ext h1 h2))
 refine(List.perm_ext_iff_of_nodup hn (cases_nodup b)).2 fun t=>?_
 rw [List.mem_map]
 constructor
 ·rintro⟨s,hs,rfl⟩;exact flip_mem.1 hs
 ·intro h
  refine⟨flipT t,flip_mem.2 ?_, ?_⟩
  ·simpa [flipT] using h
  ·simp [flipT]
theorem count_rev{b:Bk}{P Q:Tn→Bool}(h:∀t∈cases b.rev,P t=Q (flipT t)):((cases b.rev).filter P).length=((cases b).filter Q).length:=by
 have h1:=((cases_perm b).filter Q).length_eq
 rw [List.filter_map,List.length_map] at h1
 rw [←h1]
 congr 1
 refine List.filter_congr fun t ht=>?_
 rw [h t ht];rfl
theorem cases_len_rev(b:Bk):(cases b.rev).length=(cases b).length:=by
 have:=(cases_perm b).length_eq
 rwa [List.length_map] at this
theorem nil_rev(b:Bk):cases b.rev= []↔cases b= []:=by
 rw [←List.length_eq_zero_iff, ←List.length_eq_zero_iff,cases_len_rev]
theorem nth_reverse{l:List Int}{k:Int}{n:Nat}(hl:l.length=n)(h:0≤k∧k<n):nth l.reverse k=nth l (n-1-k):=by
 unfold nth
 rw [List.getD_eq_getElem?_getD,List.getD_eq_getElem?_getD,List.getElem?_reverse (by omega),hl]
 congr 2
 omega
theorem flip_nth{b:Bk}{t:Tn}(ht:t∈cases b.rev){k:Int}(h:0≤k∧k<b.cs.length):nth (flipT t).2 k=nth t.2 ((b.cs.length:Int) -1-k):=by
 have:t.2.length=b.cs.length:=by
  rw [weightsL_len _ (mem_cases.1 ht).2];exact List.length_reverse
 exact nth_reverse this h
theorem may_rev(b:Bk){g k:Int}(h:0≤k∧k<b.cs.length):may b.rev g ((b.cs.length:Int) -1-k)=may b g k:=by
 unfold may
 rw [cases_len_rev,count_rev (Q:=fun t=>lifts b t.1 g (nth t.2 k)) fun t ht=>?_]
 rw [lifts_rev,flip_nth ht h];rfl
theorem heldOf_rev(b:Bk)(g k:Int):heldOf b.rev g k=heldOf b g k:=by
 unfold heldOf
 exact count_rev fun t _=>by rw [lifts_rev];rfl
theorem askTo_rev(b:Bk):∀G,askTo b.rev G=askTo b G:=by
 have hs:∀acc g k,askStep b.rev acc g k=askStep b acc g k:=fun acc g k=>by
  unfold askStep
  rw [heldOf_rev,cases_len_rev]
 have hg:∀g acc n,askGear b.rev g acc n=askGear b g acc n:=fun g acc n=>by
  induction n with
  |zero=>rfl
  |succ n ih=>rw [askGear,askGear,ih,hs]
 intro G
 induction G with
 |zero=>rw [askTo,askTo,cases_len_rev]
 |succ G ih=>rw [askTo,askTo,ih,hg]
theorem openH_rev{b:Bk}(hch:checkBook b=0):openH b.rev 0=openH b 0:=by
 by_cases h:cases b= []
 ·rw [open_nine hch h,open_nine (check_rev hch) ((nil_rev b).2 h)]
 ·rw [open_zero hch h,open_zero (check_rev hch) (fun e=>h ((nil_rev b).1 e))]
theorem askR_rev{b:Bk}(hch:checkBook b=0):askR b.rev=askR b:=by
 unfold askR
 rw [openH_rev hch]
 have:askTo b.rev b.rev.gs.length=askTo b b.gs.length:=askTo_rev b _
 rw [this]
theorem mayR_rev{b:Bk}(hch:checkBook b=0){g k:Int}(hg:0≤g∧g<b.gs.length)(h:0≤k∧k<b.cs.length):mayR b.rev g ((b.cs.length:Int) -1-k)=mayR b g k:=by
 have hl:b.rev.cs.length=b.cs.length:=List.length_reverse
 have e1:mayH b g k=openH b 0:=mayH_eq (there_zero.2 hg) (there_zero.2 h)
 have e2:mayH b.rev g ((b.cs.length:Int) -1-k)=openH b.rev 0:=mayH_eq (there_zero.2 hg) (there_zero.2 (by rw [hl];omega))
 unfold mayR
 rw [e1,e2,openH_rev hch,may_rev b h]
theorem sure_rev(b:Bk)(m:Nat){g p:Nat}(h:p<b.cs.length):sure b.rev m g (b.cs.length-1-p:Nat)=sure b m g p:=by
 unfold sure
 rw [Bool.eq_iff_iff,List.all_eq_true,List.all_eq_true]
 have hp:(((b.cs.length-1-p:Nat):Nat):Int)=(b.cs.length:Int) -1-p:=by omega
 constructor
 ·intro hs t ht
  have ht':flipT t∈cases b.rev:=flip_mem.2 (by simpa [flipT] using ht)
  have:=hs _ ht'
  rw [lifts_rev,hp, ←flip_nth ht' (k:=(p:Int)) (by omega)] at this
  simpa [flipT] using this
 ·intro hs t ht
  have:=hs _ (flip_mem.1 ht)
  rw [flip_nth ht (k:=(p:Int)) (by omega)] at this
  rw [lifts_rev,hp];exact this
theorem sureM_rev(b:Bk)(m:Nat){g p:Nat}(h:p<b.cs.length):sureM b.rev m g (b.cs.length-1-p)=sureM b m g p:=by
 unfold sureM
 have hl:b.rev.cs.length=b.cs.length:=List.length_reverse
 rw [sure_rev b m h,hl]
 simp only [h,show b.cs.length-1-p<b.cs.length by omega,decide_true]
 rfl
theorem lifted_rev(b:Bk)(m x:Nat):lifted b.rev (sureM b.rev m) x=lifted b (sureM b m) x:=by
 have hl:b.rev.cs.length=b.cs.length:=List.length_reverse
 have hg:b.rev.gs.length=b.gs.length:=rfl
 unfold lifted
 rw [hl,hg,Bool.eq_iff_iff,List.all_eq_true,List.all_eq_true]
 constructor
 ·intro h p hp
  have hp:=List.mem_range.1 hp
  have:=h (b.cs.length-1-p) (List.mem_range.2 (by omega))
  simpa only [sureM_rev b m hp] using this
 ·intro h p hp
  have hp:=List.mem_range.1 hp
  have:=h (b.cs.length-1-p) (List.mem_range.2 (by omega))
  have e:=fun g=>sureM_rev b m (g:=g) (p:=b.cs.length-1-p) (by omega)
  rw [show b.cs.length-1- (b.cs.length-1-p)=p by omega] at e
  simpa only [e] using this
theorem fewestR_rev{b:Bk}(hch:checkBook b=0):fewestR b.rev=fewestR b:=by
 unfold fewestR
 rw [openH_rev hch]
 have:lifted b.rev (sureM b.rev 0)=lifted b (sureM b 0):=funext fun x=>lifted_rev b 0 x
 rw [this];rfl
theorem renewR_rev{b:Bk}(hch:checkBook b=0):renewR b.rev=renewR b:=by
 unfold renewR
 rw [openH_rev hch]
 have:(fun mask=>lifted b.rev (sureM b.rev mask) (2^b.rev.gs.length-1))=fun mask=>lifted b (sureM b mask) (2^b.gs.length-1):=funext fun x=>lifted_rev b x _
 rw [this];rfl
theorem shOk_iff{ng:Nat}{s:Nat→Nat→Bool}:∀ {z gs:List Int},shOk ng s gs z=true↔(∀g∈z,0≤g∧g<(ng:Int))∧z.Nodup∧(∀g∈z,g∉gs)∧∀ (i:Nat) (g:Int),z[i]? =some g→s g.toNat (gs.length+i)=true
 | [],_=>by simp [shOk]
 |x::z,gs=>by
  simp only [shOk,Bool.and_eq_true,between_iff,Bool.not_eq_true',decide_eq_false_iff_not,shOk_iff (z:=z),List.nodup_cons]
  constructor
  ·rintro⟨h1,h2,h3,h4,h5,h6,h7⟩
   refine⟨fun g hg=>?_,⟨fun hx=>h6 x hx (by simp),h5⟩,fun g hg=>?_,fun i g hg=>?_⟩
   ·rcases List.mem_cons.1 hg with rfl|hg
    ·omega
    ·exact h4 g hg
   ·rcases List.mem_cons.1 hg with rfl|hg
    ·exact h2
    ·exact fun hd=>h6 g hg (by simp [hd])
   ·cases i with
    |zero=>simp at hg;subst hg;simpa using h3
    |succ i=>
     have:=h7 i g (by simpa using hg)
     rw [List.length_append,List.length_singleton] at this
     rw [show gs.length+(i+1)=gs.length+1+i by omega];exact this
  ·rintro⟨h1,⟨h2,h3⟩,h4,h5⟩
   have hx:=h1 x (by simp)
   refine⟨by omega,h4 x (by simp),by simpa using h5 0 x rfl,fun g hg=>h1 g (by simp [hg]),h3,fun g hg hd=>?_,fun i g hg=>?_⟩
   ·rcases List.mem_append.1 hd with hd|hd
    ·exact h4 g (by simp [hg]) hd
    ·rw [List.mem_singleton] at hd;subst hd;exact h2 hg
   ·have:=h5 (i+1) g (by simpa using hg)
    rw [List.length_append,List.length_singleton,show gs.length+1+i=gs.length+(i+1) by omega];exact this
theorem shOk_rev{b:Bk}(hch:checkBook b=0)(hne:cases b≠ []){z:List Int}(hl:z.length=b.cs.length)(h:shOk b.gs.length (mayS b) [] z=true):shOk b.gs.length (mayS b.rev) [] z.reverse=true:=by
 obtain⟨h1,h2,_,h4⟩:=shOk_iff.1 h
 refine shOk_iff.2 ⟨fun g hg=>h1 g (List.mem_reverse.1 hg),List.pairwise_reverse.2 (h2.imp fun h=>h.symm),(fun _ _ hd=>by cases hd),fun i g hg=>?_⟩
 have hi:i<z.length:=by have:=(List.getElem?_eq_some_iff.1 hg).1;simpa using this
 rw [List.getElem?_reverse hi] at hg
 have h5:=h4 _ g hg
 simp only [List.length_nil,Nat.zero_add] at h5⊢
 unfold mayS at h5⊢
 have:=may_rev b (g:=((g.toNat:Nat):Int)) (k:=((z.length-1-i:Nat):Int)) (by omega)
 rw [show((b.cs.length:Int) -1- ((z.length-1-i:Nat):Int))=(i:Int) by omega] at this
 rw [this];exact h5
theorem rev_rev(b:Bk):b.rev.rev=b:=by
 unfold Bk.rev
 simp only [List.reverse_reverse]
theorem share_rev{b:Bk}(hch:checkBook b=0):(shareR b.rev).1.isSome=(shareR b).1.isSome∧(shareR b.rev).2=(shareR b).2:=by
 by_cases hL:cases b= []
 ·rw [shareR,shareR,openH_rev hch,open_nine hch hL];exact⟨rfl,rfl⟩
 ·have hch2:=check_rev hch
  have hL2:cases b.rev≠ []:=fun e=>hL ((nil_rev b).1 e)
  have hlc:b.rev.cs.length=b.cs.length:=List.length_reverse
  rcases shareR_law hch hL with⟨e1,n1⟩|⟨z1,e1,l1,s1,_⟩<;>rcases shareR_law hch2 hL2 with⟨e2,n2⟩|⟨z2,e2,l2,s2,_⟩
  ·rw [e1,e2];exact⟨rfl,rfl⟩
  ·have h:=shOk_rev hch2 hL2 l2 s2
   rw [rev_rev] at h
   have:=n1 z2.reverse (by rw [List.length_reverse,l2,hlc])
   rw [show shOk b.gs.length (mayS b) [] z2.reverse=true from h] at this;cases this
  ·have h:=shOk_rev hch hL l1 s1
   have:=n2 z1.reverse (by rw [List.length_reverse,l1,hlc])
   rw [show shOk b.rev.gs.length (mayS b.rev) [] z1.reverse=true from h] at this;cases this
  ·rw [e1,e2];exact⟨rfl,rfl⟩
def flipL(n:Nat)(l:List Int):List Int:=(l.map fun k=>(n:Int) -1-k).reverse
theorem flipL_asc{n:Nat}{l:List Int}(h:l.Pairwise (· < ·)):(flipL n l).Pairwise (· < ·):=by
 unfold flipL
 rw [List.pairwise_reverse]
 exact List.pairwise_map.2 (h.imp fun h=>by omega)
theorem flipL_bd{n:Nat}{l:List Int}(h:∀k∈l,0≤k∧k<(n:Int)):∀k∈flipL n l,0≤k∧k<(n:Int):=fun k hk=>by
 obtain⟨x,hx,rfl⟩:=List.mem_map.1 (List.mem_reverse.1 hk)
 have:=h x hx;omega
theorem flipL_len(n:Nat)(l:List Int):(flipL n l).length=l.length:=by simp [flipL]
theorem onlyL_rev{b:Bk}{l:List Int}(h:∀k∈l,0≤k∧k<(b.ts.length:Int)):b.rev.onlyL (flipL b.ts.length l)=({b with ts:=(b.onlyL l).ts}:Bk).rev:=by
 have e:(flipL b.ts.length l).map (fun k=>b.ts.reverse.getD k.toNat default)=(l.map fun k=>b.ts.getD k.toNat default).reverse:=by
  unfold flipL
  rw [List.map_reverse,List.map_map]
  congr 1
  refine List.map_congr_left fun k hk=>?_
  have hk:=h k hk
  simp only [Function.comp]
  rw [List.getD_eq_getElem?_getD,List.getD_eq_getElem?_getD,List.getElem?_reverse (by omega)]
  congr 2
  omega
 unfold Bk.onlyL Bk.rev
 simp only [e]
theorem noneL_rev{b:Bk}{l:List Int}(h:∀k∈l,0≤k∧k<(b.ts.length:Int)):noneL b.rev (flipL b.ts.length l)=noneL b l:=by
 unfold noneL
 rw [onlyL_rev h]
 have:cases (({b with ts:=(b.onlyL l).ts}:Bk).rev)= []↔cases (b.onlyL l)= []:=nil_rev _
 rw [decide_eq_decide];exact this
theorem clash_le{b:Bk}(hch:checkBook b=0)(hL:cases b= []):(clashR b.rev).1.length≤(clashR b).1.length:=by
 have hL2:=(nil_rev b).2 hL
 have hch2:=check_rev hch
 have hn:b.rev.ts.length=b.ts.length:=List.length_reverse
 obtain⟨y,e,asc,bd,ny,_,_⟩:=clash_law (good_of hch) hL
 obtain⟨z,e2,_,_,_,hmin,_⟩:=clash_law (good_of hch2) hL2
 have h1:clashR b=(y,0):=by rw [clashR,if_neg (fun h=>h hch),if_neg (by simp [hL]),e];rfl
 have h2:clashR b.rev=(z,0):=by rw [clashR,if_neg (fun h=>h hch2),if_neg (by simp [hL2]),e2];rfl
 rw [h1,h2]
 have:=hmin (flipL b.ts.length y) (flipL_asc asc) (by rw [hn];exact flipL_bd bd) (by rw [noneL_rev bd];exact ny)
 rw [smaller_iff,flipL_len] at this
 simp only
 omega
theorem clash_rev{b:Bk}(hch:checkBook b=0):(clashR b.rev).1.length=(clashR b).1.length∧(clashR b.rev).2=0∧(clashR b).2=0:=by
 have hch2:=check_rev hch
 by_cases hL:cases b= []
 ·have hL2:=(nil_rev b).2 hL
  have h1:=clash_le hch hL
  have h2:=clash_le hch2 hL2
  rw [rev_rev] at h2
  refine⟨by omega, ?_, ?_⟩
  ·rw [clashR,if_neg (fun h=>h hch2),if_neg (by simp [hL2])]
  ·rw [clashR,if_neg (fun h=>h hch),if_neg (by simp [hL])]
 ·have hL2:cases b.rev≠ []:=fun e=>hL ((nil_rev b).1 e)
  have h1:clashR b=([],0):=by rw [clashR,if_neg (fun h=>h hch),if_pos hL]
  have h2:clashR b.rev=([],0):=by rw [clashR,if_neg (fun h=>h hch2),if_pos hL2]
  rw [h1,h2];exact⟨rfl,rfl,rfl⟩
structure NoLess(b c:Bk):Prop where
 gs:c.gs.length=b.gs.length
 cs:c.cs.length=b.cs.length
 ps:c.ps.length=b.ps.length
 sure:∀m g p:Nat,g<b.gs.length→p<b.cs.length→sure b m g p=true→sure c m g p=true
 most:∀g:Int,0≤g→g<b.gs.length→most b g≤most c g
 weak:∀g n:Int,0≤g→g<b.gs.length→∀x∈weak c g n,x∈weak b g n
theorem NoLess.sureM{b c:Bk}(h:NoLess b c)(m g p:Nat)(hs:sureM b m g p=true):sureM c m g p=true:=by
 simp only [Go.Lg.B.sureM,Bool.and_eq_true,decide_eq_true_eq] at hs⊢
 rw [h.gs,h.cs]
 exact⟨hs.1,hs.2.1,h.sure _ _ _ hs.1 hs.2.1 hs.2.2⟩
structure Fewer(b c:Bk):Prop where
 w:c.w=b.w
 gs:c.gs=b.gs
 nc:c.cs.length=b.cs.length
 np:c.ps.length=b.ps.length
 sh:∀x,c.sheaves x=b.sheaves x
 cases:(cases c).Sublist (cases b)
theorem Fewer.lifts{b c:Bk}(h:Fewer b c)(p:List Int)(g n:Int):lifts c p g n=lifts b p g n:=lifts_alike h.w h.gs h.sh p g n
end Go.Lg.B
namespace Go.Lg
open Go Go.Conc
inductive FsOk(P:Program)(d:Nat)(a b:List Value):List Field→Bool→Prop
 |nil:FsOk P d a b [] true
 |cons {f:Field} {fs:List Field} {x y:Value} {r rs:Bool}:f.name≠ "_" →(∀ (M:Mem) (K:Value→Mem→Prop),K x M→Sm P M (part f.type a.toArray f.offset) K)→(∀ (M:Mem) (K:Value→Mem→Prop),K y M→Sm P M (part f.type b.toArray f.offset) K)→Eq1 P d f.type x y r→FsOk P d a b fs rs→FsOk P d a b (f::fs) (r && rs)
theorem Eq1.int{P:Program}{d:Nat}{t:TypeId}{x y:Int}(hu:∀w,Sem.run P (Go.underlying t) w= .ok (.int .i64) w):Eq1 P (d+1) t (.int .i64 x) (.int .i64 y) (x==y):=by
 intro M K hk
 unfold Op.equalIn
 refine Sm.bind (Sm.underlying hu ?_)
 simp only [if_true]
 exact Sm.pure hk
theorem Eq1.bool{P:Program}{d:Nat}{t:TypeId}{x y:Bool}(hu:∀w,Sem.run P (Go.underlying t) w= .ok .bool w):Eq1 P (d+1) t (.bool x) (.bool y) (x==y):=by
 intro M K hk
 unfold Op.equalIn
 refine Sm.bind (Sm.underlying hu ?_)
 exact Sm.pure hk
theorem bts_beq(x y:List UInt8):((⟨x.toArray⟩:ByteArray)==⟨y.toArray⟩)=(x==y):=by
 show(x.toArray==y.toArray)=(x==y)
 simp
theorem Eq1.str{P:Program}{d:Nat}{t:TypeId}{x y:List UInt8}(hu:∀w,Sem.run P (Go.underlying t) w= .ok .string w):Eq1 P (d+1) t (strV x) (strV y) (x==y):=by
 intro M K hk
 unfold Op.equalIn
 refine Sm.bind (Sm.underlying hu ?_)
 simp only [bts_beq]
 exact Sm.pure hk
end Go.Lg
namespace Go.Lg.B
open Go Go.Conc Go.Lg Go.Proofs Go.Proofs.Tryz
structure Bk.tiny(b:Bk):Prop where
 ps:b.ps.length≤1000
 gs:b.gs.length≤1000∧∀g∈b.gs,g.length≤1000
 cs:b.cs.length≤1000
 ts:b.ts.length≤1000
theorem casesOf_eq{b:Bk}(hch:checkBook b=0):casesOf b=(((cases b).length:Int),0):=by rw [casesOf,if_neg (fun h=>h hch)]
section
end
section
variable {main:Bool}{J:Goroutine→Mem→Prop}(hJ:Closed prog main J)
include hJ
end
end Go.Lg.B
namespace Go.Lg.B
open Go Go.Conc Go.Lg Go.Proofs Go.Proofs.Tryz
theorem fewestOf_len(n:Nat)(is:Nat→Bool):((fewestOf n is).getD []).length≤n:=by
 by_cases h:∃m,m<2^n∧is m=true
 ·obtain⟨m,h1,h2⟩:=h
  obtain⟨y,h3,⟨m',_,_,rfl⟩,_⟩:=fewestOf_some h1 h2
  rw [h3];exact listOf_len m' n 0
 ·rw [fewestOf_none fun m hm=>by
   cases e:is m
   ·rfl
   ·exact absurd ⟨m,hm,e⟩ h]
  exact Nat.zero_le _
theorem fewestR_len(b:Bk):((fewestR b).1.getD []).length≤b.gs.length:=by
 unfold fewestR;split
 ·exact Nat.zero_le _
 ·exact fewestOf_len _ _
theorem renewR_len(b:Bk):((renewR b).1.getD []).length≤b.ps.length:=by
 unfold renewR;split
 ·exact Nat.zero_le _
 ·exact fewestOf_len _ _
theorem same_self(l:List Int):sameInts l l=true:=by rw [sameInts_iff];simp
theorem anyOrder_root{b:Bk}{vb:Value}{g0 k0:Int}(hg0:0≤g0∧g0≤255)(hk0:0≤k0∧k0≤255){ro:RO}(he:Env ro)(hv:BkV ro vb b):
  Root prog 16 [vb, .int .u8 g0, .int .u8 k0] ro (fun w _=>w= .bool true):=by
 intro Post hret
 have hJ:Closed prog true (JM prog (Go.Conc.Good prog Post)):=JM.closed
 have hvv:=hv
 obtain⟨vp,vg,vc,vt,rfl,hp,hg,hc,ht⟩:=hv
 obtain⟨pb,pc,rfl⟩:=hp.form
 obtain⟨gb,gc,rfl⟩:=hg.form
 obtain⟨cb,cc,rfl⟩:=hc.form
 obtain⟨tb,tc,rfl⟩:=ht.form
 let main:=true
 let J:=JM prog (Go.Conc.Good prog Post)
 refine enter_X (n:=278) func16 U U (Nl U) ?_
 have C:Ctx prog main J (bf 16 .normal):=⟨hJ,by decide⟩
 refine Xr C U U<|R.box C U U U U fun p3=>Ad C U U<|Xs C<|Xr C U U<|R5 C U U isAgg27 sizeOf27 (by repeat constructor) Tk5<|R.callP C U U U U (fitR_c hJ hvv)<|R.not C U U U<|R.done C<|X.cond C.1 U (fun hfit=>?_) (fun hfit=>?_)
 ·refine Xr C U U<|R.callR C U U U U ((hoisted_c _ he)) fun v9 ro9 hl9 hq9=>Ad C U U<|X.ret0 C (by kernel_rfl) U U func16 U (by exact(.tmp U .nil)) fun w9 hs9=>hret _ _ _ hl9 ?_ w9 hs9
  exact hq9
 ·have hch:checkBook b=0:=by simpa using hfit
  have hb:=good_of hch
  have hsh:=short_of (not_great hch)
  have hnp:=hb.np
  have hng:=hb.ng
  have hnc:=hb.nc
  have hnt:=hb.nt
  have hcr:=check_rev hch
  have hsr:=short_of (not_great hcr)
  refine X.skip C.1<|Xr C U U<|R5 C U U isAgg27 sizeOf27 (by repeat constructor) Tk5<|R.alloc C U U zeroValue27 U fun p7=>R.store C U U U U sizeOf27 U U U (by repeat constructor) Ph5<|R.done C<|Xr C U U<|Rf C 3 U U runUnderlying27 U sizeOf24<|R.store C U U U U sizeOf24 U U U (by repeat constructor) (.skip (.skip (.skip (.here .nil))))<|Rf C 4 U U runUnderlying27 U sizeOf25<|R.store C U U U U sizeOf25 U U U (by repeat constructor) (.skip (.skip (.skip (.skip (.here .nil)))))<|R.done C<|Xs C<|Xr C U U<|Rf C 3 U U runUnderlying27 U sizeOf24<|Rl C U U isAgg24 (by repeat constructor) U<|Rn C U U runUnderlying24<|R.int C U U U U (b_sub (by omega) (by omega))<|Ad C U U<|X.block C.1<|X.loopI (ι:=Nat×Value×List (Nat×Obj)) C.1 (fun s=>s.1≤b.cs.length∧Buf 79 3 [] s.2.1 ((b.cs.reverse.take s.1).flatMap Pc.cells) s.2.2)
   (fun s=> [(3, .pointer (some ⟨p3,0,none⟩)),(7, .pointer (some ⟨p7,0,none⟩)),(8, .int .i64 ((b.cs.length:Int) -1- (s.1:Int))),(1, .int .u8 g0),(2, .int .u8 k0)])
   (fun s=>⟨ro,(p7, .cells [.int .i64 b.w, .slice pb b.ps.length pc, .slice gb b.gs.length gc,s.2.1, .slice none 0 0].toArray 27 (0,0))::(s.2.2++((p3, .cells [.int .i64 b.w, .slice pb b.ps.length pc, .slice gb b.gs.length gc, .slice cb b.cs.length cc, .slice tb b.ts.length tc].toArray 27 (0,0)):: []))⟩) (fun s=>b.cs.length-s.1) (0, .slice none 0 0, []) ⟨Nat.zero_le _, .nil⟩ rfl ⟨rfl,rfl,by simp [look],rfl,rfl,trivial⟩ fun s hs' hnext=>?_
  obtain⟨j,v0,own0⟩:=s
  obtain⟨hj,hbuf⟩:=hs'
  simp only at hj hbuf hnext⊢
  obtain⟨bs0,cap0,rfl⟩:=hbuf.form (by decide)
  refine Xs C<|Xr C U U<|Rm C U U<|R.int C U U U U b_geq<|R.done C<|Xk C U (fun hlt=>?_) (fun hlt=>?_)
  ·have hj':b.cs.length-1-j<b.cs.length:=by omega
   have hjr:j<b.cs.reverse.length:=by rw [List.length_reverse];omega
   obtain⟨pp,off,cap,lt,t,fq,hsl,hrop,hsub⟩:=hc.at Pc.len (by omega)
   cases hsl
   have hsi:Sub (off+((b.cs.length:Int) -1- (j:Int)).toNat*3) 3 lt (b.cs[b.cs.length-1-j]).cells:=by
    rw [show((b.cs.length:Int) -1- (j:Int)).toNat=b.cs.length-1-j by omega];exact hsub _ hj'
   have hstep:b.cs.reverse.take (j+1)=b.cs.reverse.take j++ [b.cs[b.cs.length-1-j]]:=by
    rw [List.take_succ_eq_append_getElem hjr,List.getElem_reverse]
   have hfl:((b.cs.reverse.take j).flatMap Pc.cells).length=j*3:=by
    rw [flatMap_len Pc.len,List.length_take,List.length_reverse,Nat.min_eq_left hj]
   generalize b.cs[b.cs.length-1-j]=co at hsi hstep
   have hcl:co.cells.length=3:=rfl
   refine X.skip C.1<|Xs C<|X.block C.1<|Xd C fun hok=>Df (off':=3) C 0 hok U U U runUnderlying27 U sizeOf24 U<|Dl 1 hok (fun _ _ A h=>R.loadOne C U (A.w U U) (A.x U U) isAgg24 (by repeat (first|exact Mh|apply Mt|apply List.mem_append_right)) U h)<|Df (off':=3) C 2 hok U U U runUnderlying27 U sizeOf24 U<|Dl 3 hok (fun _ _ A h=>R.loadOne C U (A.w U U) (A.x U U) isAgg24 (by repeat (first|exact Mh|apply Mt|apply List.mem_append_right)) U h)<|Dm C 4 hok U U U<|Dx C 5 hok U U U runUnderlying24 sizeOf79<|Dl 6 hok (fun _ _ A h=>R.loadAggRo C U (A.w U U) (A.x U U) isAgg79 sizeOf79 hrop hsi h)<|De 7 (some 62) [false,false,true] hok (fun _ _ A hk=>?_)
   refine R.buildSlice C (vs:=_) U (A.w U U) (show pvals _ _=some (numbered 0 [_]) from(A.p U U)) U runUnderlying24 sizeOf79 zeroValue79 (by decide) (Cat.one U U) fun p62=>hk _ _ ⟨(QFs.cons (QF.of U (fun _ _ A h=>R.loadOne C U (A.w U U) (A.x U U) isAgg24 (by repeat (first|exact Mh|apply Mt|apply List.mem_append_right)) U h)) QFs.nil), ?_⟩
   refine De 8 (some 63) [false] hok (fun _ _ A hk=>?_)
   refine R.append2 (kk:=3) C [_] U (A.w U U) (A.x U U) (A.x U U) runUnderlying24 runUnderlying24 (fun _=>nofun) (show prog.info? 79=some Tryz.t79 by kernel_rfl) U U U (by decide) (by decide) (hbuf.app _) U U (by(try simp only [List.length_append,List.length_cons,List.length_nil]);omega) fun v' own' hb'=>hk _ _ ⟨QFs.nil, ?_⟩
   refine Df (off':=3) C 9 hok U U U runUnderlying27 U sizeOf24 U<|De 10 none [] hok (fun _ _ A hk=>?_)
   obtain⟨own1,rfl,hb1⟩:=hb'.unapp (tail:= [])
   refine R.store C U (A.w U U) (A.x U U) (A.x U U) sizeOf24 hb'.cells1 U hb'.ones1 (by repeat (first|exact Uh|apply Ut|apply Upd.app)) (.skip (.skip (.skip (.here .nil)))) (hk undef _ ⟨QFs.nil, ?_⟩)
   refine D.done C hok (by kernel_rfl)<|X.inBlock C.1<|X.region C U U<|Rm C U U<|R.int C U U U U (b_sub (by omega) (by omega))<|Ad C U U<|X.weaken ?_ (hnext (j+1,v',own1) ⟨by simp only;omega, ?_⟩ (by simp only;omega))
   ·exact⟨rfl,rfl,by simp [look];omega,rfl,rfl,trivial⟩
   ·rw [hstep,List.flatMap_append];exact hb1
  ·obtain rfl:j=b.cs.length:=by omega
   refine X.exit C.1 U<|Xs C<|Xs C<|X.finishA [_] C.1 Pc.len (by decide) (hbuf.app _) fun ro1 hl1 hlc=>?_
   have e:b.cs.reverse.take b.cs.length=b.cs.reverse:=by rw [List.take_of_length_le (by rw [List.length_reverse];exact Nat.le_refl _)]
   rw [e] at hlc⊢
   have ht1:=ht.mono hl1
   obtain⟨cb1,cc1,hcv⟩:=hlc.form
   rw [hcv]
   rw [hcv] at hlc
   refine X.region C U U<|Rf C 4 U U runUnderlying27 U sizeOf25<|R.loadOne C U U U isAgg25 (by repeat (first|exact Mh|apply Mt|apply List.mem_append_right)) U<|Rn C U U runUnderlying25<|R.int C U U U U (b_sub (by omega) (by omega))<|Ad C U U<|X.block C.1<|X.loopI (ι:=Nat×Value×List (Nat×Obj)) C.1 (fun s=>s.1≤b.ts.length∧Buf 92 3 [] s.2.1 ((b.ts.reverse.take s.1).flatMap Ts.cells) s.2.2)
    (fun s=> [(3, .pointer (some ⟨p3,0,none⟩)),(7, .pointer (some ⟨p7,0,none⟩)),(9, .int .i64 ((b.ts.length:Int) -1- (s.1:Int))),(1, .int .u8 g0),(2, .int .u8 k0)])
    (fun s=>⟨ro1,(p7, .cells [.int .i64 b.w, .slice pb b.ps.length pc, .slice gb b.gs.length gc, .slice cb1 b.cs.reverse.length cc1,s.2.1].toArray 27 (0,0))::(s.2.2++((p3, .cells [.int .i64 b.w, .slice pb b.ps.length pc, .slice gb b.gs.length gc, .slice cb b.cs.length cc, .slice tb b.ts.length tc].toArray 27 (0,0)):: []))⟩) (fun s=>b.ts.length-s.1) (0, .slice none 0 0, []) ⟨Nat.zero_le _, .nil⟩ rfl ⟨rfl,rfl,by simp [look],rfl,rfl,trivial⟩ fun s hs' hnext=>?_
   obtain⟨j,v0,own0⟩:=s
   obtain⟨hj,hbuf⟩:=hs'
   simp only at hj hbuf hnext⊢
   obtain⟨bs0,cap0,rfl⟩:=hbuf.form (by decide)
   refine Xs C<|Xr C U U<|Rm C U U<|R.int C U U U U b_geq<|R.done C<|Xk C U (fun hlt=>?_) (fun hlt=>?_)
   ·have hj':b.ts.length-1-j<b.ts.length:=by omega
    have hjr:j<b.ts.reverse.length:=by rw [List.length_reverse];omega
    obtain⟨pp,off,cap,lt,t,fq,hsl,hrop,hsub⟩:=ht1.at Ts.len (by omega)
    cases hsl
    have hsi:Sub (off+((b.ts.length:Int) -1- (j:Int)).toNat*3) 3 lt (b.ts[b.ts.length-1-j]).cells:=by
     rw [show((b.ts.length:Int) -1- (j:Int)).toNat=b.ts.length-1-j by omega];exact hsub _ hj'
    have hstep:b.ts.reverse.take (j+1)=b.ts.reverse.take j++ [b.ts[b.ts.length-1-j]]:=by
     rw [List.take_succ_eq_append_getElem hjr,List.getElem_reverse]
    have hfl:((b.ts.reverse.take j).flatMap Ts.cells).length=j*3:=by
     rw [flatMap_len Ts.len,List.length_take,List.length_reverse,Nat.min_eq_left hj]
    generalize b.ts[b.ts.length-1-j]=co at hsi hstep
    have hcl:co.cells.length=3:=rfl
    refine X.skip C.1<|Xs C<|X.block C.1<|Xd C fun hok=>Df (off':=4) C 0 hok U U U runUnderlying27 U sizeOf25 U<|Dl 1 hok (fun _ _ A h=>R.loadOne C U (A.w U U) (A.x U U) isAgg25 (by repeat (first|exact Mh|apply Mt|apply List.mem_append_right)) U h)<|Df (off':=4) C 2 hok U U U runUnderlying27 U sizeOf25 U<|Dl 3 hok (fun _ _ A h=>R.loadOne C U (A.w U U) (A.x U U) isAgg25 (by repeat (first|exact Mh|apply Mt|apply List.mem_append_right)) U h)<|Dm C 4 hok U U U<|Dx C 5 hok U U U runUnderlying25 sizeOf92<|Dl 6 hok (fun _ _ A h=>R.loadAggRo C U (A.w U U) (A.x U U) isAgg92 sizeOf92 hrop hsi h)<|De 7 (some 80) [false,false,true] hok (fun _ _ A hk=>?_)
    refine R.buildSlice C (vs:=_) U (A.w U U) (show pvals _ _=some (numbered 0 [_]) from(A.p U U)) U runUnderlying25 sizeOf92 zeroValue92 (by decide) (Cat.one U U) fun p80=>hk _ _ ⟨(QFs.cons (QF.of U (fun _ _ A h=>R.loadOne C U (A.w U U) (A.x U U) isAgg25 (by repeat (first|exact Mh|apply Mt|apply List.mem_append_right)) U h)) QFs.nil), ?_⟩
    refine De 8 (some 81) [false] hok (fun _ _ A hk=>?_)
    refine R.append2 (kk:=3) C [_] U (A.w U U) (A.x U U) (A.x U U) runUnderlying25 runUnderlying25 (fun _=>nofun) (show prog.info? 92=some Tryz.t92 by kernel_rfl) U U U (by decide) (by decide) (hbuf.app _) U U (by(try simp only [List.length_append,List.length_cons,List.length_nil]);omega) fun v' own' hb'=>hk _ _ ⟨QFs.nil, ?_⟩
    refine Df (off':=4) C 9 hok U U U runUnderlying27 U sizeOf25 U<|De 10 none [] hok (fun _ _ A hk=>?_)
    obtain⟨own1,rfl,hb1⟩:=hb'.unapp (tail:= [])
    refine R.store C U (A.w U U) (A.x U U) (A.x U U) sizeOf25 hb'.cells1 U hb'.ones1 (by repeat (first|exact Uh|apply Ut|apply Upd.app)) (.skip (.skip (.skip (.skip (.here .nil))))) (hk undef _ ⟨QFs.nil, ?_⟩)
    refine D.done C hok (by kernel_rfl)<|X.inBlock C.1<|X.region C U U<|Rm C U U<|R.int C U U U U (b_sub (by omega) (by omega))<|Ad C U U<|X.weaken ?_ (hnext (j+1,v',own1) ⟨by simp only;omega, ?_⟩ (by simp only;omega))
    ·exact⟨rfl,rfl,by simp [look];omega,rfl,rfl,trivial⟩
    ·rw [hstep,List.flatMap_append];exact hb1
   ·obtain rfl:j=b.ts.length:=by omega
    refine X.exit C.1 U<|Xs C<|X.finishA [_] C.1 Ts.len (by decide) (hbuf.app _) fun ro2 hl2 hlt2=>?_
    have e2:b.ts.reverse.take b.ts.length=b.ts.reverse:=by rw [List.take_of_length_le (by rw [List.length_reverse];exact Nat.le_refl _)]
    rw [e2] at hlt2⊢
    obtain⟨tb1,tc1,htv⟩:=hlt2.form
    rw [htv]
    rw [htv] at hlt2
    have k2:=RO.le_trans hl1 hl2
    have hvo:BkV ro2 (.agg [.int .i64 b.w, .slice pb b.ps.length pc, .slice gb b.gs.length gc, .slice cb1 b.cs.reverse.length cc1, .slice tb1 b.ts.reverse.length tc1].toArray) b.rev:=⟨_,_,_,_,rfl,hp.mono k2,hg.mono k2,hlc.mono hl2,hlt2⟩
    refine Xd C fun hok=>Dm C 0 hok U U U<|Dp 1 hok (fun _ _ _ A h=>R.convInt C U (A.w U U) (A.x U U) runUnderlying5 runUnderlying3 (wrap64 (by omega) (by omega)) h)<|Df (off':=2) C 2 hok U U U runUnderlying27 U sizeOf23 U<|Dl 3 hok (fun _ _ A h=>R.loadOne C U (A.w U U) (A.x U U) isAgg23 (by repeat (first|exact Mh|apply Mt|apply List.mem_append_right)) U h)<|Ds C 4 hok U U runUnderlying23<|Di C 5 hok U U U U U (b_remP (by omega) (by omega))<|Dm C 6 hok U U U<|Dp 7 hok (fun _ _ _ A h=>R.convInt C U (A.w U U) (A.x U U) runUnderlying5 runUnderlying3 (wrap64 (by omega) (by omega)) h)<|Df (off':=3) C 8 hok U U U runUnderlying27 U sizeOf24 U<|Dl 9 hok (fun _ _ A h=>R.loadOne C U (A.w U U) (A.x U U) isAgg24 (by repeat (first|exact Mh|apply Mt|apply List.mem_append_right)) U h)<|Ds C 10 hok U U runUnderlying24<|Di C 11 hok U U U U U (b_remP (by omega) (by omega))<|Da C 12 hok U U<|Da C 13 hok U U<|D.done C hok (by kernel_rfl)<|Xs C ?_
    have hgb:0≤g0% (b.gs.length:Int)∧g0% (b.gs.length:Int)<b.gs.length:=⟨Int.emod_nonneg _ (by omega),Int.emod_lt_of_pos _ (by omega)⟩
    have hkb:0≤k0% (b.cs.length:Int)∧k0% (b.cs.length:Int)<b.cs.length:=⟨Int.emod_nonneg _ (by omega),Int.emod_lt_of_pos _ (by omega)⟩
    generalize g0% (b.gs.length:Int)=g at hgb⊢
    generalize k0% (b.cs.length:Int)=k at hkb⊢
    refine X.region C U U<|R.loadAgg C U U U isAgg27 sizeOf27 (by repeat (first|exact Mh|apply Mt|apply List.mem_append_right)) Tk5<|R.callR C U U U U (casesN_c hJ (he.mono k2) (hvv.mono k2) hsh) fun v3 ro3 hl3 hq3=>?_
    subst hq3
    have k3:=RO.le_trans k2 hl3
    refine Rm C U U<|R.ext C U U U U<|R.ext C U U U U<|R.asg C U U U<|Ad C U U<|Xr C U U<|R.loadAgg C U U U isAgg27 sizeOf27 (by repeat (first|exact Mh|apply Mt|apply List.mem_append_right)) Tk5<|R.callR C U U U U (casesN_c hJ (he.mono k3) (hvo.mono hl3) hsr) fun v4 ro4 hl4 hq4=>?_
    subst hq4
    rw [casesOf_eq hch,casesOf_eq hcr,cases_len_rev]
    have k4:=RO.le_trans k3 hl4
    have m4:=RO.le_trans hl3 hl4
    refine Rm C U U<|R.ext C U U U U<|R.ext C U U U U<|R.asg C U U U<|Ad C U U<|Xr C U U<|R.loadAgg C U U U isAgg27 sizeOf27 (by repeat (first|exact Mh|apply Mt|apply List.mem_append_right)) Tk5<|Rm C U U<|Rm C U U<|R.callR C U U U U (may_c hJ (he.mono k4) (hvv.mono k4) hsh g k) fun v5 ro5 hl5 hq5=>?_
    subst hq5
    have k5:=RO.le_trans k4 hl5
    have m5:=RO.le_trans m4 hl5
    refine Rm C U U<|R.ext C U U U U<|R.ext C U U U U<|R.asg C U U U<|Ad C U U<|Xr C U U<|R.loadAgg C U U U isAgg27 sizeOf27 (by repeat (first|exact Mh|apply Mt|apply List.mem_append_right)) Tk5<|Rm C U U<|Rf C 3 U U runUnderlying27 U sizeOf24<|R.loadOne C U U U isAgg24 (by repeat (first|exact Mh|apply Mt|apply List.mem_append_right)) U<|Rn C U U runUnderlying24<|R.int C U U U U (b_sub (by omega) (by omega))<|Rm C U U<|R.int C U U U U (b_sub (by omega) (by omega))<|R.callR C U U U U (may_c hJ (he.mono k5) (hvo.mono m5) hsr g ((b.cs.length:Int) -1-k)) fun v6 ro6 hl6 hq6=>?_
    subst hq6
    rw [mayR_rev hch hgb hkb]
    have k6:=RO.le_trans k5 hl6
    have m6:=RO.le_trans m5 hl6
    refine Rm C U U<|R.ext C U U U U<|R.ext C U U U U<|R.asg C U U U<|Ad C U U<|Xr C U U<|R.loadAgg C U U U isAgg27 sizeOf27 (by repeat (first|exact Mh|apply Mt|apply List.mem_append_right)) Tk5<|R.callR C U U U U ((fewestG_c (he.mono k6) (hvv.mono k6) hsh)) fun v7 ro7 hl7 hq7=>?_
    obtain⟨w7,y7,rfl⟩:=hq7
    obtain⟨_,_,rfl⟩:=y7.form
    have k7:=RO.le_trans k6 hl7
    have m7:=RO.le_trans m6 hl7
    refine Rm C U U<|R.ext C U U U U<|R.ext C U U U U<|R.ext C U U U U<|R.asg C U U U<|R.asg C U U U<|Ad C U U<|Xr C U U<|R.loadAgg C U U U isAgg27 sizeOf27 (by repeat (first|exact Mh|apply Mt|apply List.mem_append_right)) Tk5<|R.callR C U U U U ((fewestG_c (he.mono k7) (hvo.mono m7) hsr)) fun v8 ro8 hl8 hq8=>?_
    obtain⟨w8,y8,rfl⟩:=hq8
    rw [fewestR_rev hch] at y8⊢
    obtain⟨_,_,rfl⟩:=y8.form
    have k8:=RO.le_trans k7 hl8
    have m8:=RO.le_trans m7 hl8
    have hfl:=fewestR_len b
    refine Rm C U U<|R.ext C U U U U<|R.ext C U U U U<|R.ext C U U U U<|R.asg C U U U<|R.asg C U U U<|Ad C U U<|Xs C<|Xr C U U<|Rm C U U<|R.int C U U U U b_neq<|R.fixv (t:=137) (v':= .bool false) U (by rfl)<|Rm C U U<|Rm C U U<|R.int C U U U U b_neq<|R.fixv (t:=140) (v':= .bool false) U (by rfl)<|R.pickF C U U U U<|Rm C U U<|Rm C U U<|Rm C U U<|R.int C U U U U b_neq<|R.fixv (t:=145) (v':= .bool false) U (Bv (by simp)) ?_;refine R.pickF C U U U U<|Rm C U U<|Rm C U U<|Rm C U U<|R.int C U U U U b_neq<|R.fixv (t:=150) (v':= .bool false) U (Bv (by simp)) ?_;refine R.pickF C U U U U<|Rm C U U<|Rm C U U<|Rm C U U<|R.int C U U U U b_neq<|R.fixv (t:=155) (v':= .bool false) U (Bv (by simp)) ?_;refine R.pickF C U U U U<|Rm C U U<|Rm C U U<|Rm C U U<|R.int C U U U U b_neq<|R.fixv (t:=160) (v':= .bool false) U (Bv (by simp)) ?_;refine R.pickF C U U U U<|Rm C U U<|Rm C U U<|Rm C U U<|R.neBool C U U U U runUnderlying4<|R.fixv (t:=165) (v':= .bool false) U (Bv (by simp)) ?_;refine R.pickF C U U U U<|Rm C U U<|Rm C U U<|Rm C U U<|R.callP C U U U U (sameInts_c hJ (y7.mono hl8) y8 (by omega) (by omega))<|R.not C U U U<|R.fixv (t:=171) (v':= .bool false) U (by(rw [same_self];rfl))<|R.pickF C U U U U<|R.done C<|X.cond C.1 U (fun h=>nomatch h) (fun _=>?_)
    refine X.skip C.1<|Xr C U U<|R.loadAgg C U U U isAgg27 sizeOf27 (by repeat (first|exact Mh|apply Mt|apply List.mem_append_right)) Tk5<|R.callR C U U U U ((renew_c (he.mono k8) (hvv.mono k8) hsh)) fun v9 ro9 hl9 hq9=>?_
    obtain⟨w9,y9,rfl⟩:=hq9
    obtain⟨_,_,rfl⟩:=y9.form
    have k9:=RO.le_trans k8 hl9
    have m9:=RO.le_trans m8 hl9
    refine Rm C U U<|R.ext C U U U U<|R.ext C U U U U<|R.ext C U U U U<|R.asg C U U U<|R.asg C U U U<|Ad C U U<|Xr C U U<|R.loadAgg C U U U isAgg27 sizeOf27 (by repeat (first|exact Mh|apply Mt|apply List.mem_append_right)) Tk5<|R.callR C U U U U ((renew_c (he.mono k9) (hvo.mono m9) hsr)) fun v10 ro10 hl10 hq10=>?_
    obtain⟨w10,y10,rfl⟩:=hq10
    rw [renewR_rev hch] at y10⊢
    obtain⟨_,_,rfl⟩:=y10.form
    have k10:=RO.le_trans k9 hl10
    have m10:=RO.le_trans m9 hl10
    have hrl:=renewR_len b
    refine Rm C U U<|R.ext C U U U U<|R.ext C U U U U<|R.ext C U U U U<|R.asg C U U U<|R.asg C U U U<|Ad C U U<|Xr C U U<|R.loadAgg C U U U isAgg27 sizeOf27 (by repeat (first|exact Mh|apply Mt|apply List.mem_append_right)) Tk5<|R.callR C U U U U ((share_c (he.mono k10) (hvv.mono k10) hsh)) fun v11 ro11 hl11 hq11=>?_
    obtain⟨w11,y11,rfl⟩:=hq11
    obtain⟨_,_,rfl⟩:=y11.form
    have k11:=RO.le_trans k10 hl11
    have m11:=RO.le_trans m10 hl11
    refine Rm C U U<|R.ext C U U U U<|R.ext C U U U U<|R.ext C U U U U<|R.asg C U U U<|R.asg C U U U<|Ad C U U<|Xr C U U<|R.loadAgg C U U U isAgg27 sizeOf27 (by repeat (first|exact Mh|apply Mt|apply List.mem_append_right)) Tk5<|R.callR C U U U U ((share_c (he.mono k11) (hvo.mono m11) hsr)) fun v12 ro12 hl12 hq12=>?_
    obtain⟨w12,y12,rfl⟩:=hq12
    obtain⟨_,_,rfl⟩:=y12.form
    rw [(share_rev hch).1,(share_rev hch).2]
    have k12:=RO.le_trans k11 hl12
    have m12:=RO.le_trans m11 hl12
    refine Rm C U U<|R.ext C U U U U<|R.ext C U U U U<|R.ext C U U U U<|R.asg C U U U<|R.asg C U U U<|Ad C U U<|Xs C<|Xr C U U<|Rm C U U<|Rm C U U<|R.int C U U U U b_neq<|R.fixv (t:=199) (v':= .bool false) U (Bv (by simp)) ?_;refine Rm C U U<|Rm C U U<|Rm C U U<|R.neBool C U U U U runUnderlying4<|R.fixv (t:=203) (v':= .bool false) U (Bv (by simp)) ?_;refine R.pickF C U U U U<|Rm C U U<|Rm C U U<|Rm C U U<|R.callP C U U U U (sameInts_c hJ (y9.mono (RO.le_trans hl10 (RO.le_trans hl11 hl12))) (y10.mono (RO.le_trans hl11 hl12)) (by omega) (by omega))<|R.not C U U U<|R.fixv (t:=209) (v':= .bool false) U (by(rw [same_self];rfl))<|R.pickF C U U U U<|Rm C U U<|Rm C U U<|Rm C U U<|R.int C U U U U b_neq<|R.fixv (t:=214) (v':= .bool false) U (Bv (by simp)) ?_;refine R.pickF C U U U U<|Rm C U U<|Rm C U U<|Rm C U U<|R.neBool C U U U U runUnderlying4<|R.fixv (t:=219) (v':= .bool false) U (Bv (by simp)) ?_;refine R.pickF C U U U U<|R.done C<|X.cond C.1 U (fun h=>nomatch h) (fun _=>?_)
    refine X.skip C.1<|Xr C U U<|R.loadAgg C U U U isAgg27 sizeOf27 (by repeat (first|exact Mh|apply Mt|apply List.mem_append_right)) Tk5<|R.callR C U U U U (clash_c hJ (he.mono k12) (hvv.mono k12) hsh) fun v13 ro13 hl13 hq13=>?_
    obtain⟨w13,y13,rfl⟩:=hq13
    obtain⟨_,_,rfl⟩:=y13.form
    have k13:=RO.le_trans k12 hl13
    have m13:=RO.le_trans m12 hl13
    refine Rm C U U<|R.ext C U U U U<|R.ext C U U U U<|R.asg C U U U<|Ad C U U<|Xr C U U<|R.loadAgg C U U U isAgg27 sizeOf27 (by repeat (first|exact Mh|apply Mt|apply List.mem_append_right)) Tk5<|R.callR C U U U U (clash_c hJ (he.mono k13) (hvo.mono m13) hsr) fun v14 ro14 hl14 hq14=>?_
    obtain⟨w14,y14,rfl⟩:=hq14
    obtain⟨_,_,rfl⟩:=y14.form
    obtain⟨c1,c2,c3⟩:=clash_rev hch
    rw [c2,c3,c1]
    have k14:=RO.le_trans k13 hl14
    have m14:=RO.le_trans m13 hl14
    refine Rm C U U<|R.ext C U U U U<|R.ext C U U U U<|R.asg C U U U<|Ad C U U<|Xr C U U<|R.loadAgg C U U U isAgg27 sizeOf27 (by repeat (first|exact Mh|apply Mt|apply List.mem_append_right)) Tk5<|R.callR C U U U U (ask_c hJ (he.mono k14) (hvv.mono k14) hsh) fun v15 ro15 hl15 hq15=>?_
    subst hq15
    have k15:=RO.le_trans k14 hl15
    refine Rm C U U<|R.ext C U U U U<|R.ext C U U U U<|R.ext C U U U U<|R.ext C U U U U<|R.asg C U U U<|R.asg C U U U<|R.asg C U U U<|Ad C U U<|Xr C U U<|R.loadAgg C U U U isAgg27 sizeOf27 (by repeat (first|exact Mh|apply Mt|apply List.mem_append_right)) Tk5<|R.callR C U U U U (ask_c hJ (he.mono k15) (hvo.mono (RO.le_trans m14 hl15)) hsr) fun v16 ro16 hl16 hq16=>?_
    subst hq16
    rw [askR_rev hch]
    have k16:=RO.le_trans k15 hl16
    refine Rm C U U<|R.ext C U U U U<|R.ext C U U U U<|R.ext C U U U U<|R.ext C U U U U<|R.asg C U U U<|R.asg C U U U<|R.asg C U U U<|Ad C U U<|Xr C U U<|Rm C U U<|Rm C U U<|R.int C U U U U b_eql<|R.fixv (t:=247) (v':= .bool true) U (by rfl)<|Rm C U U<|Rm C U U<|Rm C U U<|R.int C U U U U b_eql<|R.fixv (t:=251) (v':= .bool true) U (Bv (by simp)) ?_;refine R.pickT C U U U U<|Rm C U U<|Rm C U U<|Rn C U U runUnderlying28<|Rm C U U<|Rn C U U runUnderlying28<|R.int C U U U U b_eql<|R.fixv (t:=258) (v':= .bool true) U (Bv (by simp)) ?_;refine R.pickT C U U U U<|Rm C U U<|Rm C U U<|Rm C U U<|R.int C U U U U b_eql<|R.fixv (t:=263) (v':= .bool true) U (Bv (by simp)) ?_;refine R.pickT C U U U U<|Rm C U U<|Rm C U U<|Rm C U U<|R.int C U U U U b_eql<|R.fixv (t:=268) (v':= .bool true) U (Bv (by simp)) ?_;refine R.pickT C U U U U<|Rm C U U<|Rm C U U<|Rm C U U<|R.int C U U U U b_eql<|R.fixv (t:=273) (v':= .bool true) U (Bv (by simp)) ?_;refine R.pickT C U U U U<|Rm C U U<|R.callR C U U U U ((hoisted_c _ (he.mono k16))) fun v19 ro19 hl19 hq19=>R.pickT C U U U U<|Ad C U U<|X.ret0 C (by kernel_rfl) U U func16 U (by exact(.tmp U .nil)) fun w9 hs9=>hret _ _ _ (RO.le_trans k16 hl19) ?_ w9 hs9
    exact hq19
end Go.Lg.B
namespace Go.Lg.B
open Go Go.Proofs Go.Proofs.YtchjgmkeemdhlaaGreatDoor Go.Proofs.Tryz
theorem anyOrder_k1:(Rows.tackleAnyOrderRow.inPlace==prog.inPlace 16)=true:=by kernel_rfl
theorem anyOrder_k2:(Rows.tackleAnyOrderRow.unfollowed==prog.unfollowed 16)=true:=by kernel_rfl
theorem anyOrder_k3:(Rows.tackleAnyOrderRow.recurses==prog.recurses 16)=true:=by kernel_rfl
theorem anyOrder_k4:(Rows.tackleAnyOrderRow.named==prog.varsNamed 16)=true:=by kernel_rfl
theorem anyOrder_name:prog.funcNamed "lagan/laganlaw07.TackleAnyOrder" =some 16:=by kernel_rfl
theorem anyOrder_goes:true=Rows.tackleAnyOrderRow.goesBy prog:=by kernel_rfl
theorem anyOrder_wf:Rows.tackleAnyOrderRow.wfByText (OpenSpec.ofChange Rows.tackleAnyOrderSpec)=true:=by kernel_rfl
theorem anyOrder_facts:joinedFacts prog 16 Tryz.f16 Rows.tackleAnyOrderSpec Rows.tackleAnyOrderRow=true:=by
 unfold joinedFacts
 exact(and_mk (and_mk (and_mk (and_mk (and_mk (and_mk (and_mk (and_mk (and_mk (and_mk (and_mk (and_mk (and_mk (and_mk (and_mk (and_mk (and_mk (and_mk (and_mk (and_mk (and_mk (and_mk (and_mk (and_mk (and_mk (and_mk (and_mk (and_mk (and_mk (and_mk (and_mk (by as_aux_lemma=>kernel_rfl)
  k_lo)
  k_mr)
  (by as_aux_lemma=>kernel_rfl))
  (by as_aux_lemma=>kernel_rfl))
  (by as_aux_lemma=>kernel_rfl))
  k_stops)
  (by as_aux_lemma=>kernel_rfl))
  k_knobs)
  anyOrder_k1)
  anyOrder_k2)
  anyOrder_k3)
  anyOrder_k4)
  (by as_aux_lemma=>kernel_rfl))
  (by as_aux_lemma=>kernel_rfl))
  (by as_aux_lemma=>kernel_rfl))
  (by as_aux_lemma=>kernel_rfl))
  (by as_aux_lemma=>kernel_rfl))
  (by as_aux_lemma=>kernel_rfl))
  (by as_aux_lemma=>kernel_rfl))
  (by as_aux_lemma=>kernel_rfl))
  (by as_aux_lemma=>kernel_rfl))
  (beq_iff_eq.2 k_pk.symm))
  (by as_aux_lemma=>kernel_rfl))
  k_heard)
  k_may)
  (beq_iff_eq.2 k_lift.symm))
  (beq_iff_eq.2 k_make))
  (by as_aux_lemma=>kernel_rfl))
  (by as_aux_lemma=>kernel_rfl))
  (by as_aux_lemma=>kernel_rfl))
  (by as_aux_lemma=>kernel_rfl))
end Go.Lg.B
namespace Go.Proofs.YtchjgmkeemdhlaaGreatDoor
open Go Go.Conc Go.Lg Go.Lg.B Go.ChangeShapes Go.RowKit Go.WideShapes
theorem anyOrder_lifted(os:Os)(started:os.Started)(H:Type)(enc:TypeId×Value→H):
  ReturnsInLeavingWide {} Tryz.checked os 16 .any (fun w args=>(Rows.tackleAnyOrderSpec.pre enc Tryz.prog Tryz.f16 [] false w args∧laidMetH Tryz.prog laid1 w)∧sizedMet enc Tryz.prog Tryz.f16 (OpenSpec.ofChange Rows.tackleAnyOrderSpec) false w args)
   (Rows.tackleAnyOrderSpec.post enc Tryz.prog Tryz.f16 false true false false):=by
 refine leaving_of_root (C:=Tryz.checked) (tb:=4) (X:=fun w _=>laidMetH Tryz.prog laid1 w) (fun _ _ _ hh h=>h.of_heap hh) own0 started Tryz.func16 laid0 (by
   intro t ht
   rw [Tryz.params16] at ht
   have hm:t∈ [27,5,5]:=ht
   have hall:([27,5,5].all fun u=>Tryz.prog.readableRec u && decide (u<Tryz.prog.types.size))=true:=by kernel_rfl
   have:=List.all_eq_true.1 hall t hm
   rw [Bool.and_eq_true,decide_eq_true_eq] at this
   exact this) rfl (by kernel_rfl) Tryz.underlying4
  (ChangeSpec.witness_shaped (enc:=enc) (C:=Tryz.checked) (os:=os) (X:=fun w _=>laidMetH Tryz.prog laid1 w) false (World.doorLaid Tryz.prog 89 os) #[.agg #[.int .i64 0, .slice none 0 0, .slice none 0 0, .slice none 0 0, .slice none 0 0], .int .u8 0, .int .u8 0] 8 rfl (door_shaped os _) (by kernel_rfl) (by kernel_rfl) (by kernel_rfl) (door_met os _)) ?_
 intro W base args ds gs before hval hW _ _ hL
 obtain⟨p,q,hA,hV,rfl,_,_⟩:=hW
 obtain⟨rfl,rfl⟩:=trodVars_none hV
 have hA:DataW.TrodAll enc Tryz.prog W 0 (fun _=>true) true Tryz.f16.params.toList args.toList ds p:=hA
 have hval:∀ (j:Nat) t v,Tryz.f16.params[j]? =some t→args[j]? =some v→Value.okWide Tryz.prog W .any base t v:=hval
 rw [Tryz.params16] at hA hval
 obtain⟨v1,l1,d1,k1,p1,q1,e1,rfl,rfl,h1,hA⟩:=trodAll_cons hA
 obtain⟨v2,l2,d2,k2,p2,q2,rfl,rfl,rfl,h2,hA⟩:=trodAll_cons hA
 obtain⟨v3,l3,d3,k3,p3,q3,rfl,rfl,rfl,h3,hA⟩:=trodAll_cons hA
 obtain⟨rfl,rfl,rfl⟩:=trodAll_nil hA
 have ea:args= #[v1,v2,v3]:=Array.toList_inj.1 e1
 subst ea
 obtain⟨b,b1⟩:=argBk (hval 0 27 v1 rfl rfl) h1
 obtain⟨a1,rfl,o1⟩:=argU8 (hval 1 5 v2 rfl rfl) h2
 obtain⟨a2,rfl,o2⟩:=argU8 (hval 2 5 v3 rfl rfl) h3
 exact⟨rfl,anyOrder_root o1 o2 (env_of_laid hL) b1⟩
theorem anyOrder_row:Rows.TackleAnyOrderSaid:=
 OpenClaim.holds_of_wide_leaving 16 Tryz.f16 rfl rfl rfl rfl rfl rfl rfl ⟨rfl,rfl,rfl,rfl,rfl⟩ rfl rfl rfl rfl rfl anyOrder_name Tryz.func16 anyOrder_facts
  (of_decide_eq_true (by kernel_rfl)) (by unfold Func.isWrapper;first|(rw [if_pos (by decide+kernel)];kernel_rfl)|(rw [if_neg (by decide+kernel)];exact⟨rfl,rfl⟩))
  (fun os started H enc _=>anyOrder_lifted os started H enc)
theorem anyOrder_holds:Rows.TackleAnyOrderCardSaid:=
 card_goes .later [.funcs] true (true, "6ec45924a9ef3528b91853e2f3d4ce9a8ac3f7423f5bdc8d9ecf7c969235976f") true
  anyOrder_row anyOrder_wf tackleAnyOrder_row_tie rfl ⟨rfl,rfl⟩ k_main rfl
  (fun f fn hf hfn=>by
   obtain rfl:f=16:=Option.some.inj (anyOrder_name.symm.trans hf)|>.symm
   obtain rfl:fn=Tryz.f16:=(Option.some.inj (Tryz.func16.symm.trans hfn)).symm
   exact⟨k_looks,fun j t ht=>by
    rw [Tryz.params16] at ht
    have hm:t∈ [27,5,5]:=by simpa using Array.mem_of_getElem? ht
    have hall:([27,5,5].all fun u=> !Tryz.prog.wantsStandIn u)=true:=by kernel_rfl
    exact(show Tryz.prog.wantsStandIn t=false by simpa using List.all_eq_true.1 hall t hm)⟩)
  anyOrder_goes
end Go.Proofs.YtchjgmkeemdhlaaGreatDoor
