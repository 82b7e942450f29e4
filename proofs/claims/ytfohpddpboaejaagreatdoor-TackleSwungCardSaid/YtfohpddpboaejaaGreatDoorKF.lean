/-
  Part 6 of what all proofs of this seat share: laws of the model that the walks use, and what functions of the program reckon. Conditions: the premises that each theorem states.
-/
import Derived.Test.YtfohpddpboaejaaGreatDoorKE
set_option maxRecDepth 100000
set_option linter.all false
set_option linter.unusedVariables false
set_option linter.unusedSimpArgs false
set_option linter.unusedSectionVars false
set_option maxRecDepth 100000
namespace Go.Lg.B
open Go Go.Conc Go.Lg Go.Proofs Go.Proofs.Tryz
theorem pullsGo_alike{b c:Bk}(h:∀x,b.sheaves x=c.sheaves x):∀ (q:List Int) (n:Int),pullsGo b n q=pullsGo c n q
 | [],_=>rfl
 |x::q,n=>by rw [pullsGo,pullsGo,h,pullsGo_alike h q]
theorem gives_alike{b c:Bk}(hw:b.w=c.w)(hg:b.gs=c.gs)(h:∀x,b.sheaves x=c.sheaves x)(p:List Int)(g n:Int):gives b p g n=gives c p g n:=by
 have e:∀g,b.gear g=c.gear g:=fun g=>by unfold Bk.gear;rw [hg]
 unfold gives pulls
 rw [hw,e,pullsGo_alike h]
theorem lifts_alike{b c:Bk}(hw:b.w=c.w)(hg:b.gs=c.gs)(h:∀x,b.sheaves x=c.sheaves x)(p:List Int)(g n:Int):lifts b p g n=lifts c p g n:=by
 unfold lifts;rw [gives_alike hw hg h]
theorem parts_borne:∀ {l:List Pt} {before:List (List UInt8)} {i:Nat} {r:Rc},isNarrow r 0=true→partsGo before l=0→partsGo before (l.modify i fun p=>{p with r:=r})=0
 | [],_,i,_,_,_=>by simp [partsGo]
 |x::l,before,i,r,hr,h=>by
  simp only [partsGo] at h
  obtain⟨h1,h⟩:=ite_same h
  obtain⟨h2,h⟩:=ite_zero Dd h
  simp only [Bool.or_eq_true,Bool.not_eq_true',not_or,Bool.not_eq_false] at h2
  cases i with
  |zero=>
   rw [List.modify_zero_cons]
   simp only [partsGo]
   rw [if_neg (by simp [h1]),if_neg (by simp [h2.1,hr])]
   exact h
  |succ i=>
   rw [List.modify_succ_cons]
   simp only [partsGo]
   rw [if_neg (by simp [h1]),if_neg (by simp [h2.1,h2.2])]
   exact parts_borne hr h
theorem check_borne{b:Bk}(hch:checkBook b=0)(i:Nat){r:Rc}(hr:isNarrow r 0=true):checkBook (b.borne i r)=0:=by
 obtain⟨w,p,g,c,t⟩:=check_parts hch
 have hlen:(b.borne i r).ps.length=b.ps.length:=List.length_modify ..
 have hp:(b.borne i r).partsH=0:=by
  unfold Bk.partsH at p⊢
  obtain⟨p1,p2⟩:=ite_zero Dd p
  rw [hlen,if_neg p1]
  exact parts_borne hr p2
 have hg:(b.borne i r).gearsH=0:=by
  unfold Bk.gearsH at g⊢
  rw [hlen];exact g
 have hw:(b.borne i r).winchH=0:=w
 have hc:(b.borne i r).piecesH=0:=c
 have ht:(b.borne i r).testsH=0:=t
 unfold checkBook
 rw [hw,hp,hg,hc,ht];rfl
theorem borne_sheaves(b:Bk)(i:Nat)(r:Rc)(x:Int):(b.borne i r).sheaves x=b.sheaves x:=by
 unfold Bk.sheaves Bk.borne
 simp only [List.getD_eq_getElem?_getD,List.getElem?_modify]
 cases b.ps[x.toNat]? with
 |none=>rfl
 |some q=>by_cases e:i=x.toNat<;>simp [e]
def Bk.noTests(b:Bk):Bk:={b with ts:= [] }
structure RenOk(b c:Bk)(l:List Int):Prop where
 w:c.w=b.w
 gs:c.gs=b.gs
 cs:c.cs=b.cs
 ts:c.ts=b.ts
 np:c.ps.length=b.ps.length
 sh:∀x,c.sheaves x=b.sheaves x
 ps:∀i:Nat,c.ps[i]? =b.ps[i]?.map fun p=>if(i:Int)∈l then {p with r:=⟨99,99⟩ } else p
 ch:checkBook b=0→checkBook c=0
theorem may_all{b:Bk}(hne:cases b≠ []){g p:Nat}:may b g p=1↔((cases b).all fun t=>lifts b t.1 g (nth t.2 p))=true:=by
 rw [may,how_one (List.length_pos_iff.2 hne),filter_all]
end Go.Lg.B
set_option maxRecDepth 100000
namespace Go.Lg.B
open Go Go.Conc Go.Lg Go.Proofs Go.Proofs.Tryz
def shOk(ng:Nat)(s:Nat→Nat→Bool):List Int→List Int→Bool
 |_, []=>true
 |gs,g::z=>between g 0 ((ng:Int) -1) && (!decide (g∈gs) && (s g.toNat gs.length && shOk ng s (gs++ [g]) z))
theorem range_first{α:Type}(f:Nat→Option α):∀n:Nat,(∀j,j<n→f j=none)∨∃g,g<n∧(∀j,j<g→f j=none)∧∃x,f g=some x
 |0=> .inl fun j h=>by omega
 |n+1=>by
  rcases range_first f n with h|⟨g,h1,h2⟩
  ·cases e:f n with
   |none=>
    refine .inl fun j hj=>?_
    by_cases e2:j=n
    ·rw [e2];exact e
    ·exact h j O
   |some x=>exact .inr ⟨n,O,h,x,e⟩
  ·exact .inr ⟨g,O,h2⟩
theorem share_law(ng:Nat)(s:Nat→Nat→Bool):∀ (r:Nat) (gs:List Int),
  (shareGo ng s r gs=none∧∀z:List Int,z.length=r→shOk ng s gs z=false)∨
  ∃z,shareGo ng s r gs=some (gs++z)∧z.length=r∧shOk ng s gs z=true∧∀z':List Int,z'.length=r→shOk ng s gs z'=true→¬cmpL z' z<0
 |0,gs=> .inr ⟨[],by simp [shareGo],rfl,rfl,fun z' hz _=>by
   rw [List.length_eq_zero_iff] at hz;subst hz;simp [cmpL]⟩
 |r+1,gs=>by
  have ih:=share_law ng s r
  have inv:∀ (g:Int) (z:List Int),shOk ng s gs (g::z)=true→∃j:Nat,g=j∧j<ng∧(j:Int)∉gs∧s j gs.length=true∧shOk ng s (gs++ [g]) z=true:=fun g z h=>by
   simp only [shOk,Bool.and_eq_true,between_iff,Bool.not_eq_true',decide_eq_false_iff_not] at h
   obtain⟨j,rfl⟩:=Int.eq_ofNat_of_zero_le h.1.1
   exact⟨j,rfl,O,h.2.1,by simpa using h.2.2.1,h.2.2.2⟩
  have e:shareGo ng s (r+1) gs=(List.range ng).findSome? fun g=>if s g gs.length && !decide ((g:Int)∈gs) then shareGo ng s r (gs++ [(g:Int)]) else none:=rfl
  rw [e]
  generalize hf:(fun g:Nat=>if s g gs.length && !decide ((g:Int)∈gs) then shareGo ng s r (gs++ [(g:Int)]) else none)=f
  have hfe:∀g:Nat,s g gs.length=true→(g:Int)∉gs→f g=shareGo ng s r (gs++ [(g:Int)]):=fun g h1 h2=>by rw [←hf];simp [h1,h2]
  rcases range_first f ng with h|⟨g,h1,h2,x,h3⟩
  ·refine .inl ⟨findSome_miss h,fun z hz=>?_⟩
   cases z with
   |nil=>simp at hz
   |cons g z=>
    cases hs:shOk ng s gs (g::z) with
    |false=>rfl
    |true=>
     obtain⟨j,rfl,h4,h5,h6,h7⟩:=inv g z hs
     have h8:=h j h4
     rw [hfe j h6 h5] at h8
     rcases ih (gs++ [(j:Int)]) with⟨_,k2⟩|⟨z',k1,_⟩
     ·have:=k2 z (by simpa using hz)
      rw [h7] at this;cases this
     ·rw [k1] at h8;cases h8
  ·have hg:s g gs.length=true∧(g:Int)∉gs:=by
    rw [←hf] at h3
    simp only at h3
    split at h3
    ·rename_i h4;simpa using h4
    ·cases h3
   rw [findSome_hit h1 h2 h3]
   rw [hfe g hg.1 hg.2] at h3
   rcases ih (gs++ [(g:Int)]) with⟨k1,_⟩|⟨z,k1,k2,k3,k4⟩
   ·rw [k1] at h3;cases h3
   ·rw [k1] at h3
    have hx:=Option.some.inj h3
    refine .inr ⟨(g:Int)::z,by rw [←hx];simp,by simp [k2], ?_,fun z' hz hs=>?_⟩
    ·simp only [shOk,Bool.and_eq_true,between_iff,Bool.not_eq_true',decide_eq_false_iff_not,Int.toNat_natCast]
     exact⟨O,hg.2,hg.1,k3⟩
    ·cases z' with
     |nil=>simp at hz
     |cons g' z'=>
      obtain⟨j,rfl,h4,h5,h6,h7⟩:=inv g' z' hs
      by_cases hlt:j<g
      ·have h8:=h2 j hlt
       rw [hfe j h6 h5] at h8
       rcases ih (gs++ [(j:Int)]) with⟨_,q2⟩|⟨z2,q1,_⟩
       ·have:=q2 z' (by simpa using hz)
        rw [h7] at this;cases this
       ·rw [q1] at h8;cases h8
      ·rw [cmpL]
       by_cases heq:j=g
       ·subst heq
        rw [if_neg (by simp [cmpI])]
        exact k4 z' (by simpa using hz) h7
       ·have:cmpI (j:Int) g=1:=by unfold cmpI;rw [if_neg O,if_pos O]
        rw [this,if_pos Dd];decide
theorem shOk_cong{ng:Nat}{s s':Nat→Nat→Bool}{nc:Nat}(h:∀g p,g<ng→p<nc→s g p=s' g p):∀ (z gs:List Int),gs.length+z.length≤nc→shOk ng s gs z=shOk ng s' gs z
 | [],_,_=>rfl
 |g::z,gs,hn=>by
  rw [List.length_cons] at hn
  simp only [shOk]
  by_cases hb:between g 0 ((ng:Int) -1)=true
  ·have hb':=between_iff.1 hb
   rw [h g.toNat gs.length O O,shOk_cong h z (gs++ [g]) Zo]
  ·simp only [Bool.not_eq_true] at hb
   rw [hb];rfl
def mayS(b:Bk)(g p:Nat):Bool:=may b g p==1
theorem sureM_may{b:Bk}(hne:cases b≠ []){g p:Nat}(hg:g<b.gs.length)(hp:p<b.cs.length):sureM b 0 g p=mayS b g p:=by
 have e:sure b 0 g p=decide (may b g p=1):=by
  rw [Bool.eq_iff_iff,decide_eq_true_eq,may_all hne]
  have:(fun t:Tn=>lifts b (renew 0 (pad 4 t.1)) g (nth t.2 p))=fun t=>lifts b t.1 g (nth t.2 p):=by
   funext t;rw [renew_zero,lifts_pad]
  rw [sure,this]
 unfold sureM mayS
 rw [e]
 simp only [hg,hp,decide_true,Bool.true_and]
 rw [Bool.eq_iff_iff];simp
theorem shareR_law{b:Bk}(hch:checkBook b=0)(hne:cases b≠ []):
  ((shareR b)=(none,0)∧∀z:List Int,z.length=b.cs.length→shOk b.gs.length (mayS b) [] z=false)∨
  ∃z,shareR b=(some z,0)∧z.length=b.cs.length∧shOk b.gs.length (mayS b) [] z=true∧∀z':List Int,z'.length=b.cs.length→shOk b.gs.length (mayS b) [] z'=true→¬cmpL z' z<0:=by
 have hop:=open_zero hch hne
 have hcg:∀z:List Int,z.length=b.cs.length→shOk b.gs.length (sureM b 0) [] z=shOk b.gs.length (mayS b) [] z:=fun z hz=>shOk_cong (nc:=b.cs.length) (fun g p hg hp=>sureM_may hne hg hp) z [] (by simp [hz])
 have e:shareR b=(shareGo b.gs.length (sureM b 0) b.cs.length [],0):=by rw [shareR,hop];rfl
 rw [e]
 rcases share_law b.gs.length (sureM b 0) b.cs.length [] with⟨h1,h2⟩|⟨z,h1,h2,h3,h4⟩
 ·exact .inl ⟨by rw [h1],fun z hz=>by rw [←hcg z hz];exact h2 z hz⟩
 ·exact .inr ⟨z,by rw [h1];rfl,h2,by rw [←hcg z h2];exact h3,fun z' hz hs=>h4 z' hz (by rw [hcg z' hz];exact hs)⟩
end Go.Lg.B
set_option maxRecDepth 100000
namespace Go.Lg.B
open Go Go.Conc Go.Lg Go.Proofs Go.Proofs.Tryz
theorem nums_meet(r y:Rc):(r.meet y).nums=r.nums.filter fun x=>between x y.lo y.hi:=by
 refine asc_unique (rz_asc _ _) ((rz_asc _ _).filter _) fun x=>?_
 show x∈(r.meet y).nums↔x∈r.nums.filter _
 rw [mem_nums,List.mem_filter,mem_nums,between_iff]
 simp only [Rc.meet]
 omega
theorem flatMap_cond{α β:Type}{f:α→List β}{q:α→Bool}{p:β→Bool}:∀L:List α,(∀n∈L,∀l∈f n,p l=q n)→(L.filter q).flatMap f=(L.flatMap f).filter p
 | [],_=>rfl
 |n::L,h=>by
  have ih:=flatMap_cond L fun m hm=>h m (by simp [hm])
  rw [List.flatMap_cons,List.filter_append, ←ih,List.filter_cons]
  by_cases e:q n=true
  ·have e1:(f n).filter p=f n:=List.filter_eq_self.2 fun l hl=>by rw [h n Zi l hl,e]
   rw [if_pos e,List.flatMap_cons,e1]
  ·have e1:(f n).filter p= []:=List.filter_eq_nil_iff.2 fun l hl=>by rw [h n Zi l hl];exact e
   rw [if_neg e,e1,List.nil_append]
theorem spread_meet:∀ (rs:List Rc) (i:Nat) (y:Rc),i<rs.length→spread (rs.modify i fun r=>r.meet y)=(spread rs).filter fun l=>between (nth l i) y.lo y.hi
 | [],_,_,h=>by simp at h
 |r::rs,0,y,_=>by
  rw [List.modify_zero_cons]
  simp only [spread]
  rw [nums_meet]
  refine flatMap_cond _ fun n _ l hl=>?_
  obtain⟨k,_,rfl⟩:=List.mem_map.1 hl
  rfl
 |r::rs,i+1,y,h=>by
  rw [List.modify_succ_cons]
  simp only [spread]
  rw [List.filter_flatMap,spread_meet rs i y (by simpa using h)]
  congr 1
  funext n
  rw [List.filter_map]
  rfl
theorem cases_part{b c:Bk}{p:List Int→Bool}(h1:bearsL c=(bearsL b).filter p)(h2:weightsL c=weightsL b):cases c=(cases b).filter fun t=>p t.1:=by
 unfold cases
 rw [h1,h2]
 refine flatMap_cond _ fun n _ l hl=>?_
 obtain⟨k,_,rfl⟩:=List.mem_map.1 hl
 rfl
theorem borne_rs{b:Bk}{i:Int}(h0:0≤i)(h1:i<b.ps.length)(y:Rc):(b.borne i.toNat ((b.part i).r.meet y)).ps.map Pt.r=(b.ps.map Pt.r).modify i.toNat fun r=>r.meet y:=by
 have hk:i.toNat<b.ps.length:=O
 have hp:b.part i=b.ps[i.toNat]:=by simp [Bk.part,List.getD_eq_getElem?_getD,hk]
 refine List.ext_getElem? fun j=>?_
 unfold Bk.borne
 simp only [List.getElem?_map,List.getElem?_modify]
 by_cases e:i.toNat=j
 ·subst e
  rw [List.getElem?_eq_getElem hk,hp];simp
 ·cases b.ps[j]? <;>simp [e]
theorem right_alike{b c:Bk}(hw:b.w=c.w)(hg:b.gs=c.gs)(ht:b.ts=c.ts)(h:∀x,b.sheaves x=c.sheaves x)(p:List Int):right b p=right c p:=by
 unfold right
 rw [ht]
 congr 1
 funext t
 rw [lifts_alike hw hg h]
theorem cases_borne{b:Bk}{i:Int}(h0:0≤i)(h1:i<b.ps.length)(y:Rc):cases (b.borne i.toNat ((b.part i).r.meet y))=(cases b).filter fun t=>between (nth t.1 i) y.lo y.hi:=by
 refine cases_part (p:=fun l=>between (nth l i) y.lo y.hi) ?_ U
 unfold bearsL
 rw [borne_rs h0 h1,spread_meet _ _ _ (by rw [List.length_map];omega),List.filter_filter,List.filter_filter]
 refine List.filter_congr fun p _=>?_
 rw [right_alike (b:=b.borne i.toNat ((b.part i).r.meet y)) (c:=b) rfl rfl rfl (borne_sheaves b _ _),show((i.toNat:Nat):Int)=i by omega,Bool.and_comm]
theorem bearsOf_mem{b:Bk}{i x:Int}:x∈bearsOf b i↔ ∃t∈cases b,nth t.1 i=x:=by rw [bearsOf,numbers_mem,List.mem_map]
theorem bears_in{b:Bk}{i:Int}(h0:0≤i)(h1:i<b.ps.length){p:List Int}(hp:p∈bearsL b):(b.part i).r.lo≤nth p i∧nth p i≤(b.part i).r.hi:=by
 have hk:i.toNat<b.ps.length:=O
 have hpk:b.part i=b.ps[i.toNat]:=by simp [Bk.part,List.getD_eq_getElem?_getD,hk]
 obtain⟨_,h⟩:=mem_spread.1 (mem_of_filter hp)
 obtain⟨x,hx,h3⟩:=h i.toNat (b.ps[i.toNat]).r (by simp [hk])
 rw [hpk]
 simpa [nth,List.getD_eq_getElem?_getD,hx] using h3
theorem asc_len{lo:Int}{m:Nat}{l:List Int}(ha:l.Pairwise (· < ·))(h:∀x∈l,lo≤x∧x<lo+m):l.length≤m:=by
 have h1:(l.map fun x=>x-lo).Nodup:=by
  refine List.pairwise_map.2 (ha.imp fun h=>?_)
  omega
 have:=nodup_len (m:=m) h1 fun n hn=>by
  obtain⟨x,hx,rfl⟩:=List.mem_map.1 hn
  have:=h x hx;omega
 simpa using this
structure NoLess(b c:Bk):Prop where
 gs:c.gs.length=b.gs.length
 cs:c.cs.length=b.cs.length
 ps:c.ps.length=b.ps.length
 sure:∀m g p:Nat,g<b.gs.length→p<b.cs.length→sure b m g p=true→sure c m g p=true
 most:∀g:Int,0≤g→g<b.gs.length→most b g≤most c g
 weak:∀g n:Int,0≤g→g<b.gs.length→∀x∈weak c g n,x∈weak b g n
theorem NoLess.sureM{b c:Bk}(h:NoLess b c)(m g p:Nat)(hs:sureM b m g p=true):sureM c m g p=true:=by
 simp only [Go.Lg.B.sureM,Bool.and_eq_true,decide_eq_true_eq] at hs⊢
 rw [h.gs,h.cs]
 exact⟨hs.1,hs.2.1,h.sure _ _ _ hs.1 hs.2.1 hs.2.2⟩
theorem NoLess.lifted{b c:Bk}(h:NoLess b c){m x:Nat}(hl:Go.Lg.B.lifted b (Go.Lg.B.sureM b m) x=true):Go.Lg.B.lifted c (Go.Lg.B.sureM c m) x=true:=by
 unfold Go.Lg.B.lifted at hl⊢
 rw [h.cs,h.gs]
 rw [List.all_eq_true] at hl⊢
 intro p hp
 have:=hl p hp
 rw [List.any_eq_true] at this⊢
 obtain⟨g,h1,h2⟩:=this
 rw [Bool.and_eq_true] at h2
 exact⟨g,h1,by rw [Bool.and_eq_true];exact⟨h2.1,h.sureM _ _ _ h2.2⟩⟩
theorem fewer{n:Nat}{is is':Nat→Bool}(h:∀m,is m=true→is' m=true){p:List Int}(hp:fewestOf n is=some p):∃q,fewestOf n is'=some q∧q.length≤p.length:=by
 by_cases hq:∃m,m<2^n∧is m=true
 ·obtain⟨m,h1,h2⟩:=hq
  obtain⟨y,h3,⟨m',h4,h5,rfl⟩,_⟩:=fewestOf_some h1 h2
  rw [h3] at hp
  obtain rfl:=Option.some.inj hp
  obtain⟨q,q1,_,q3⟩:=fewestOf_some h4 (h _ h5)
  refine⟨q,q1, ?_⟩
  have:=q3 m' h4 (h _ h5)
  rw [smaller_iff] at this
  omega
 ·rw [fewestOf_none fun m hm=>by
   cases e:is m
   ·rfl
   ·exact absurd ⟨m,hm,e⟩ hq] at hp
  cases hp
theorem shOk_mono{ng:Nat}{s s':Nat→Nat→Bool}{nc:Nat}(h:∀g p,g<ng→p<nc→s g p=true→s' g p=true):∀ (z gs:List Int),gs.length+z.length≤nc→shOk ng s gs z=true→shOk ng s' gs z=true
 | [],_,_,_=>rfl
 |g::z,gs,hn,hz=>by
  rw [List.length_cons] at hn
  simp only [shOk,Bool.and_eq_true] at hz⊢
  have hb':=between_iff.1 hz.1
  exact⟨hz.1,hz.2.1,h _ _ O O hz.2.2.1,shOk_mono h z (gs++ [g]) Zo hz.2.2.2⟩
theorem NoLess.share{b c:Bk}(h:NoLess b c)(hb:checkBook b=0)(hc:checkBook c=0)(nb:cases b≠ [])(nc:cases c≠ [])(hs:(shareR b).1.isSome=true):(shareR c).1.isSome=true:=by
 rcases shareR_law hb nb with⟨e,_⟩|⟨z,e,h1,h2,_⟩
 ·rw [e] at hs;cases hs
 ·rcases shareR_law hc nc with⟨_,e2⟩|⟨z',e2,_⟩
  ·have h3:shOk c.gs.length (mayS c) [] z=true:=by
    rw [h.gs]
    refine shOk_mono (nc:=b.cs.length) (fun g p hg hp hm=>?_) z [] (by simp [h1]) h2
    rw [←sureM_may nb hg hp] at hm
    rw [←sureM_may nc (by rw [h.gs];exact hg) (by rw [h.cs];exact hp)]
    exact h.sureM _ _ _ hm
   rw [e2 z (by rw [h1,h.cs])] at h3;cases h3
  ·rw [e2];rfl
theorem NoLess.fewest{b c:Bk}(h:NoLess b c)(hb:checkBook b=0)(hc:checkBook c=0)(nb:cases b≠ [])(nc:cases c≠ [])(hs:(fewestR b).1.isSome=true):(fewestR c).1.isSome=true∧((fewestR c).1.getD []).length≤((fewestR b).1.getD []).length:=by
 have e1:fewestR b=(fewestOf b.gs.length (Go.Lg.B.lifted b (Go.Lg.B.sureM b 0)),0):=by rw [fewestR,open_zero hb nb];rfl
 have e2:fewestR c=(fewestOf c.gs.length (Go.Lg.B.lifted c (Go.Lg.B.sureM c 0)),0):=by rw [fewestR,open_zero hc nc];rfl
 rw [e1] at hs⊢
 rw [e2,h.gs]
 obtain⟨p,hp⟩:=Option.isSome_iff_exists.1 hs
 obtain⟨q,hq,hl⟩:=fewer (is':=Go.Lg.B.lifted c (Go.Lg.B.sureM c 0)) (fun m hm=>h.lifted hm) hp
 simp only at hp⊢
 rw [hp,hq]
 exact⟨rfl,hl⟩
theorem NoLess.renew{b c:Bk}(h:NoLess b c)(hb:checkBook b=0)(hc:checkBook c=0)(nb:cases b≠ [])(nc:cases c≠ [])(hs:(renewR b).1.isSome=true):(renewR c).1.isSome=true∧((renewR c).1.getD []).length≤((renewR b).1.getD []).length:=by
 have e1:renewR b=(fewestOf b.ps.length (fun mask=>Go.Lg.B.lifted b (Go.Lg.B.sureM b mask) (2^b.gs.length-1)),0):=by rw [renewR,open_zero hb nb];rfl
 have e2:renewR c=(fewestOf c.ps.length (fun mask=>Go.Lg.B.lifted c (Go.Lg.B.sureM c mask) (2^c.gs.length-1)),0):=by rw [renewR,open_zero hc nc];rfl
 rw [e1] at hs⊢
 rw [e2,h.gs,h.ps]
 obtain⟨p,hp⟩:=Option.isSome_iff_exists.1 hs
 obtain⟨q,hq,hl⟩:=fewer (is':=fun mask=>Go.Lg.B.lifted c (Go.Lg.B.sureM c mask) (2^b.gs.length-1)) (fun m hm=>h.lifted hm) hp
 simp only at hp⊢
 rw [hp,hq]
 exact⟨rfl,hl⟩
structure Fewer(b c:Bk):Prop where
 w:c.w=b.w
 gs:c.gs=b.gs
 nc:c.cs.length=b.cs.length
 np:c.ps.length=b.ps.length
 sh:∀x,c.sheaves x=b.sheaves x
 cases:(cases c).Sublist (cases b)
theorem Fewer.lifts{b c:Bk}(h:Fewer b c)(p:List Int)(g n:Int):lifts c p g n=lifts b p g n:=lifts_alike h.w h.gs h.sh p g n
theorem Fewer.allLift{b c:Bk}(h:Fewer b c){g n:Int}(ha:allLift b g n=true):allLift c g n=true:=by
 unfold Go.Lg.B.allLift at ha⊢
 rw [List.all_eq_true] at ha⊢
 intro t ht
 rw [h.lifts];exact ha t (h.cases.subset ht)
theorem most_le{b c:Bk}(hb:b.good)(hc:c.good){g:Int}(h0:0≤g)(h1:g<b.gs.length)(h2:g<c.gs.length)(h:∀n,0≤n→n≤99→allLift b g n=true→allLift c g n=true):most b g≤most c g:=by
 obtain⟨a1,a2,a3⟩:=most_law hb h0 h1
 obtain⟨_,_,c3⟩:=most_law hc h0 h2
 exact(c3 _ a1 a2).1 (h _ a1 a2 ((a3 _ a1 a2).2 (Int.le_refl _)))
theorem Fewer.noLess{b c:Bk}(h:Fewer b c)(hb:b.good)(hc:c.good):NoLess b c where
 gs:=by rw [h.gs]
 cs:=h.nc
 ps:=h.np
 sure:=fun m g p _ _ hs=>by
  unfold Go.Lg.B.sure at hs⊢
  rw [List.all_eq_true] at hs⊢
  intro t ht
  rw [h.lifts];exact hs t (h.cases.subset ht)
 most:=fun g h0 h1=>most_le hb hc h0 h1 (by rw [h.gs];exact h1) fun n _ _ ha=>h.allLift ha
 weak:=fun g n _ _ x hx=>by
  obtain⟨t,ht,hg⟩:=weak_mem.1 hx
  rw [gives_alike h.w h.gs h.sh] at hg
  exact weak_mem.2 ⟨t,h.cases.subset ht,hg⟩
theorem Fewer.bears{b c:Bk}(h:Fewer b c)(i:Int):insideL (bearsOf c i) (bearsOf b i)=true:=by
 unfold insideL
 rw [List.all_eq_true]
 intro x hx
 rw [List.contains_iff_mem]
 obtain⟨t,ht,e⟩:=bearsOf_mem.1 hx
 exact bearsOf_mem.2 ⟨t,h.cases.subset ht,e⟩
theorem Fewer.may{b c:Bk}(h:Fewer b c)(hne:Go.Lg.B.cases c≠ []){g k:Int}(hu:may b g k≠0):may c g k=may b g k:=by
 have hnb:Go.Lg.B.cases b≠ []:=fun e=>by have:=h.cases;rw [e] at this;exact hne (List.sublist_nil.1 this)
 unfold Go.Lg.B.may at hu⊢
 have el:(fun t:Tn=>Go.Lg.B.lifts c t.1 g (nth t.2 k))=fun t=>Go.Lg.B.lifts b t.1 g (nth t.2 k):=by funext t;rw [h.lifts]
 rw [el]
 have hs:=h.cases
 generalize Go.Lg.B.cases c=C at hne hs
 generalize Go.Lg.B.cases b=B at hnb hs hu
 have lc:=List.length_pos_iff.2 hne
 have lb:=List.length_pos_iff.2 hnb
 unfold how at hu⊢
 by_cases e1:(B.filter fun t=>Go.Lg.B.lifts b t.1 g (nth t.2 k)).length=0
 ·have e2:(C.filter fun t=>Go.Lg.B.lifts b t.1 g (nth t.2 k)).length=0:=by
   have:=(hs.filter fun t=>Go.Lg.B.lifts b t.1 g (nth t.2 k)).length_le;omega
  rw [if_pos e1,if_pos e2]
 ·rw [if_neg e1] at hu⊢
  by_cases e2:(B.filter fun t=>Go.Lg.B.lifts b t.1 g (nth t.2 k)).length=B.length
  ·rw [if_pos e2]
   have ha:=filter_all.1 e2
   have hca:C.all (fun t=>Go.Lg.B.lifts b t.1 g (nth t.2 k))=true:=by
    rw [List.all_eq_true] at ha⊢
    exact fun t ht=>ha t (hs.subset ht)
   have e3:=filter_all.2 hca
   rw [if_neg O,if_pos e3]
  ·rw [if_neg e2] at hu;exact absurd rfl hu
end Go.Lg.B
set_option maxRecDepth 100000
namespace Go.Lg.B
open Go Go.Conc Go.Lg Go.Proofs Go.Proofs.Tryz
theorem ones_ps(xs:List Pt):ones (xs.flatMap Pt.cells)=true:=ones_flat (fun _=>rfl) xs
section
variable {main:Bool}{J:Goroutine→Mem→Prop}(hJ:Closed prog main J)
include hJ
theorem borneR_c{b:Bk}{v:Value}{ro:RO}(hv:BkV ro v b)(hn:b.ps.length≤1000){i:Int}(hi:0≤i∧i<b.ps.length)(r:Rc):CallR prog J (fnv 82) [v, .int .i64 i,r.val] ro (fun w ro'=>BkV ro' w (b.borne i.toNat r)):=by
 obtain⟨vp,vg,vc,vt,rfl,hv⟩:=hv
 obtain⟨pb,pcap,rfl⟩:=hv.1.form
 obtain⟨gb,gcap,rfl⟩:=hv.2.1.form
 obtain⟨cb,ccap,rfl⟩:=hv.2.2.1.form
 obtain⟨tb,tcap,rfl⟩:=hv.2.2.2.form
 have hil:i.toNat<b.ps.length:=O
 have hfl:=flatMap_len Pt.len b.ps
 refine CallR.intro hJ Kr fun c cs tail hret=>enter_X (n:=19) func82 U U (Nl U) ?_
 have C:Ctx prog main J (bf 82 .normal):=⟨hJ,by decide⟩
 refine Xr C U U<|R.box C U U U U fun p3=>R.box C U U U U fun p5=>R.alloc C U U zeroValue27 U fun p6=>R.done C<|Xr C U U<|R.buildSlice C (vs:=_) U U (show pvals _ _=some (numbered 0 []) from rfl) U runUnderlying22 sizeOf169 zeroValue169 Dd (.nil) fun p7=>Rf C 1 U U runUnderlying27 U sizeOf22<|Rl C U U isAgg22 V U<|R.append (kk:=4) C U U U U runUnderlying22 runUnderlying22 (fun _=>nofun) (show prog.info? 169=some Tryz.t169 by kernel_rfl) U U U Dd Dd (Buf.blk (cells:= []) (spare:= []) (len:=0) (cap:=0) U U (Nat.le_refl _)) (hv.1.rd Pt.len) (ones_ps b.ps) (by simp only [List.length_nil];omega) fun v' own' hb'=>Rf C 1 U U runUnderlying27 U sizeOf22 ?_
 obtain⟨own1,rfl,hb1⟩:=hb'.unapp (tail:= [])
 rw [List.nil_append] at hb1
 obtain⟨p9,cap9,sp9,rfl,hcap9,rfl⟩:=blk_of Pt.len Dd hb1 (by intro h;rw [h] at hil;exact absurd hil (Nat.not_lt_zero _))
 refine R.store C U U U U sizeOf22 U U U V (.skip (.here .nil)) ?_
 have hmf:=modify_flat (enc:=Pt.cells) (k:=4) Pt.len (fun p=>{p with r:=r}) b.ps i.toNat sp9 2 [.int .i64 r.lo, .int .i64 r.hi] hil (fun x _=> .skip (.skip Ph2))
 have hml:(b.ps.modify i.toNat fun p=>{p with r:=r}).length=b.ps.length:=by simp
 have eo:0+i.toNat*4+2=i.toNat*4+2:=O
 rw [←eo] at hmf
 refine R.done C<|Xr C U U<|Rf C 1 U U runUnderlying27 U sizeOf22<|Rl C U U isAgg22 V U<|Rm C U U<|R5 C U U isAgg45 sizeOf45 V Tk2<|Rx C U U U runUnderlying22 sizeOf169<|R.fieldAddr C U U U runUnderlying169 U sizeOf45 U<|R.store C U U U U sizeOf45 U U U V hmf<|R.done C<|Xs C<|X.persist C.1 fun ro4 hl4 h9=>?_
 have hls:Ls Pt.cells 4 ro4 (.slice (some ⟨p9,0,none⟩) b.ps.length cap9) (b.ps.modify i.toNat fun p=>{p with r:=r}):=⟨_,_,by rw [hml], .inr ⟨p9,0,_,_,_,rfl,h9,by rw [←flatMap_len Pt.len];exact Sub.front _ _⟩⟩
 have hv4:=hv.mono hl4
 refine X.region C U U<|R5 C U U isAgg27 sizeOf27 V Tk5<|R.store C U U U U sizeOf27 U U U V Ph5<|R.done C<|X.ret C U U func82 U (by exact(.agg U isAgg27 sizeOf27 V Tk5 .nil))<|Hr hret hl4 ?_
 exact⟨_,_,_,_,rfl,hls,hv4.2.1,hv4.2.2.1,hv4.2.2.2⟩
end
end Go.Lg.B
namespace Go.Lg
open Go Go.Conc
inductive FsOk(P:Program)(d:Nat)(a b:List Value):List Field→Bool→Prop
 |nil:FsOk P d a b [] true
 |cons {f:Field} {fs:List Field} {x y:Value} {r rs:Bool}:f.name≠ "_" →(∀ (M:Mem) (K:Value→Mem→Prop),K x M→Sm P M (part f.type a.toArray f.offset) K)→(∀ (M:Mem) (K:Value→Mem→Prop),K y M→Sm P M (part f.type b.toArray f.offset) K)→Eq1 P d f.type x y r→FsOk P d a b fs rs→FsOk P d a b (f::fs) (r && rs)
theorem Eq1.int{P:Program}{d:Nat}{t:TypeId}{x y:Int}(hu:∀w,Sem.run P (Go.underlying t) w= .ok (.int .i64) w):Eq1 P (d+1) t (.int .i64 x) (.int .i64 y) (x==y):=by
 intro M K hk
 unfold Op.equalIn
 refine Sm.bind (Sm.underlying hu ?_)
 simp only [if_true]
 exact Sm.pure hk
theorem Eq1.bool{P:Program}{d:Nat}{t:TypeId}{x y:Bool}(hu:∀w,Sem.run P (Go.underlying t) w= .ok .bool w):Eq1 P (d+1) t (.bool x) (.bool y) (x==y):=by
 intro M K hk
 unfold Op.equalIn
 refine Sm.bind (Sm.underlying hu ?_)
 exact Sm.pure hk
theorem bts_beq(x y:List UInt8):((⟨x.toArray⟩:ByteArray)==⟨y.toArray⟩)=(x==y):=by
 show(x.toArray==y.toArray)=(x==y)
 simp
theorem Eq1.str{P:Program}{d:Nat}{t:TypeId}{x y:List UInt8}(hu:∀w,Sem.run P (Go.underlying t) w= .ok .string w):Eq1 P (d+1) t (strV x) (strV y) (x==y):=by
 intro M K hk
 unfold Op.equalIn
 refine Sm.bind (Sm.underlying hu ?_)
 simp only [bts_beq]
 exact Sm.pure hk
end Go.Lg
set_option maxRecDepth 100000
namespace Go.Lg.B
open Go Go.Conc Go.Lg Go.Proofs Go.Proofs.Tryz
structure Bk.tiny(b:Bk):Prop where
 ps:b.ps.length≤1000
 gs:b.gs.length≤1000∧∀g∈b.gs,g.length≤1000
 cs:b.cs.length≤1000
 ts:b.ts.length≤1000
variable {main:Bool}{J:Goroutine→Mem→Prop}(hJ:Closed prog main J)
include hJ
end Go.Lg.B
set_option maxRecDepth 100000
namespace Go.Lg.B
open Go Go.Conc Go.Lg Go.Proofs Go.Proofs.Tryz
theorem mostR_eq{b:Bk}(hch:checkBook b=0)(hne:cases b≠ []){g:Int}(h:0≤g∧g<b.gs.length):mostR b g=(most b g,0):=by
 rw [mostR,mostH_eq (there_zero.2 h),open_zero hch hne];rfl
theorem weakR_eq{b:Bk}(hch:checkBook b=0)(hne:cases b≠ []){g n:Int}(h:0≤g∧g<b.gs.length)(hn:1≤n∧n≤99):weakR b g n=(weak b g n,0):=by
 rw [weakR,weakH_eq (there_zero.2 h) (loadH_zero.2 hn),open_zero hch hne];rfl
theorem mayR_eq{b:Bk}(hch:checkBook b=0)(hne:cases b≠ []){g k:Int}(h:0≤g∧g<b.gs.length)(hk:0≤k∧k<b.cs.length):mayR b g k=(may b g k,0):=by
 rw [mayR,mayH_eq (there_zero.2 h) (there_zero.2 hk),open_zero hch hne];rfl
theorem bearsR_eq{b:Bk}(hch:checkBook b=0)(hne:cases b≠ []){i:Int}(h:0≤i∧i<b.ps.length):bearsR b i=(bearsOf b i,0):=by
 rw [bearsR,there_zero.2 h,open_zero hch hne];rfl
theorem casesOf_eq{b:Bk}(hch:checkBook b=0):casesOf b=(((cases b).length:Int),0):=by rw [casesOf,if_neg (fun h=>h hch)]
theorem fewestR_zero{b:Bk}(hch:checkBook b=0)(hne:cases b≠ []):(fewestR b).2=0:=by rw [fewestR,open_zero hch hne];rfl
theorem renewR_zero{b:Bk}(hch:checkBook b=0)(hne:cases b≠ []):(renewR b).2=0:=by rw [renewR,open_zero hch hne];rfl
theorem shareR_zero{b:Bk}(hch:checkBook b=0)(hne:cases b≠ []):(shareR b).2=0:=by rw [shareR,open_zero hch hne];rfl
theorem bearsOf_len{b:Bk}(hb:b.good){i:Int}(h:0≤i∧i<b.ps.length):(bearsOf b i).length≤3:=by
 have hk:i.toNat<b.ps.length:=O
 have hp:b.part i=b.ps[i.toNat]:=by simp [Bk.part,List.getD_eq_getElem?_getD,hk]
 have hf:=hb.ps _ (List.getElem_mem hk)
 rw [←hp] at hf
 unfold Pt.fine at hf
 refine asc_len (lo:=(b.part i).r.lo) (m:=3) (numbers_asc _) fun x hx=>?_
 obtain⟨t,ht,rfl⟩:=bearsOf_mem.1 hx
 have:=bears_in h.1 h.2 (mem_cases.1 ht).1
 omega
section
theorem noLessR_c{Q:Machine→Outcome→World→Trace→Prop}{b d:Bk}{vb vd:Value}{ro:RO}(he:Env ro)(hvb:BkV ro vb b)(hvd:BkV ro vd d)(hb:checkBook b=0)(hd:checkBook d=0)(nb:cases b≠ [])(nd:cases d≠ [])(hl:NoLess b d){g n:Int}(hg:0≤g∧g<b.gs.length)(hn:1≤n∧n≤99):
  CallR prog (JM prog Q) (fnv 15) [vb,vd, .int .i64 g, .int .i64 n] ro (fun w _=>w= .bool true):=by
 have hJ:Closed prog true (JM prog Q):=JM.closed
 let main:=true
 let J:=JM prog Q
 have gb:=good_of hb
 have gd:=good_of hd
 have sb:=short_of (not_great hb)
 have sd:=short_of (not_great hd)
 have hg2:0≤g∧g<d.gs.length:=by rw [hl.gs];exact hg
 have wl1:=weak_len gb (n:=n) hg.1 hg.2
 have wl2:=weak_len gd (n:=n) hg2.1 hg2.2
 have hml:=hl.most g hg.1 hg.2
 have hin:insideL (weak d g n) (weak b g n)=true:=by
  unfold insideL;rw [List.all_eq_true];intro x hx;rw [List.contains_iff_mem];exact hl.weak g n hg.1 hg.2 x hx
 have m1:=mostR_eq hb nb hg
 have m2:=mostR_eq hd nd hg2
 have w1:=weakR_eq hb nb hg hn
 have w2:=weakR_eq hd nd hg2 hn
 have hvb0:=hvb
 have hvd0:=hvd
 obtain⟨_,_,_,_,rfl,hb1⟩:=hvb
 obtain⟨_,_,rfl⟩:=hb1.1.form
 obtain⟨_,_,rfl⟩:=hb1.2.1.form
 obtain⟨_,_,rfl⟩:=hb1.2.2.1.form
 obtain⟨_,_,rfl⟩:=hb1.2.2.2.form
 obtain⟨_,_,_,_,rfl,hd1⟩:=hvd
 obtain⟨_,_,rfl⟩:=hd1.1.form
 obtain⟨_,_,rfl⟩:=hd1.2.1.form
 obtain⟨_,_,rfl⟩:=hd1.2.2.1.form
 obtain⟨_,_,rfl⟩:=hd1.2.2.2.form
 refine CallR.intro hJ Kr fun c cs tail hret=>enter_X (n:=175) func15 U U (Nl U) ?_
 have C:Ctx prog main J (bf 15 .normal):=⟨hJ,by decide⟩
 refine Xr C U U<|R.box C U U U U fun p4=>R.box C U U U U fun p5=>Ad C U U<|Xr C U U<|R5 C U U isAgg27 sizeOf27 V Tk5<|Rm C U U<|R.callR C U U U U (most_c hJ he hvb0 sb g) fun v1 ro1 hl1 hq1=>?_
 subst hq1
 rw [m1]
 refine Rm C U U<|R.ext C U U U U<|R.ext C U U U U<|R.asg C U U U<|Ad C U U<|Xr C U U<|R5 C U U isAgg27 sizeOf27 V Tk5<|Rm C U U<|R.callR C U U U U (most_c hJ (he.mono hl1) (hvd0.mono hl1) sd g) fun v2 ro2 hl2 hq2=>?_
 subst hq2
 rw [m2]
 have k2:=RO.le_trans hl1 hl2
 refine Rm C U U<|R.ext C U U U U<|R.ext C U U U U<|R.asg C U U U<|Ad C U U<|Xr C U U<|R5 C U U isAgg27 sizeOf27 V Tk5<|Rm C U U<|Rm C U U<|R.callR C U U U U (weak_c hJ (he.mono k2) (hvb0.mono k2) sb g n) fun v3 ro3 hl3 hq3=>?_
 obtain⟨y3,z3,rfl⟩:=hq3
 have k3:=RO.le_trans k2 hl3
 refine Rm C U U<|R.ext C U U U U<|R.ext C U U U U<|R.asg C U U U<|Ad C U U<|Xr C U U<|R5 C U U isAgg27 sizeOf27 V Tk5<|Rm C U U<|Rm C U U<|R.callR C U U U U (weak_c hJ (he.mono k3) (hvd0.mono k3) sd g n) fun v4 ro4 hl4 hq4=>?_
 obtain⟨y4,z4,rfl⟩:=hq4
 have k4:=RO.le_trans k3 hl4
 rw [w1] at z3⊢
 rw [w2] at z4⊢
 simp only at z3 z4
 obtain⟨_,_,rfl⟩:=z3.form
 obtain⟨_,_,rfl⟩:=z4.form
 refine Rm C U U<|R.ext C U U U U<|R.ext C U U U U<|R.asg C U U U<|Ad C U U<|Xs C<|Xr C U U<|Rm C U U<|R.int C U U U U b_neq<|R.fixv (t:=58) (v':= .bool false) U (by rfl)<|Rm C U U<|Rm C U U<|R.int C U U U U b_neq<|R.fixv (t:=61) (v':= .bool false) U (by rfl)<|R.pickF C U U U U<|Rm C U U<|Rm C U U<|R.int C U U U U b_neq<|R.fixv (t:=65) (v':= .bool false) U (by rfl)<|R.pickF C U U U U<|Rm C U U<|Rm C U U<|R.int C U U U U b_neq<|R.fixv (t:=69) (v':= .bool false) U (by rfl)<|R.pickF C U U U U<|Rm C U U<|Rm C U U<|Rm C U U<|R.int C U U U U b_lss<|R.fixv (t:=74) (v':= .bool false) U (by(refine congrArg Value.bool ?_;rw [dF];exact Int.not_lt.2 hml)) ?_;refine R.pickF C U U U U<|Rm C U U<|Rm C U U<|Rm C U U<|R.callP C U U U U (inside2R_c hJ z4 (z3.mono hl4) O O)<|R.not C U U U<|R.fixv (t:=80) (v':= .bool false) U (by(rw [hin];rfl))<|R.pickF C U U U U<|R.done C<|X.cond C.1 U (fun h=>nomatch h) (fun _=>?_)
 refine X.skip C.1<|Xr C U U<|R5 C U U isAgg27 sizeOf27 V Tk5<|R.callR C U U U U ((fewestG_c (he.mono k4) (hvb0.mono k4) sb)) fun v5 ro5 hl5 hq5=>?_
 obtain⟨y5,z5,rfl⟩:=hq5
 obtain⟨_,_,rfl⟩:=z5.form
 have k5:=RO.le_trans k4 hl5
 refine Rm C U U<|R.ext C U U U U<|R.ext C U U U U<|R.ext C U U U U<|R.asg C U U U<|R.asg C U U U<|Ad C U U<|Xr C U U<|R5 C U U isAgg27 sizeOf27 V Tk5<|R.callR C U U U U ((fewestG_c (he.mono k5) (hvd0.mono k5) sd)) fun v6 ro6 hl6 hq6=>?_
 obtain⟨y6,z6,rfl⟩:=hq6
 obtain⟨_,_,rfl⟩:=z6.form
 have k6:=RO.le_trans k5 hl6
 refine Rm C U U<|R.ext C U U U U<|R.ext C U U U U<|R.ext C U U U U<|R.asg C U U U<|R.asg C U U U<|Ad C U U<|Xr C U U<|R5 C U U isAgg27 sizeOf27 V Tk5<|R.callR C U U U U ((share_c (he.mono k6) (hvb0.mono k6) sb)) fun v7 ro7 hl7 hq7=>?_
 obtain⟨y7,z7,rfl⟩:=hq7
 obtain⟨_,_,rfl⟩:=z7.form
 have k7:=RO.le_trans k6 hl7
 refine Rm C U U<|R.ext C U U U U<|R.ext C U U U U<|R.ext C U U U U<|R.asg C U U U<|R.asg C U U U<|Ad C U U<|Xr C U U<|R5 C U U isAgg27 sizeOf27 V Tk5<|R.callR C U U U U ((share_c (he.mono k7) (hvd0.mono k7) sd)) fun v8 ro8 hl8 hq8=>?_
 obtain⟨y8,z8,rfl⟩:=hq8
 obtain⟨_,_,rfl⟩:=z8.form
 have k8:=RO.le_trans k7 hl8
 refine Rm C U U<|R.ext C U U U U<|R.ext C U U U U<|R.ext C U U U U<|R.asg C U U U<|R.asg C U U U<|Ad C U U<|Xr C U U<|R5 C U U isAgg27 sizeOf27 V Tk5<|R.callR C U U U U ((renew_c (he.mono k8) (hvb0.mono k8) sb)) fun v9 ro9 hl9 hq9=>?_
 obtain⟨y9,z9,rfl⟩:=hq9
 obtain⟨_,_,rfl⟩:=z9.form
 have k9:=RO.le_trans k8 hl9
 refine Rm C U U<|R.ext C U U U U<|R.ext C U U U U<|R.ext C U U U U<|R.asg C U U U<|R.asg C U U U<|Ad C U U<|Xr C U U<|R5 C U U isAgg27 sizeOf27 V Tk5<|R.callR C U U U U ((renew_c (he.mono k9) (hvd0.mono k9) sd)) fun v10 ro10 hl10 hq10=>?_
 obtain⟨y10,z10,rfl⟩:=hq10
 obtain⟨_,_,rfl⟩:=z10.form
 have k10:=RO.le_trans k9 hl10
 have f1:=hl.fewest hb hd nb nd
 have f2:=hl.share hb hd nb nd
 have f3:=hl.renew hb hd nb nd
 rw [fewestR_zero hb nb,fewestR_zero hd nd,shareR_zero hb nb,shareR_zero hd nd,renewR_zero hb nb,renewR_zero hd nd]
 generalize(fewestR b).1=fb at f1⊢
 generalize(fewestR d).1=fd at f1⊢
 generalize(shareR b).1=hb' at f2⊢
 generalize(shareR d).1=hd' at f2⊢
 generalize(renewR b).1=rb at f3⊢
 generalize(renewR d).1=rd at f3⊢
 refine Rm C U U<|R.ext C U U U U<|R.ext C U U U U<|R.ext C U U U U<|R.asg C U U U<|R.asg C U U U<|Ad C U U<|Xr C U U<|Rm C U U<|R.int C U U U U b_eql<|R.fixv (t:=119) (v':= .bool true) U (by rfl)<|Rm C U U<|Rm C U U<|R.int C U U U U b_eql<|R.fixv (t:=122) (v':= .bool true) U (by rfl)<|R.pickT C U U U U<|Rm C U U<|Rm C U U<|R.int C U U U U b_eql<|R.fixv (t:=126) (v':= .bool true) U (by rfl)<|R.pickT C U U U U<|Rm C U U<|Rm C U U<|R.int C U U U U b_eql<|R.fixv (t:=130) (v':= .bool true) U (by rfl)<|R.pickT C U U U U<|Rm C U U<|Rm C U U<|R.int C U U U U b_eql<|R.fixv (t:=134) (v':= .bool true) U (by rfl)<|R.pickT C U U U U<|Rm C U U<|Rm C U U<|R.int C U U U U b_eql<|R.fixv (t:=138) (v':= .bool true) U (by rfl)<|R.pickT C U U U U<|Rm C U U<|Rm C U U<|R.not C U U U<|Rm C U U ?_;refine R.fix (t:=143) U (fun g1=>?_) (fun g1=>?_)
 ·refine R.pass C U U<|R.pass C U U<|R.pass C U U<|R.pass C U U<|R.pass C U U<|R.pass C U U<|R.pass C U U<|R.pass C U U<|R.pickT C U U U U<|R.pickT C U U U U<|Rm C U U<|Rm C U U<|R.not C U U U<|Rm C U U<|R.fix (t:=157) U (fun g2=>?_) (fun g2=>?_)
  ·refine R.pass C U U<|R.pickT C U U U U<|R.pickT C U U U U<|Rm C U U<|Rm C U U<|R.not C U U U<|Rm C U U<|R.fix (t:=164) U (fun g3=>?_) (fun g3=>?_)
   ·refine R.pass C U U<|R.pass C U U<|R.pass C U U<|R.pass C U U<|R.pass C U U<|R.pass C U U<|R.pass C U U<|R.pass C U U<|R.pickT C U U U U<|R.pickT C U U U U<|Ad C U U<|Xt C func15<|Hr hret k10 ?_
    rfl
   ·have q3:=f3 (by simpa using g3)
    refine Rm C U U<|R.fixv (t:=165) (v':= .bool true) U (by(rw [q3.1]))<|Rm C U U<|Rm C U U<|Rn C U U runUnderlying58<|Rm C U U<|Rn C U U runUnderlying58<|R.int C U U U U b_leq<|R.fixv (t:=171) (v':= .bool true) U (by(refine congrArg Value.bool ?_;rw [decide_eq_true_iff];have:=q3.2;omega)) ?_;refine R.pickT C U U U U<|R.pickF C U U U U<|R.pickT C U U U U<|Ad C U U<|Xt C func15<|Hr hret k10 ?_
    rfl
  ·have q2:=f2 (by simpa using g2)
   refine Rm C U U<|R.fixv (t:=158) (v':= .bool true) U (by(rw [q2]))<|R.pickF C U U U U<|R.pickT C U U U U<|Rm C U U<|Rm C U U<|R.not C U U U<|Rm C U U<|R.fix (t:=164) U (fun g3=>?_) (fun g3=>?_)
   ·refine R.pass C U U<|R.pass C U U<|R.pass C U U<|R.pass C U U<|R.pass C U U<|R.pass C U U<|R.pass C U U<|R.pass C U U<|R.pickT C U U U U<|R.pickT C U U U U<|Ad C U U<|Xt C func15<|Hr hret k10 ?_
    rfl
   ·have q3:=f3 (by simpa using g3)
    refine Rm C U U<|R.fixv (t:=165) (v':= .bool true) U (by(rw [q3.1]))<|Rm C U U<|Rm C U U<|Rn C U U runUnderlying58<|Rm C U U<|Rn C U U runUnderlying58<|R.int C U U U U b_leq<|R.fixv (t:=171) (v':= .bool true) U (by(refine congrArg Value.bool ?_;rw [decide_eq_true_iff];have:=q3.2;omega)) ?_;refine R.pickT C U U U U<|R.pickF C U U U U<|R.pickT C U U U U<|Ad C U U<|Xt C func15<|Hr hret k10 ?_
    rfl
 ·have q1:=f1 (by simpa using g1)
  refine Rm C U U<|R.fixv (t:=144) (v':= .bool true) U (by(rw [q1.1]))<|Rm C U U<|Rm C U U<|Rn C U U runUnderlying58<|Rm C U U<|Rn C U U runUnderlying58<|R.int C U U U U b_leq<|R.fixv (t:=150) (v':= .bool true) U (by(refine congrArg Value.bool ?_;rw [decide_eq_true_iff];have:=q1.2;omega)) ?_;refine R.pickT C U U U U<|R.pickF C U U U U<|R.pickT C U U U U<|Rm C U U<|Rm C U U<|R.not C U U U<|Rm C U U<|R.fix (t:=157) U (fun g2=>?_) (fun g2=>?_)
  ·refine R.pass C U U<|R.pickT C U U U U<|R.pickT C U U U U<|Rm C U U<|Rm C U U<|R.not C U U U<|Rm C U U<|R.fix (t:=164) U (fun g3=>?_) (fun g3=>?_)
   ·refine R.pass C U U<|R.pass C U U<|R.pass C U U<|R.pass C U U<|R.pass C U U<|R.pass C U U<|R.pass C U U<|R.pass C U U<|R.pickT C U U U U<|R.pickT C U U U U<|Ad C U U<|Xt C func15<|Hr hret k10 ?_
    rfl
   ·have q3:=f3 (by simpa using g3)
    refine Rm C U U<|R.fixv (t:=165) (v':= .bool true) U (by(rw [q3.1]))<|Rm C U U<|Rm C U U<|Rn C U U runUnderlying58<|Rm C U U<|Rn C U U runUnderlying58<|R.int C U U U U b_leq<|R.fixv (t:=171) (v':= .bool true) U (by(refine congrArg Value.bool ?_;rw [decide_eq_true_iff];have:=q3.2;omega)) ?_;refine R.pickT C U U U U<|R.pickF C U U U U<|R.pickT C U U U U<|Ad C U U<|Xt C func15<|Hr hret k10 ?_
    rfl
  ·have q2:=f2 (by simpa using g2)
   refine Rm C U U<|R.fixv (t:=158) (v':= .bool true) U (by(rw [q2]))<|R.pickF C U U U U<|R.pickT C U U U U<|Rm C U U<|Rm C U U<|R.not C U U U<|Rm C U U<|R.fix (t:=164) U (fun g3=>?_) (fun g3=>?_)
   ·refine R.pass C U U<|R.pass C U U<|R.pass C U U<|R.pass C U U<|R.pass C U U<|R.pass C U U<|R.pass C U U<|R.pass C U U<|R.pickT C U U U U<|R.pickT C U U U U<|Ad C U U<|Xt C func15<|Hr hret k10 ?_
    rfl
   ·have q3:=f3 (by simpa using g3)
    refine Rm C U U<|R.fixv (t:=165) (v':= .bool true) U (by(rw [q3.1]))<|Rm C U U<|Rm C U U<|Rn C U U runUnderlying58<|Rm C U U<|Rn C U U runUnderlying58<|R.int C U U U U b_leq<|R.fixv (t:=171) (v':= .bool true) U (by(refine congrArg Value.bool ?_;rw [decide_eq_true_iff];have:=q3.2;omega)) ?_;refine R.pickT C U U U U<|R.pickF C U U U U<|R.pickT C U U U U<|Ad C U U<|Xt C func15<|Hr hret k10 ?_
    rfl
theorem betterR_c{Q:Machine→Outcome→World→Trace→Prop}{b d:Bk}{vb vd:Value}{ro:RO}(he:Env ro)(hvb:BkV ro vb b)(hvd:BkV ro vd d)(hb:checkBook b=0)(hd:checkBook d=0)(nd:cases d≠ [])(hl:Fewer b d){i g k n:Int}(hi:0≤i∧i<b.ps.length)(hg:0≤g∧g<b.gs.length)(hk:0≤k∧k<b.cs.length)(hn:1≤n∧n≤99):
  CallR prog (JM prog Q) (fnv 84) [vb,vd, .int .i64 i, .int .i64 g, .int .i64 k, .int .i64 n] ro (fun w _=>w= .bool true):=by
 have hJ:Closed prog true (JM prog Q):=JM.closed
 let main:=true
 let J:=JM prog Q
 have gb:=good_of hb
 have gd:=good_of hd
 have sb:=short_of (not_great hb)
 have sd:=short_of (not_great hd)
 have nb:cases b≠ []:=fun e=>by have:=hl.cases;rw [e] at this;exact nd (List.sublist_nil.1 this)
 have hno:=hl.noLess gb gd
 have hg2:0≤g∧g<d.gs.length:=by rw [hl.gs];exact hg
 have hi2:0≤i∧i<d.ps.length:=by rw [hl.np];exact hi
 have hk2:0≤k∧k<d.cs.length:=by rw [hl.nc];exact hk
 have bl1:=bearsOf_len gb hi
 have bl2:=bearsOf_len gd hi2
 have hlen:=hl.cases.length_le
 have hpos:=List.length_pos_iff.2 nd
 have hin:=hl.bears i
 have hmy:may b g k≠0→may d g k=may b g k:=hl.may nd
 have c1:=casesOf_eq hb
 have c2:=casesOf_eq hd
 have r1:=bearsR_eq hb nb hi
 have r2:=bearsR_eq hd nd hi2
 have m1:=mayR_eq hb nb hg hk
 have m2:=mayR_eq hd nd hg2 hk2
 have hvb0:=hvb
 have hvd0:=hvd
 obtain⟨_,_,_,_,rfl,hb1⟩:=hvb
 obtain⟨_,_,rfl⟩:=hb1.1.form
 obtain⟨_,_,rfl⟩:=hb1.2.1.form
 obtain⟨_,_,rfl⟩:=hb1.2.2.1.form
 obtain⟨_,_,rfl⟩:=hb1.2.2.2.form
 obtain⟨_,_,_,_,rfl,hd1⟩:=hvd
 obtain⟨_,_,rfl⟩:=hd1.1.form
 obtain⟨_,_,rfl⟩:=hd1.2.1.form
 obtain⟨_,_,rfl⟩:=hd1.2.2.1.form
 obtain⟨_,_,rfl⟩:=hd1.2.2.2.form
 refine CallR.intro hJ Kr fun c cs tail hret=>enter_X (n:=109) func84 U U (Nl U) ?_
 have C:Ctx prog main J (bf 84 .normal):=⟨hJ,by decide⟩
 refine Xr C U U<|R.box C U U U U fun p6=>R.box C U U U U fun p7=>Ad C U U<|Xr C U U<|R5 C U U isAgg27 sizeOf27 V Tk5<|R.callR C U U U U (casesN_c hJ he hvb0 sb) fun v1 ro1 hl1 hq1=>?_
 subst hq1
 rw [c1]
 refine Rm C U U<|R.ext C U U U U<|R.ext C U U U U<|R.asg C U U U<|Ad C U U<|Xr C U U<|R5 C U U isAgg27 sizeOf27 V Tk5<|R.callR C U U U U (casesN_c hJ (he.mono hl1) (hvd0.mono hl1) sd) fun v2 ro2 hl2 hq2=>?_
 subst hq2
 rw [c2]
 have k2:=RO.le_trans hl1 hl2
 refine Rm C U U<|R.ext C U U U U<|R.ext C U U U U<|R.asg C U U U<|Ad C U U<|Xr C U U<|R5 C U U isAgg27 sizeOf27 V Tk5<|Rm C U U<|R.callR C U U U U (bears_c hJ (he.mono k2) (hvb0.mono k2) sb i) fun v3 ro3 hl3 hq3=>?_
 obtain⟨y3,z3,rfl⟩:=hq3
 have k3:=RO.le_trans k2 hl3
 refine Rm C U U<|R.ext C U U U U<|R.ext C U U U U<|R.asg C U U U<|Ad C U U<|Xr C U U<|R5 C U U isAgg27 sizeOf27 V Tk5<|Rm C U U<|R.callR C U U U U (bears_c hJ (he.mono k3) (hvd0.mono k3) sd i) fun v4 ro4 hl4 hq4=>?_
 obtain⟨y4,z4,rfl⟩:=hq4
 have k4:=RO.le_trans k3 hl4
 rw [r1] at z3⊢
 rw [r2] at z4⊢
 simp only at z3 z4
 obtain⟨_,_,rfl⟩:=z3.form
 obtain⟨_,_,rfl⟩:=z4.form
 refine Rm C U U<|R.ext C U U U U<|R.ext C U U U U<|R.asg C U U U<|Ad C U U<|Xr C U U<|R5 C U U isAgg27 sizeOf27 V Tk5<|Rm C U U<|Rm C U U<|R.callR C U U U U (may_c hJ (he.mono k4) (hvb0.mono k4) sb g k) fun v5 ro5 hl5 hq5=>?_
 subst hq5
 rw [m1]
 have k5:=RO.le_trans k4 hl5
 refine Rm C U U<|R.ext C U U U U<|R.ext C U U U U<|R.asg C U U U<|Ad C U U<|Xr C U U<|R5 C U U isAgg27 sizeOf27 V Tk5<|Rm C U U<|Rm C U U<|R.callR C U U U U (may_c hJ (he.mono k5) (hvd0.mono k5) sd g k) fun v6 ro6 hl6 hq6=>?_
 subst hq6
 rw [m2]
 have k6:=RO.le_trans k5 hl6
 generalize may b g k=ub at hmy⊢
 generalize may d g k=ud at hmy⊢
 by_cases hu:ub=0
 ·have _:=hu
  refine Rm C U U<|R.ext C U U U U<|R.ext C U U U U<|R.asg C U U U<|Ad C U U<|Xs C<|Xr C U U<|Rm C U U<|R.int C U U U U b_neq<|R.fixv (t:=62) (v':= .bool false) U (by rfl)<|Rm C U U<|Rm C U U<|R.int C U U U U b_neq<|R.fixv (t:=65) (v':= .bool false) U (by rfl)<|R.pickF C U U U U<|Rm C U U<|Rm C U U<|R.int C U U U U b_neq<|R.fixv (t:=69) (v':= .bool false) U (by rfl)<|R.pickF C U U U U<|Rm C U U<|Rm C U U<|R.int C U U U U b_neq<|R.fixv (t:=73) (v':= .bool false) U (by rfl)<|R.pickF C U U U U<|Rm C U U<|Rm C U U<|R.int C U U U U b_neq<|R.fixv (t:=77) (v':= .bool false) U (by rfl)<|R.pickF C U U U U<|Rm C U U<|Rm C U U<|R.int C U U U U b_neq<|R.fixv (t:=81) (v':= .bool false) U (by rfl)<|R.pickF C U U U U<|Rm C U U<|Rm C U U<|Rm C U U<|R.callP C U U U U (betweenR_c hJ _ _ _ _)<|R.fixv (t:=86) (v':= .bool true) U (by(refine congrArg Value.bool ?_;rw [between_iff];omega)) ?_;refine R.not C U U U<|R.fixv (t:=87) (v':= .bool false) U U<|R.fixv (t:=87) (v':= .bool false) U (by rfl)<|R.pickF C U U U U<|Rm C U U<|Rm C U U<|Rm C U U<|R.callP C U U U U (inside2R_c hJ (z4.mono (RO.le_trans hl5 hl6)) (z3.mono (RO.le_trans hl4 (RO.le_trans hl5 hl6))) O O)<|R.not C U U U<|R.fixv (t:=93) (v':= .bool false) U (by(rw [hin];rfl))<|R.pickF C U U U U<|Rm C U U<|Rm C U U<|R.int C U U U U b_neq<|R.fixv (t:=97) (v':= .bool false) U (by(refine congrArg Value.bool ?_;simp [hu])) ?_;refine Rm C U U<|R.pass C U U<|R.pass C U U<|R.pass C U U<|R.pickF C U U U U<|R.pickF C U U U U<|R.done C<|X.cond C.1 U (fun h=>nomatch h) (fun _=>?_)
  refine X.skip C.1<|Xr C U U<|R5 C U U isAgg27 sizeOf27 V Tk5<|R5 C U U isAgg27 sizeOf27 V Tk5<|Rm C U U<|Rm C U U<|R.callR C U U U U (noLessR_c (he.mono k6) (hvb0.mono k6) (hvd0.mono k6) hb hd nb nd hno hg hn) fun v9 ro9 hl9 hq9=>Ad C U U<|Xt C func84<|Hr hret (RO.le_trans k6 hl9) ?_
  exact hq9
 ·have hud:=hmy hu
  refine Rm C U U<|R.ext C U U U U<|R.ext C U U U U<|R.asg C U U U<|Ad C U U<|Xs C<|Xr C U U<|Rm C U U<|R.int C U U U U b_neq<|R.fixv (t:=62) (v':= .bool false) U (by rfl)<|Rm C U U<|Rm C U U<|R.int C U U U U b_neq<|R.fixv (t:=65) (v':= .bool false) U (by rfl)<|R.pickF C U U U U<|Rm C U U<|Rm C U U<|R.int C U U U U b_neq<|R.fixv (t:=69) (v':= .bool false) U (by rfl)<|R.pickF C U U U U<|Rm C U U<|Rm C U U<|R.int C U U U U b_neq<|R.fixv (t:=73) (v':= .bool false) U (by rfl)<|R.pickF C U U U U<|Rm C U U<|Rm C U U<|R.int C U U U U b_neq<|R.fixv (t:=77) (v':= .bool false) U (by rfl)<|R.pickF C U U U U<|Rm C U U<|Rm C U U<|R.int C U U U U b_neq<|R.fixv (t:=81) (v':= .bool false) U (by rfl)<|R.pickF C U U U U<|Rm C U U<|Rm C U U<|Rm C U U<|R.callP C U U U U (betweenR_c hJ _ _ _ _)<|R.fixv (t:=86) (v':= .bool true) U (by(refine congrArg Value.bool ?_;rw [between_iff];omega)) ?_;refine R.not C U U U<|R.fixv (t:=87) (v':= .bool false) U U<|R.fixv (t:=87) (v':= .bool false) U (by rfl)<|R.pickF C U U U U<|Rm C U U<|Rm C U U<|Rm C U U<|R.callP C U U U U (inside2R_c hJ (z4.mono (RO.le_trans hl5 hl6)) (z3.mono (RO.le_trans hl4 (RO.le_trans hl5 hl6))) O O)<|R.not C U U U<|R.fixv (t:=93) (v':= .bool false) U (by(rw [hin];rfl))<|R.pickF C U U U U<|Rm C U U<|Rm C U U<|R.int C U U U U b_neq<|R.fixv (t:=97) (v':= .bool true) U (by(refine congrArg Value.bool ?_;simp [hu])) ?_;refine Rm C U U<|Rm C U U<|Rm C U U<|R.int C U U U U b_neq<|R.fixv (t:=101) (v':= .bool false) U (by(refine congrArg Value.bool ?_;simp [hud])) ?_;refine R.pickT C U U U U<|R.pickF C U U U U<|R.done C<|X.cond C.1 U (fun h=>nomatch h) (fun _=>?_)
  refine X.skip C.1<|Xr C U U<|R5 C U U isAgg27 sizeOf27 V Tk5<|R5 C U U isAgg27 sizeOf27 V Tk5<|Rm C U U<|Rm C U U<|R.callR C U U U U (noLessR_c (he.mono k6) (hvb0.mono k6) (hvd0.mono k6) hb hd nb nd hno hg hn) fun v9 ro9 hl9 hq9=>Ad C U U<|Xt C func84<|Hr hret (RO.le_trans k6 hl9) ?_
  exact hq9
end
section
variable {main:Bool}{J:Goroutine→Mem→Prop}(hJ:Closed prog main J)
include hJ
end
end Go.Lg.B
