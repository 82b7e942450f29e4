/-
  Part 2 of what all proofs of this seat share: laws of the model that the walks use, and what functions of the program reckon. Conditions: the premises that each theorem states.
-/
import Derived.Test.YtlkmnfdipiielaaGreatDoorKA
import Derived.IntWalk
import Derived.KernelRfl
import Derived.Conc.MarkLaws
import Derived.Conc.AtomicLaws2
import Derived.Conc.SmallLaws
import Derived.Conc.DeferLaws
import Derived.Conc.TokenWalk
import Derived.Test.YtlkmnfdipiielaaGreatDoorProg
import Derived.Conc.WgGenN2
import Derived.Conc.WgArith
import Derived.Laws.Entries
set_option maxRecDepth 100000
set_option linter.all false
set_option linter.unusedVariables false
set_option linter.unusedSimpArgs false
set_option linter.unusedSectionVars false
namespace Go.Lg
open Go Go.Conc
open Go.ConcR (KK WgAt wgBlock stA smA rd wr Payload Bk)
open Go.ConcN (RW WgLive WSit CTag RelBy Vc sumTo upd upd_ne upd_same WD cnt OpenSt pend)
variable [Payload]
section
variable {P:Program}{ty:TypeId}{Wg Ch e n:Nat}{Anch:Goroutine→Mem→Prop}{ok:Nat→List Value→RO→Prop}{At:List Value→Goroutine→Mem→Prop}{J:Goroutine→Mem→Prop}
 {S S':St} {gs gs':Array Goroutine} {w w':World} {sl:Option (Nat×Nat)} {t u:Trace} {x:Nat} {g g':Goroutine} {es:Array Event} {M':Mem} {Q:Machine→Outcome→World→Trace→Prop}
theorem Ph.mainStep(H:Ph P ty Wg Ch e n Anch ok At S gs w t)(he:0<e)(hn:n<2147483648)(hA:∀g M,Anch g M→g.status= .running)(hAt:∀rs g M,At rs g M→g.status= .running)(hR:∀rs g M,At rs g M→Recv P ty Wg Ch n ok J At rs g M)(hok:∀i s ro ro',ro.le ro'→ok i s ro→ok i s ro')(hx:gs[0]? =some g)(hs:g.status= .running):
  Nx P ty Wg Ch e n Anch ok At S gs w sl t 0∨∃gs' g' ops q' M',runT P (crowd gs w sl) 0=(.next (crowd gs' w sl),ops)∧gs'[0]? =some g'∧Lone P gs' w (t++ops) q' M'∧J g' M':=by
 obtain⟨a,ha,hm⟩:=H.main
 rw [hx] at ha;cases ha
 have same:∀M',setM S.Ms 0 M' 0=M':=fun M'=>setM_same _ _ _
 cases hmt:S.mt with
 |sp r s=>
  rw [hmt] at hm
  match s,hmt,hm with
  |6,hmt,_=>
   rcases H.m1 (sl:=sl) (Stop:=AtS6 P ty Wg Ch ok (n- (r+1)) (Sp P ty Wg Ch Anch ok At n r)) he hA hAt hx (fun rk g M=>by rw [hmt];rfl) with h|⟨M',H1,hst,hmu⟩
   ·exact .inl h
   ·exact .inl (Nx.turned (H1.sp6 he hA hAt hx hmt (by have h:=same M';simp only [h];exact hst)) hmu)
  |5,hmt,_=>
   rcases H.m1 (sl:=sl) (Stop:=AtS5 P ty Wg Ch ok (n- (r+1)) (Sp P ty Wg Ch Anch ok At n r)) he hA hAt hx (fun rk g M=>by rw [hmt];rfl) with h|⟨M',H1,hst,hmu⟩
   ·exact .inl h
   ·exact .inl (Nx.turned (H1.sp5 he hn hA hAt hx hmt (by have h:=same M';simp only [h];exact hst)) hmu)
  |4,hmt,_=>
   rcases H.m1 (sl:=sl) (Stop:=AtS4 P ty Wg Ch ok (n- (r+1)) (Sp P ty Wg Ch Anch ok At n r)) he hA hAt hx (fun rk g M=>by rw [hmt];rfl) with h|⟨M',H1,hst,hmu⟩
   ·exact .inl h
   ·exact .inl (Nx.turned (H1.sp4 he hA hAt hx hmt (by have h:=same M';simp only [h];exact hst)) hmu)
  |3,hmt,_=>
   rcases H.m1 (sl:=sl) (Stop:=AtS3 P ty Wg Ch ok (n- (r+1)) (Sp P ty Wg Ch Anch ok At n r)) he hA hAt hx (fun rk g M=>by rw [hmt];rfl) with h|⟨M',H1,hst,hmu⟩
   ·exact .inl h
   ·exact .inl (Nx.turned (H1.sp3 he hA hAt hx hmt (by have h:=same M';simp only [h];exact hst)) hmu)
  |2,hmt,_=>
   rcases H.m1 (sl:=sl) (Stop:=AtGo P ty Wg Ch ok (n- (r+1)) (Sp P ty Wg Ch Anch ok At n r)) he hA hAt hx (fun rk g M=>by rw [hmt];rfl) with h|⟨M',H1,hst,hmu⟩
   ·exact .inl h
   ·exact .inl (Nx.turned (H1.sp2 he hx hmt (by have h:=same M';simp only [h];exact hst)) hmu)
  |0,_,h=>exact h.elim
  |1,_,h=>exact h.elim
  |s+7,_,h=>exact h.elim
 |goc=>
  rcases H.m1 (sl:=sl) (Stop:=AtGoC P ty Wg Anch At) he hA hAt hx (fun rk g M=>by rw [hmt];rfl) with h|⟨M',H1,hst,hmu⟩
  ·exact .inl h
  ·exact .inl (Nx.turned (H1.goc he hx hmt (by have h:=same M';simp only [h];exact hst)) hmu)
 |rng=>
  rcases H.m1 (sl:=sl) (Stop:=At S.rs) he hA hAt hx (fun rk g M=>by rw [hmt];rfl) with h|⟨M',H1,hst,hmu⟩
  ·exact .inl h
  ·cases hcl:S.ct.closed with
   |true=>
    obtain⟨_,z,hcm,_,hJ⟩:=hR _ _ _ hst
    exact .inr (H1.exit he hA hAt hok hcl (.inl hmt) hx (hcm w) (by have h:=same M';simp only [h];exact hJ))
   |false=>exact .inl (Nx.turned (H1.mRecv (J:=J) he hA hAt hR hx hmt rfl (by have h:=same M';simp only [h];exact hst) hcl) hmu)
 |prk=>
  rw [hmt] at hm
  obtain⟨_,g0,z,rfl,_⟩:=hm
  simp [parked] at hs
 |wok=>
  rw [hmt] at hm
  obtain⟨_,g0,z0,rfl,hst,hg0,_⟩:=hm
  obtain⟨_,z,hcm,_,hJ⟩:=hR _ _ _ hst
  refine .inr (H.exit (g0:=g0) (z:=z) he hA hAt hok (H.shp.mtw hmt) (.inr hmt) hx ?_ hJ)
  rw [stepG_tries]
  rw [show({g0 with status:= .running}:Goroutine)=g0 by obtain⟨⟩:=g0;simp only at hg0;subst hg0;rfl]
  exact hcm w
theorem WSt.runs{okk:List Value→RO→Prop}{k:WK}{d:Nat}{M:Mem}{sent:List Value}(h:WSt P ty Wg Ch okk w k d g M sent)(hs:Sat M w)(hl:WgLive ty Wg w)(h1:k.stage≠1)(h2:∀r,k≠ .tree (.wait r)):g.status= .running:=by
 cases h with
 |run h=>exact h.status hs hl
 |park _ _ h=>exact absurd rfl (h2 _)
 |late _ _ _ h=>exact h.running_of h1
theorem Ph.someone(H:Ph P ty Wg Ch e n Anch ok At S gs w t)(hA:∀g M,Anch g M→g.status= .running)(hAt:∀rs g M,At rs g M→g.status= .running):∃ (i:Nat) (g:Goroutine),gs[i]? =some g∧g.status= .running:=by
 by_cases hp:S.mt= .prk
 ·have hon:=H.shp.mtr (.inr (.inl hp))
  have hncl:=H.prkc hp
  obtain⟨c,hc,hC⟩:=H.clo hon
  by_cases hrun:c.status= .running
  ·exact⟨_,c,hc,hrun⟩
  have hblk:S.ct= .blk:=by
   cases hct:S.ct with
   |blk=>rfl
   |off=>rw [hct] at hon;cases hon
   |gone d=>rw [hct] at hncl;cases hncl
   |kd=>rw [hct] at hC;exact absurd (T.status (fun _ _ k=>k.1) hC (H.safe.sat _) H.live) hrun
   |anch=>rw [hct] at hC;exact absurd (T.status hA hC (H.safe.sat _) H.live) hrun
   |w2 vs=>rw [hct] at hC;exact absurd (T.status (fun _ _ k=>k.1) hC (H.safe.sat _) H.live) hrun
   |wr=>rw [hct] at hC;exact absurd (T.status (fun _ _ k=>k.1) hC (H.safe.sat _) H.live) hrun
   |w3=>rw [hct] at hC;exact absurd (T.status (fun _ _ k=>k.1) hC (H.safe.sat _) H.live) hrun
   |w4=>rw [hct] at hC;exact absurd (T.status (fun _ _ k=>k.1) hC (H.safe.sat _) H.live) hrun
   |ke=>rw [hct] at hC;exact absurd (T.status (fun _ _ k=>k.1) hC (H.safe.sat _) H.live) hrun
   |aq=>rw [hct] at hC;exact absurd (T.status (fun _ _ k=>k.1) hC (H.safe.sat _) H.live) hrun
   |cl=>rw [hct] at hC;exact absurd (T.status (fun _ _ k=>k.1) hC (H.safe.sat _) H.live) hrun
  obtain⟨st,sm,_,hm⟩:=H.wg
  rw [H.tag hon,hblk] at hm
  have hw:∃i,i<S.j∧(S.D i).stage≠1:=by
   cases hm with
   |opn h1 _ _=>exact h1.elim
   |reg _ _ h3=>
    apply Classical.byContradiction
    intro hno
    have:∀j,j≤S.j→sumTo j (fun i=>cnt (kD S.D i))=0:=by
     intro j
     induction j with
     |zero=>intro _;rfl
     |succ j ih=>
      intro hj
      have h1:(S.D j).stage=1:=Classical.byContradiction fun h=>hno ⟨j,O,h⟩
      have h5:cnt (kD S.D j)=0:=by simp [kD,cnt,h1]
      simp only [sumTo]
      rw [ih O,h5]
    have h0:=this S.j (Nat.le_refl _)
    simp only [Vc] at h3
    omega
   |last L _ h2 h3 _=>exact⟨L,h2,by rcases h3 with h|h|h<;>(simp only [kD] at h;omega)⟩
   |fin h1 _=>exact h1.elim
  obtain⟨i,hi,h1⟩:=hw
  obtain⟨a,ha,hW⟩:=H.wk i hi
  exact⟨_,a,ha,hW.runs (H.safe.sat _) H.live h1 (H.shp.nomeet hp i hi)⟩
 ·obtain⟨a,ha,hm⟩:=H.main
  exact⟨0,a,ha,hm.running hAt (H.safe.sat 0) H.live hp⟩
theorem Ph.awake(H:Ph P ty Wg Ch e n Anch ok At S gs w t)(hA:∀g M,Anch g M→g.status= .running)(hAt:∀rs g M,At rs g M→g.status= .running):∀a∈gs,Go.Conc.awake a:=by
 intro a ha
 obtain⟨y,hy,rfl⟩:=Array.mem_iff_getElem.1 ha
 have hy':gs[y]? =some gs[y]:=Array.getElem?_eq_getElem hy
 rcases H.kinds hA hAt hy' with(h|h)|⟨rfl,h2⟩|⟨i,r,h1,rfl,h2⟩
 ·exact awake_of (h.imp id .inr)
 ·exact awake_of (.inr (.inl h.1))
 ·obtain⟨_,g0,z,h3,_⟩:=H.parkedM h2
  rw [hy'] at h3
  exact awake_of (.inr (.inl (by rw [Option.some.inj h3];rfl)))
 ·obtain⟨g0,v,z,h3,_⟩:=H.parkedW h1 h2
  rw [hy'] at h3
  exact awake_of (.inr (.inl (by rw [Option.some.inj h3];rfl)))
theorem Ph.ends(he:0<e)(hn:n<2147483648)(hA:∀g M,Anch g M→g.status= .running)(hAn:∀g M,Anch g M→AtW1 P ty Wg Ch Anch g M)(hAt:∀rs g M,At rs g M→g.status= .running)(hR:∀rs g M,At rs g M→Recv P ty Wg Ch n ok (JM P Q) At rs g M)(hok:∀i s ro ro',ro.le ro'→ok i s ro→ok i s ro'):
  ∀μ S gs w sl t,muOf e n S=μ→Ph P ty Wg Ch e n Anch ok At S gs w t→Ends P (KQ Q w) (crowd gs w sl) t:=by
 intro μ
 refine(mu_wf n).transGen.induction (C:=fun μ=>∀S gs w sl t,muOf e n S=μ→Ph P ty Wg Ch e n Anch ok At S gs w t→Ends P (KQ Q w) (crowd gs w sl) t) μ ?_
 intro μ ih S gs w sl t hμ H
 subst hμ
 obtain⟨i,x,d,sl2,hi,hx,hst⟩:=crowd_pick (P:=P) (w:=w) (sl:=sl) (H.awake hA hAt) (H.someone hA hAt)
 have H':=H.at d
 have fin:Nx P ty Wg Ch e n Anch ok At S gs (w.at d) sl2 t i→Ends P (KQ Q w) (crowd gs w sl) t:=by
  rintro⟨gs',w',ops,S',h1,h2,h3,h4⟩
  have h5:=ih _ h3 _ _ w' sl2 _ rfl h2
  rw [SameOut.kq (w:=w) (w':=w') h4] at h5
  exact Ends.next (hst.trans h1) h5
 have hsz:=H.size
 have hil:=H.x_lt hi
 by_cases h0:i=0
 ·subst h0
  rcases H'.mainStep (sl:=sl2) he hn hA hAt hR hok hi hx with h|⟨gs',g',ops,q',M',h1,h2,h3,h4⟩
  ·exact fin h
  ·exact Ends.next (hst.trans h1) (h4 _ _ _ _ _ h2 h3)
 ·by_cases h1:i<e
  ·exact fin (H'.leaver he hA hAt O h1 hi hx)
  ·by_cases h2:i<e+S.j
   ·obtain⟨i,rfl⟩:∃i',i=e+i':=⟨i-e,O⟩
    exact fin (H'.worker he hn hA hAt hR O hi hx)
   ·have hon:S.ct.on=true:=by
     cases ho:S.ct.on with
     |true=>rfl
     |false=>simp [ho] at hsz;omega
    have hj:=H.shp.onj hon
    rw [hon] at hsz
    simp only [if_true] at hsz
    obtain rfl:i=e+n:=by omega
    exact fin (H'.closer he hn hA hAn hAt hon hi hx)
theorem JM.phase{ro:RO}{own:List (Nat×Obj)}{s r:Nat}{tm:Bool}(hn:n<2147483648)(hA:∀g M,Anch g M→g.status= .running)(hAn:∀g M,Anch g M→AtW1 P ty Wg Ch Anch g M)(hAt:∀rs g M,At rs g M→g.status= .running)(hR:∀rs g M,At rs g M→Recv P ty Wg Ch n ok (JM P Q) At rs g M)(hok:∀i s ro ro',ro.le ro'→ok i s ro→ok i s ro')
  (hT:Tr (WgLive ty Wg) P true (Sp P ty Wg Ch Anch ok At n n) g ⟨ro,own⟩):JM P Q g ⟨ro,(Wg,wgBlock ty 0 0)::(Ch, .chan 0 #[] false s r tm)::own⟩:=by
 intro gs w sl t q h0 hL
 have he:0<gs.size:=(Array.getElem?_eq_some_iff.1 h0).1
 obtain⟨rm,hT⟩:=hT
 have hsat:Sat ⟨ro,(Wg,wgBlock ty 0 0)::(Ch, .chan 0 #[] false s r tm)::own⟩ w:=hL.safe.sat 0
 have hnd:=hsat.nodup
 simp only [Mem.ids,List.map_cons,List.nodup_cons,List.mem_cons,not_or] at hnd
 have hsafe:Safe w t (onlyM ⟨ro,own⟩):=by
  have:=hL.safe.less (i:=0) (ro:=ro) (own:=(Wg,wgBlock ty 0 0)::(Ch, .chan 0 #[] false s r tm)::own) (own':=own) rfl (.cons _ (.cons _ (.refl _)))
  rwa [setM_onlyM] at this
 have h00:onlyM ⟨ro,own⟩ 0=⟨ro,own⟩:=by unfold onlyM;rw [setM_same]
 have hne:∀j,j≠0→onlyM ⟨ro,own⟩ j=noMem:=fun j hj=>by unfold onlyM;rw [setM_ne _ _ hj]
 have hsh:∀b,b∈Mem.ids ⟨ro,(Wg,wgBlock ty 0 0)::(Ch, .chan 0 #[] false s r tm)::own⟩→b∉Mem.ids ⟨ro,own⟩→∀i,b∉ (onlyM ⟨ro,own⟩ i).ids∧(onlyM ⟨ro,own⟩ i).ro b=none:=fun b hb hb2 i=>by
  by_cases e:i=0
  ·subst e;rw [h00];exact⟨hb2,hsat.apart b hb⟩
  ·rw [hne i e];exact⟨by simp [noMem,Mem.ids],rfl⟩
 obtain⟨mt,hmt,hm⟩:∃mt,(mt= .goc∧n=0∨∃r,mt= .sp r 6∧n=r+1)∧MSt P ty Wg Ch n Anch ok At rm [] g ⟨ro,own⟩ mt:=by
  cases n with
  |zero=>exact⟨.goc, .inl ⟨rfl,rfl⟩,hT⟩
  |succ r=>exact⟨.sp r 6, .inr ⟨r,rfl,rfl⟩,hT⟩
 have hkn:=hL.safe.kn 0
 refine Ph.ends (e:=gs.size) he hn hA hAn hAt hR hok _ {j:=0,mt:=mt,ct:= .off,D:=fun _=> .tree .fin,dd:=fun _=>0,rm:=rm,rc:= .stop,q:=q,qc:=0,sent:=fun _=> [],rs:= [],Ms:=onlyM ⟨ro,own⟩ } gs w sl t U
  ⟨⟨Nat.zero_le _,fun h=>(nomatch h),fun r1 s1 h=>?_,fun h=>?_,fun h=>?_,fun h=>?_,fun h=>?_,fun _=>rfl⟩,fun h=>rfl,by simp [CT.on],⟨g,h0,by simp only [h00];exact hm⟩,fun i hi=>absurd hi (Nat.not_lt_zero _),fun h=>(nomatch h),fun i a hi hie ha=>hL.leavers.old i a hi ha,hsafe,fun i hi=>hne i O, ?_,⟨s,r,tm,hsat.own Ch (.chan 0 #[] false s r tm) (.tail _ (.head _))⟩, ?_, ?_,⟨.refl _,fun _=>Nat.zero_le _⟩, ?_⟩
 ·rcases hmt with⟨h1,_⟩|⟨r,h1,h2⟩
  ·simp only at h;rw [h1] at h;cases h
  ·simp only at h;rw [h1] at h;cases h;exact⟨O,by show 0=_;omega,rfl⟩
 ·rcases hmt with⟨h1,h2⟩|⟨r,h1,h2⟩
  ·exact⟨h2.symm,rfl⟩
  ·simp only at h;rw [h1] at h;cases h
 ·exfalso;simp only at h;rcases hmt with⟨h1,_⟩|⟨r,h1,_⟩<;>rw [h1] at h<;>simp at h
 ·exfalso;simp only at h;rcases hmt with⟨h1,_⟩|⟨r,h1,_⟩<;>rw [h1] at h<;>cases h
 ·exfalso;simp only at h;rcases hmt with⟨h1,_⟩|⟨r,h1,_⟩<;>rw [h1] at h<;>cases h
 ·refine⟨0,0,hsat.own _ _ Zi, ?_⟩
  have key:∀tag,Go.ConcN.isOpen tag→pend tag=0→(∀vs,tag≠ .w2 vs)→Go.ConcN.Mode 0 (kD fun _=> .tree .fin) tag 0 0:=fun tag h1 h2 h3=>by
   have:=Go.ConcN.Mode.opn (j:=0) (D:=kD fun _=> .tree .fin) h1 (fun i hi=>absurd hi (Nat.not_lt_zero _)) (fun vs e=>absurd e (h3 vs))
   rw [h2] at this
   simpa [Vc,sumTo] using this
  rcases hmt with⟨rfl,_⟩|⟨r,rfl,_⟩
  ·exact key _ trivial rfl (fun _ e=>nomatch e)
  ·exact key _ trivial rfl (fun _ e=>nomatch e)
 ·exact hsh Wg (by simp [Mem.ids]) hnd.1.2
 ·exact hsh Ch (by simp [Mem.ids]) hnd.2.1
 ·refine⟨?_,fun i hi=>absurd hi (Nat.not_lt_zero _),fun h=>(nomatch h),hL.leavers.above,fun k x hx hb=> .inr fun y hy=>?_, ?_,fun i hi=>absurd hi (Nat.not_lt_zero _), ?_,fun h=>(nomatch h),fun h=>(nomatch h), ?_, ?_⟩
  ·rw [hL.hears];rcases hmt with⟨rfl,_⟩|⟨r,rfl,_⟩<;>rfl
  ·rcases hy with rfl|⟨h1,h2⟩
   ·exact(hkn.own Wg (by show Wg∈Mem.ids _;simp [onlyM,setM,Mem.ids]) k x hx hb).1
   ·omega
  ·exact fun r k g hr hg _=>absurd (hL.gsb r g hr) O
  ·intro k g hk h1 _ hc
   obtain⟨j,hj,hb⟩:=hL.over k g hk O hc
   obtain⟨op,ho,hog⟩:=Option.map_eq_some_iff.1 hj
   exact⟨j,op,ho,hog, .inr hb⟩
  ·exact fun k g hk=>hL.gsb k g hk
  ·intro _ k x hx hb y hy
   rcases hy with rfl|⟨h1,h2⟩
   ·exact(hkn.own Ch (by show Ch∈Mem.ids _;simp [onlyM,setM,Mem.ids]) k x hx hb).1
   ·omega
end
end Go.Lg
namespace Go.Lg
open Go Go.Conc
variable {x y:Operand}{op:BinOp}{k k':IntKind}{t':TypeId}{v:Value}{a c:Nat}
section
variable {P:Program}{M:Mem}{e:Operand→Value}{d:Option Nat}{ty:TypeId}{pos:String}{af:Array Edge}{g:Option (Nat×Bool)}{K:Next→Mem→Prop}
theorem ex_v{s:Sem Value}(h:Sm P M s fun v M'=>K (.value v) M'):Sm P M (do pure (.value (←s)):Sem Next) K:=Sm.bind (h.mono fun _ _ hk=>Sm.pure hk)
theorem ex_u{s:Sem Unit}(h:Sm P M s fun _ M'=>K .skip M'):Sm P M (do s;pure .skip:Sem Next) K:=Sm.bind (h.mono fun _ _ hk=>Sm.pure hk)
theorem ex_move(h:K (.value (e x)) M):Sm P M (execOp e ⟨d, .move x,ty,pos,af,g⟩) K:=Sm.pure h
theorem ex_assign(h:K (.value (e x)) M):Sm P M (execOp e ⟨d, .assign x,ty,pos,af,g⟩) K:=Sm.pure h
theorem ex_pick{c:Operand}{t:Bool}(hc:e c= .bool t)(h:K (.value (if t then e x else e y)) M):Sm P M (execOp e ⟨d, .pick c x y,ty,pos,af,g⟩) K:=by
 unfold execOp;simp only [hc,asBool];exact Sm.bind (Sm.pure (Sm.pure h))
theorem eqGuard_int{t:TypeId}{m n:Int}{K:Unit→Mem→Prop}(h:K () M):Sm P M (eqGuard op t x y (.int k m) (.int k' n)) K:=by
 unfold eqGuard;cases op<;>exact Sm.pure h
theorem eqGuard_string{t:TypeId}{m n:ByteArray}{K:Unit→Mem→Prop}(h:K () M):Sm P M (eqGuard op t x y (.string m) (.string n)) K:=by
 unfold eqGuard;cases op<;>exact Sm.pure h
theorem ex_int{t:TypeId}{m n:Int}(hx:e x= .int k m)(hy:e y= .int k n)(hv:∀M K,K v M→Sm P M (binOp op t (.int k m) (.int k n)) K)(h:K (.value v) M):
  Sm P M (execOp e ⟨d, .binOp op t x y t',ty,pos,af,g⟩) K:=by
 unfold execOp;simp only [hx,hy]
 exact Sm.bind (Sm.bind (eqGuard_int (hv _ _ (Sm.pure h))))
theorem ex_shift{t:TypeId}{m n:Int}(hx:e x= .int k m)(hy:e y= .int k' n)(hv:∀M K,K v M→Sm P M (binOp op t (.int k m) (.int k' n)) K)(h:K (.value v) M):
  Sm P M (execOp e ⟨d, .binOp op t x y t',ty,pos,af,g⟩) K:=by
 unfold execOp;simp only [hx,hy]
 exact Sm.bind (Sm.bind (eqGuard_int (hv _ _ (Sm.pure h))))
end
theorem wrap64{z:Int}(h1: -9223372036854775808≤z)(h2:z≤9223372036854775807):IntKind.i64.wrap z=z:=IntWalk.i64_in z O
section
variable {P:Program}{t:TypeId}{m n:Int}
theorem b_add(h1: -9223372036854775808≤m+n)(h2:m+n≤9223372036854775807):∀M K,K (.int .i64 (m+n)) M→Sm P M (binOp .add t (.int .i64 m) (.int .i64 n)) K:=fun M K h=>by
 unfold binOp;simp only [ne_eq,not_true_eq_false,if_false,Op.intArith,wrap64 h1 h2];exact Sm.pure h
theorem b_sub(h1: -9223372036854775808≤m-n)(h2:m-n≤9223372036854775807):∀M K,K (.int .i64 (m-n)) M→Sm P M (binOp .sub t (.int .i64 m) (.int .i64 n)) K:=fun M K h=>by
 unfold binOp;simp only [ne_eq,not_true_eq_false,if_false,Op.intArith,wrap64 h1 h2];exact Sm.pure h
theorem b_mul(h1: -9223372036854775808≤m*n)(h2:m*n≤9223372036854775807):∀M K,K (.int .i64 (m*n)) M→Sm P M (binOp .mul t (.int .i64 m) (.int .i64 n)) K:=fun M K h=>by
 unfold binOp;simp only [ne_eq,not_true_eq_false,if_false,Op.intArith,wrap64 h1 h2];exact Sm.pure h
theorem b_quo(hn:n≠0)(h1: -9223372036854775808≤m.tdiv n)(h2:m.tdiv n≤9223372036854775807):∀M K,K (.int .i64 (m.tdiv n)) M→Sm P M (binOp .quo t (.int .i64 m) (.int .i64 n)) K:=fun M K h=>by
 unfold binOp;simp only [ne_eq,not_true_eq_false,if_false,Op.intDiv,hn,wrap64 h1 h2];exact Sm.pure h
theorem b_rem(hn:n≠0):∀M K,K (.int .i64 (m.tmod n)) M→Sm P M (binOp .rem t (.int .i64 m) (.int .i64 n)) K:=fun M K h=>by
 unfold binOp;simp only [ne_eq,not_true_eq_false,if_false,Op.intDiv,hn];exact Sm.pure h
theorem b_quoP(hm:0≤m)(hm':m≤9223372036854775807)(hn:0<n):∀M K,K (.int .i64 (m/n)) M→Sm P M (binOp .quo t (.int .i64 m) (.int .i64 n)) K:=fun M K h=>by
 have e:m.tdiv n=m/n:=by rw [Int.tdiv_eq_ediv_of_nonneg hm]
 refine b_quo O ?_ ?_ M K (by rw [e];exact h)
 ·rw [e];have:=Int.ediv_nonneg hm (Int.le_of_lt hn);omega
 ·rw [e];have:=Int.ediv_le_self n hm;omega
theorem b_remP(hm:0≤m)(hn:0<n):∀M K,K (.int .i64 (m%n)) M→Sm P M (binOp .rem t (.int .i64 m) (.int .i64 n)) K:=fun M K h=>by
 have e:m.tmod n=m%n:=by rw [Int.tmod_eq_emod_of_nonneg hm]
 exact b_rem O M K (by rw [e];exact h)
theorem b_eql:∀M K,K (.bool (m==n)) M→Sm P M (binOp .eql t (.int k m) (.int k n)) K:=fun M K h=>by
 unfold binOp;simp only [ne_eq,not_true_eq_false,if_false,Op.intCmp];exact Sm.pure h
theorem b_neq:∀M K,K (.bool (m !=n)) M→Sm P M (binOp .neq t (.int k m) (.int k n)) K:=fun M K h=>by
 unfold binOp;simp only [ne_eq,not_true_eq_false,if_false,Op.intCmp];exact Sm.pure h
theorem b_lss:∀M K,K (.bool (decide (m<n))) M→Sm P M (binOp .lss t (.int k m) (.int k n)) K:=fun M K h=>by
 unfold binOp;simp only [ne_eq,not_true_eq_false,if_false,Op.intCmp];exact Sm.pure h
theorem b_leq:∀M K,K (.bool (decide (m≤n))) M→Sm P M (binOp .leq t (.int k m) (.int k n)) K:=fun M K h=>by
 unfold binOp;simp only [ne_eq,not_true_eq_false,if_false,Op.intCmp];exact Sm.pure h
theorem b_gtr:∀M K,K (.bool (decide (n<m))) M→Sm P M (binOp .gtr t (.int k m) (.int k n)) K:=fun M K h=>by
 unfold binOp;simp only [ne_eq,not_true_eq_false,if_false,Op.intCmp,GT.gt];exact Sm.pure h
theorem b_geq:∀M K,K (.bool (decide (n≤m))) M→Sm P M (binOp .geq t (.int k m) (.int k n)) K:=fun M K h=>by
 unfold binOp;simp only [ne_eq,not_true_eq_false,if_false,Op.intCmp,GE.ge];exact Sm.pure h
theorem b_shl(h0:0≤n)(h3:n≤64)(h1: -9223372036854775808≤m*2^n.toNat)(h2:m*2^n.toNat≤9223372036854775807):∀M K,K (.int .i64 (m*2^n.toNat)) M→Sm P M (binOp .shl t (.int .i64 m) (.int k' n)) K:=fun M K h=>by
 have e:min n.toNat IntKind.i64.bits=n.toNat:=by simp only [IntKind.bits];omega
 unfold binOp Op.shift;simp only [Int.not_lt.2 h0,if_false,e,wrap64 h1 h2];exact Sm.pure h
theorem b_shr(h0:0≤n)(h3:n≤k.bits)(_hm:0≤m):∀M K,K (.int k (m/2^n.toNat)) M→Sm P M (binOp .shr t (.int k m) (.int k' n)) K:=fun M K h=>by
 have e:min n.toNat k.bits=n.toNat:=O
 have e2:m.fdiv (2^n.toNat)=m/2^n.toNat:=by rw [Int.fdiv_eq_ediv_of_nonneg _ (Int.pow_nonneg O)]
 unfold binOp Op.shift;simp only [Int.not_lt.2 h0,if_false,e,e2];exact Sm.pure h
end
theorem ofInt_nat(a:Nat):BitVec.ofInt 64 (a:Int)=BitVec.ofNat 64 a:=by simp
theorem bits_and(ha:a<2^63)(hc:c<2^63):(Op.intBits .and .i64 (a:Int) (c:Int):Sem Value)=Pure.pure (.int .i64 ((a &&& c:Nat):Int)):=by
 have hlt:a &&& c<2^63:=Nat.and_lt_two_pow _ hc
 show(Pure.pure (Value.int IntKind.i64 (IntKind.i64.wrap ((BitVec.ofInt 64 (a:Int) &&& BitVec.ofInt 64 (c:Int)).toNat:Int))):Sem Value)=_
 rw [ofInt_nat,ofInt_nat,BitVec.toNat_and,BitVec.toNat_ofNat,BitVec.toNat_ofNat,Nat.mod_eq_of_lt O,Nat.mod_eq_of_lt O,wrap64 O O]
theorem bits_or(ha:a<2^63)(hc:c<2^63):(Op.intBits .or .i64 (a:Int) (c:Int):Sem Value)=Pure.pure (.int .i64 ((a|||c:Nat):Int)):=by
 have hlt:a|||c<2^63:=Nat.or_lt_two_pow ha hc
 show(Pure.pure (Value.int IntKind.i64 (IntKind.i64.wrap ((BitVec.ofInt 64 (a:Int)|||BitVec.ofInt 64 (c:Int)).toNat:Int))):Sem Value)=_
 rw [ofInt_nat,ofInt_nat,BitVec.toNat_or,BitVec.toNat_ofNat,BitVec.toNat_ofNat,Nat.mod_eq_of_lt O,Nat.mod_eq_of_lt O,wrap64 O O]
def andNot(a c:Nat):Nat:=a^^^ (a &&& c)
theorem bits_andNot(ha:a<2^63)(hc:c<2^63):(Op.intBits .andNot .i64 (a:Int) (c:Int):Sem Value)=Pure.pure (.int .i64 ((andNot a c:Nat):Int)):=by
 have hand:a &&& c<2^63:=Nat.and_lt_two_pow _ hc
 have hlt:andNot a c<2^63:=Nat.xor_lt_two_pow ha hand
 have e:BitVec.ofNat 64 a &&& ~~~BitVec.ofNat 64 c=BitVec.ofNat 64 a^^^ (BitVec.ofNat 64 a &&& BitVec.ofNat 64 c):=by
  ext i hi
  simp only [BitVec.getElem_and,BitVec.getElem_not,BitVec.getElem_xor]
  cases (BitVec.ofNat 64 a)[i]<;>cases (BitVec.ofNat 64 c)[i]<;>rfl
 show(Pure.pure (Value.int IntKind.i64 (IntKind.i64.wrap ((BitVec.ofInt 64 (a:Int) &&& ~~~BitVec.ofInt 64 (c:Int)).toNat:Int))):Sem Value)=_
 rw [ofInt_nat,ofInt_nat,e,BitVec.toNat_xor,BitVec.toNat_and,BitVec.toNat_ofNat,BitVec.toNat_ofNat,Nat.mod_eq_of_lt O,Nat.mod_eq_of_lt O]
 show(Pure.pure (Value.int IntKind.i64 (IntKind.i64.wrap (andNot a c:Int))):Sem Value)=_
 rw [wrap64 O O]
theorem b_and{P:Program}{t:TypeId}(ha:a<2^63)(hc:c<2^63):∀M K,K (.int .i64 ((a &&& c:Nat):Int)) M→Sm P M (binOp .and t (.int .i64 (a:Int)) (.int .i64 (c:Int))) K:=fun M K h=>by
 unfold binOp;simp only [ne_eq,not_true_eq_false,if_false,bits_and ha hc];exact Sm.pure h
theorem b_or{P:Program}{t:TypeId}(ha:a<2^63)(hc:c<2^63):∀M K,K (.int .i64 ((a|||c:Nat):Int)) M→Sm P M (binOp .or t (.int .i64 (a:Int)) (.int .i64 (c:Int))) K:=fun M K h=>by
 unfold binOp;simp only [ne_eq,not_true_eq_false,if_false,bits_or ha hc];exact Sm.pure h
theorem b_andNot{P:Program}{t:TypeId}(ha:a<2^63)(hc:c<2^63):∀M K,K (.int .i64 ((andNot a c:Nat):Int)) M→Sm P M (binOp .andNot t (.int .i64 (a:Int)) (.int .i64 (c:Int))) K:=fun M K h=>by
 unfold binOp;simp only [ne_eq,not_true_eq_false,if_false,bits_andNot ha hc];exact Sm.pure h
end Go.Lg
namespace Go.Lg
open Go Go.Conc
variable {M:Mem}{c x y:Operand}{op:BinOp}{e t t' tt:TypeId}{ik kk:IntKind}{p q z:Int}{l out vs:List Value}{bb cap len nn off:Nat}{fq:Nat×Nat}
def evs(σ:Slots):List Operand→Option (List Value)
 | []=>some []
 |x::l=>match ev σ x,evs σ l with
  |some v,some vs=>some (v::vs)
  |_,_=>none
theorem Holds.evs{n:Nat}{ds:List Deferred}{σ:Slots}{a:Act}(h:Holds n ds σ a):∀ {l:List Operand} {vs:List Value},evs σ l=some vs→l.map a.eval=vs
 | [],vs,e=>by simp only [Lg.evs,Option.some.injEq] at e;subst e;rfl
 |x::l,vs,e=>by
  simp only [Lg.evs] at e
  split at e
  ·rename_i v vs' h1 h2
   cases e
   simp [h.ev h1,h.evs h2]
  ·cases e
section
variable {P:Program}{main:Bool}{J:Goroutine→Mem→Prop}{b:Frame}(C:Ctx P main J b){cs:List Frame}{n:Nat}{ds:List Deferred}{σ:Slots}{ro:RO}{own:List (Nat×Obj)}{k:List Item}{ops:Array Oper}{i:Nat}{rest:List Nat}
 {d:Nat} {dst:Option Nat} {ty:TypeId} {pos:String} {af:Array Edge} {g:Option (Nat×Bool)}
include C
theorem R.v{op:Op}{v:Value}{M':Mem}(ho:ops[i]? =some ⟨dst,op,ty,pos,af,g⟩)(hg:wantedS ops σ ⟨dst,op,ty,pos,af,g⟩=some true)(hd:notDefer op=true)
  (hs:∀a,Holds n ds σ a→∀K:Next→Mem→Prop,K (.value v) M'→Sm P M (execOp a.eval ⟨dst,op,ty,pos,af,g⟩) K) (h:R J b cs n ops rest k ds (putS dst v σ) M'):R J b cs n ops (i::rest) k ds σ M:=
 R.op C ho hg hd fun a ha=>hs a ha _ h
theorem R.mov{v:Value}(ho:ops[i]? =some ⟨some d, .move x,ty,pos,af,g⟩)(hg:wantedS ops σ ⟨some d, .move x,ty,pos,af,g⟩=some true)(hx:ev σ x=some v)(h:R J b cs n ops rest k ds ((d,v)::σ) M):R J b cs n ops (i::rest) k ds σ M:=
 R.v C ho hg rfl (fun _ ha _ hk=>ex_move (by rw [ha.ev hx];exact hk)) h
theorem R.asg{v:Value}(ho:ops[i]? =some ⟨some d, .assign x,ty,pos,af,g⟩)(hg:wantedS ops σ ⟨some d, .assign x,ty,pos,af,g⟩=some true)(hx:ev σ x=some v)(h:R J b cs n ops rest k ds ((d,v)::σ) M):R J b cs n ops (i::rest) k ds σ M:=
 R.v C ho hg rfl (fun _ ha _ hk=>ex_assign (by rw [ha.ev hx];exact hk)) h
theorem R.pickT{v:Value}(ho:ops[i]? =some ⟨some d, .pick c x y,ty,pos,af,g⟩)(hg:wantedS ops σ ⟨some d, .pick c x y,ty,pos,af,g⟩=some true)(hc:ev σ c=some (.bool true))(hx:ev σ x=some v)(h:R J b cs n ops rest k ds ((d,v)::σ) M):R J b cs n ops (i::rest) k ds σ M:=
 R.v C ho hg rfl (fun _ ha _ hk=>ex_pick (ha.ev hc) (by simp only [if_true];rw [ha.ev hx];exact hk)) h
theorem R.pickF{v:Value}(ho:ops[i]? =some ⟨some d, .pick c x y,ty,pos,af,g⟩)(hg:wantedS ops σ ⟨some d, .pick c x y,ty,pos,af,g⟩=some true)(hc:ev σ c=some (.bool false))(hx:ev σ y=some v)(h:R J b cs n ops rest k ds ((d,v)::σ) M):R J b cs n ops (i::rest) k ds σ M:=
 R.v C ho hg rfl (fun _ ha _ hk=>ex_pick (ha.ev hc) (by simp only [Bool.false_eq_true,if_false];rw [ha.ev hx];exact hk)) h
theorem R.int{v:Value}(ho:ops[i]? =some ⟨some d, .binOp op t x y t',ty,pos,af,g⟩)(hg:wantedS ops σ ⟨some d, .binOp op t x y t',ty,pos,af,g⟩=some true)
  (hx:ev σ x=some (.int kk p)) (hy:ev σ y=some (.int kk q)) (hv:∀M K,K v M→Sm P M (binOp op t (.int kk p) (.int kk q)) K) (h:R J b cs n ops rest k ds ((d,v)::σ) M):R J b cs n ops (i::rest) k ds σ M:=
 R.v C ho hg rfl (fun _ ha _ hk=>ex_int (ha.ev hx) (ha.ev hy) hv hk) h
theorem R.shift{kk':IntKind}{v:Value}(ho:ops[i]? =some ⟨some d, .binOp op t x y t',ty,pos,af,g⟩)(hg:wantedS ops σ ⟨some d, .binOp op t x y t',ty,pos,af,g⟩=some true)
  (hx:ev σ x=some (.int kk p)) (hy:ev σ y=some (.int kk' q)) (hv:∀M K,K v M→Sm P M (binOp op t (.int kk p) (.int kk' q)) K) (h:R J b cs n ops rest k ds ((d,v)::σ) M):R J b cs n ops (i::rest) k ds σ M:=
 R.v C ho hg rfl (fun _ ha _ hk=>ex_shift (ha.ev hx) (ha.ev hy) hv hk) h
theorem R.not{p:Bool}(ho:ops[i]? =some ⟨some d, .unOp .not t x,ty,pos,af,g⟩)(hg:wantedS ops σ ⟨some d, .unOp .not t x,ty,pos,af,g⟩=some true)(hx:ev σ x=some (.bool p))(h:R J b cs n ops rest k ds ((d, .bool (!p))::σ) M):R J b cs n ops (i::rest) k ds σ M:=
 R.v C ho hg rfl (fun _ ha _ hk=>by unfold execOp;simp only [ha.ev hx,Op.unary];exact ex_v (Sm.pure hk)) h
theorem R.neg(ho:ops[i]? =some ⟨some d, .unOp .neg t x,ty,pos,af,g⟩)(hg:wantedS ops σ ⟨some d, .unOp .neg t x,ty,pos,af,g⟩=some true)(hx:ev σ x=some (.int .i64 p))(h1: -9223372036854775808<p)(h2:p≤9223372036854775807)
  (h:R J b cs n ops rest k ds ((d, .int .i64 (-p))::σ) M):R J b cs n ops (i::rest) k ds σ M:=
 R.v C ho hg rfl (fun _ ha _ hk=>by
  unfold execOp
  simp only [ha.ev hx,Op.unary,Op.intArith]
  rw [Int.zero_sub,wrap64 O O]
  exact ex_v (Sm.pure hk)) h
theorem R.ext{ix:Nat}{v:Value}(ho:ops[i]? =some ⟨some d, .extract x ix,ty,pos,af,g⟩)(hg:wantedS ops σ ⟨some d, .extract x ix,ty,pos,af,g⟩=some true)(hx:ev σ x=some (.tuple l.toArray))(hv:l[ix]? =some v)
  (h:R J b cs n ops rest k ds ((d,v)::σ) M):R J b cs n ops (i::rest) k ds σ M:=
 R.v C ho hg rfl (fun _ ha _ hk=>by
  unfold execOp
  have e:l.toArray[ix]? =some v:=by simpa using hv
  simp only [ha.ev hx,Instr.extract,e]
  exact ex_v (Sm.pure hk)) h
theorem R.makeFunc{fn:Fn}{first captured:List Operand}{ws:List Value}(ho:ops[i]? =some ⟨some d, .makeFunc fn first.toArray captured.toArray,ty,pos,af,g⟩)(hg:wantedS ops σ ⟨some d, .makeFunc fn first.toArray captured.toArray,ty,pos,af,g⟩=some true)
  (hx:evs σ first=some vs) (hy:evs σ captured=some ws) (h:R J b cs n ops rest k ds ((d, .func fn vs.toArray ws.toArray)::σ) M):R J b cs n ops (i::rest) k ds σ M:=
 R.v C ho hg rfl (fun _ ha _ hk=>by
  unfold execOp Instr.makeFunc
  simp only [List.map_toArray,ha.evs hx,ha.evs hy]
  exact ex_v (Sm.pure hk)) h
theorem R.iface{td:TypeDesc}{v:Value}(ho:ops[i]? =some ⟨some d, .makeInterface t x,ty,pos,af,g⟩)(hg:wantedS ops σ ⟨some d, .makeInterface t x,ty,pos,af,g⟩=some true)(hx:ev σ x=some v)
  (hu:∀w,Sem.run P (Go.underlying t) w= .ok td w) (hn:∀a,td≠ .interface a) (h:R J b cs n ops rest k ds ((d, .iface t v)::σ) M):R J b cs n ops (i::rest) k ds σ M:=
 R.v C ho hg rfl (fun _ ha _ hk=>by
  unfold execOp Instr.makeInterface
  simp only [ha.ev hx]
  refine ex_v (Sm.bind (Sm.underlying hu ?_))
  cases td<;>first|exact absurd rfl (hn _)|exact Sm.pure hk) h
theorem R.fieldAddr{s f:Nat}{fields:Array Field}{fd:Field}{kk off':Nat}(ho:ops[i]? =some ⟨some d, .fieldAddr s x f,ty,pos,af,g⟩)(hg:wantedS ops σ ⟨some d, .fieldAddr s x f,ty,pos,af,g⟩=some true)(hx:ev σ x=some (.pointer (some ⟨bb,off,none⟩)))
  (hu:∀w,Sem.run P (Go.underlying s) w= .ok (.struct fields) w) (hf:fields[f]? =some fd) (hz:∀w,Sem.run P (Go.sizeOf fd.type) w= .ok (kk+1) w) (he:off+fd.offset=off') (h:R J b cs n ops rest k ds ((d, .pointer (some ⟨bb,off',none⟩))::σ) M):
  R J b cs n ops (i::rest) k ds σ M:=
 R.v C ho hg rfl (fun _ ha _ hk=>by subst he;unfold execOp;simp only [ha.ev hx];exact ex_v (Sm.fieldAt hu hf hz hk)) h
theorem R.loadAgg(ho:ops[i]? =some ⟨some d, .load tt x,ty,pos,af,g⟩)(hg:wantedS ops σ ⟨some d, .load tt x,ty,pos,af,g⟩=some true)(hx:ev σ x=some (.pointer (some ⟨bb,off,none⟩)))
  (ht:∀w,Sem.run P (Go.isAgg tt) w= .ok true w) (hz:∀w,Sem.run P (Go.sizeOf tt) w= .ok nn w) (hm:(bb,Obj.cells l.toArray t fq)∈own) (hs:Sub off nn l out) (h:R J b cs n ops rest k ds ((d, .agg out.toArray)::σ) ⟨ro,own⟩):
  R J b cs n ops (i::rest) k ds σ ⟨ro,own⟩:=
 R.v C ho hg rfl (fun _ ha _ hk=>by unfold execOp;simp only [ha.ev hx];exact ex_v (Sm.loadAgg_own ht hz hm hs hk)) h
theorem R.loadOne{v:Value}(ho:ops[i]? =some ⟨some d, .load tt x,ty,pos,af,g⟩)(hg:wantedS ops σ ⟨some d, .load tt x,ty,pos,af,g⟩=some true)(hx:ev σ x=some (.pointer (some ⟨bb,off,none⟩)))
  (ht:∀w,Sem.run P (Go.isAgg tt) w= .ok false w) (hm:(bb,Obj.cells l.toArray t fq)∈own) (hv:l[off]? =some v) (h:R J b cs n ops rest k ds ((d,v)::σ) ⟨ro,own⟩):
  R J b cs n ops (i::rest) k ds σ ⟨ro,own⟩:=
 R.v C ho hg rfl (fun _ ha _ hk=>by unfold execOp;simp only [ha.ev hx];exact ex_v (Sm.loadOne_own ht hm hv hk)) h
theorem R.loadAggRo(ho:ops[i]? =some ⟨some d, .load tt x,ty,pos,af,g⟩)(hg:wantedS ops σ ⟨some d, .load tt x,ty,pos,af,g⟩=some true)(hx:ev σ x=some (.pointer (some ⟨bb,off,none⟩)))
  (ht:∀w,Sem.run P (Go.isAgg tt) w= .ok true w) (hz:∀w,Sem.run P (Go.sizeOf tt) w= .ok nn w) (hm:ro bb=some (Obj.cells l.toArray t fq)) (hs:Sub off nn l out) (h:R J b cs n ops rest k ds ((d, .agg out.toArray)::σ) ⟨ro,own⟩):
  R J b cs n ops (i::rest) k ds σ ⟨ro,own⟩:=
 R.v C ho hg rfl (fun _ ha _ hk=>by unfold execOp;simp only [ha.ev hx];exact ex_v (Sm.loadAgg_ro ht hz hm hs hk)) h
theorem R.loadOneRo{v:Value}(ho:ops[i]? =some ⟨some d, .load tt x,ty,pos,af,g⟩)(hg:wantedS ops σ ⟨some d, .load tt x,ty,pos,af,g⟩=some true)(hx:ev σ x=some (.pointer (some ⟨bb,off,none⟩)))
  (ht:∀w,Sem.run P (Go.isAgg tt) w= .ok false w) (hm:ro bb=some (Obj.cells l.toArray t fq)) (hv:l[off]? =some v) (h:R J b cs n ops rest k ds ((d,v)::σ) ⟨ro,own⟩):
  R J b cs n ops (i::rest) k ds σ ⟨ro,own⟩:=
 R.v C ho hg rfl (fun _ ha _ hk=>by unfold execOp;simp only [ha.ev hx];exact ex_v (Sm.loadOne_ro ht hm hv hk)) h
theorem R.store{l':List Value}{v:Value}{own':List (Nat×Obj)}(ho:ops[i]? =some ⟨none, .store tt x y,ty,pos,af,g⟩)(hg:wantedS ops σ ⟨none, .store tt x y,ty,pos,af,g⟩=some true)(hx:ev σ x=some (.pointer (some ⟨bb,off,none⟩)))
  (hy:ev σ y=some v) (hz:∀w,Sem.run P (Go.sizeOf tt) w= .ok nn w) (hv:v.cells=vs.toArray) (hn:vs.length=nn) (h1:ones vs=true) (hu:Upd own bb (.cells l.toArray t (0,0)) (.cells l'.toArray t (0,0)) own') (hp:Put off vs l l')
  (h:R J b cs n ops rest k ds σ ⟨ro,own'⟩):R J b cs n ops (i::rest) k ds σ ⟨ro,own⟩:=
 R.op C ho hg rfl fun a ha=>by
  unfold execOp;simp only [ha.ev hx,ha.ev hy]
  exact ex_u (Sm.storeAt_own hz hv hn h1 hu hp h)
theorem R.alloc{z:Value}(ho:ops[i]? =some ⟨some d, .alloc t,ty,pos,af,g⟩)(hg:wantedS ops σ ⟨some d, .alloc t,ty,pos,af,g⟩=some true)(hz:∀w,Sem.run P (Go.zeroValue t) w= .ok z w)(hl:z.cells=l.toArray)
  (h:∀p,R J b cs n ops rest k ds ((d, .pointer (some ⟨p,0,none⟩))::σ) ⟨ro,(p, .cells l.toArray t (0,0))::own⟩):R J b cs n ops (i::rest) k ds σ ⟨ro,own⟩:=
 R.op C ho hg rfl fun a ha=>by unfold execOp;exact ex_v (Sm.alloc hz hl h)
theorem R.box{v:Value}(ho:ops[i]? =some ⟨some d, .box t x,ty,pos,af,g⟩)(hg:wantedS ops σ ⟨some d, .box t x,ty,pos,af,g⟩=some true)(hx:ev σ x=some v)(hl:v.cells=l.toArray)
  (h:∀p,R J b cs n ops rest k ds ((d, .pointer (some ⟨p,0,none⟩))::σ) ⟨ro,(p, .cells l.toArray t (0,0))::own⟩):R J b cs n ops (i::rest) k ds σ ⟨ro,own⟩:=
 R.op C ho hg rfl fun a ha=>by unfold execOp;simp only [ha.ev hx];exact ex_v (Sm.box hl h)
theorem R.indexAddr{kk:Nat}(ho:ops[i]? =some ⟨some d, .indexAddr t x y,ty,pos,af,g⟩)(hg:wantedS ops σ ⟨some d, .indexAddr t x y,ty,pos,af,g⟩=some true)(hx:ev σ x=some (.slice (some ⟨bb,off,none⟩) len cap))
  (hy:ev σ y=some (.int ik z)) (hu:∀w,Sem.run P (Go.underlying t) w= .ok (.slice e) w) (hz:∀w,Sem.run P (Go.sizeOf e) w= .ok kk w) (h0:0≤z) (h1:z<len)
  (h:R J b cs n ops rest k ds ((d, .pointer (some ⟨bb,off+z.toNat*kk,none⟩))::σ) M):R J b cs n ops (i::rest) k ds σ M:=
 R.v C ho hg rfl (fun _ ha _ hk=>by unfold execOp;simp only [ha.ev hx,ha.ev hy];exact ex_v (Sm.indexAt_slice hu hz h0 h1 hk)) h
theorem R.indexAddrA{kk:Nat}(ho:ops[i]? =some ⟨some d, .indexAddr t x y,ty,pos,af,g⟩)(hg:wantedS ops σ ⟨some d, .indexAddr t x y,ty,pos,af,g⟩=some true)(hx:ev σ x=some (.pointer (some ⟨bb,off,none⟩)))
  (hy:ev σ y=some (.int ik z)) (hu:∀w,Sem.run P (Go.underlying t) w= .ok (.array len e) w) (hz:∀w,Sem.run P (Go.sizeOf e) w= .ok kk w) (h0:0≤z) (h1:z<len)
  (h:R J b cs n ops rest k ds ((d, .pointer (some ⟨bb,off+z.toNat*kk,none⟩))::σ) M):R J b cs n ops (i::rest) k ds σ M:=
 R.v C ho hg rfl (fun _ ha _ hk=>by unfold execOp;simp only [ha.ev hx,ha.ev hy];exact ex_v (Sm.indexAt_array hu hz h0 h1 hk)) h
theorem R.lenSlice{bb:Option Addr}(ho:ops[i]? =some ⟨some d, .call ⟨.builtin .len, #[x], #[t]⟩,ty,pos,af,g⟩)(hg:wantedS ops σ ⟨some d, .call ⟨.builtin .len, #[x], #[t]⟩,ty,pos,af,g⟩=some true)(hx:ev σ x=some (.slice bb len cap))
  (hu:∀w,Sem.run P (Go.underlying t) w= .ok (.slice e) w) (h:R J b cs n ops rest k ds ((d, .int .i64 (len:Int))::σ) M):R J b cs n ops (i::rest) k ds σ M:=
 R.v C ho hg rfl (fun a ha K hk=>by
  unfold execOp
  refine Sm.bind ?_
  unfold resolve
  refine Sm.pure ?_
  unfold invoke builtin Builtin.len_
  have e1:(#[x].map a.eval)[0]? =some (.slice bb len cap):=by simp [ha.ev hx]
  simp only [e1]
  refine Sm.bind<|Sm.bind (Sm.underlying hu ?_)
  exact Sm.pure (Sm.pure hk)) h
theorem R.max2(ho:ops[i]? =some ⟨some d, .call ⟨.builtin .max, #[x,y], #[t,t']⟩,ty,pos,af,g⟩)(hg:wantedS ops σ ⟨some d, .call ⟨.builtin .max, #[x,y], #[t,t']⟩,ty,pos,af,g⟩=some true)(hx:ev σ x=some (.int kk p))(hy:ev σ y=some (.int kk q))
  (h:R J b cs n ops rest k ds ((d, .int kk (max p q))::σ) M):R J b cs n ops (i::rest) k ds σ M:=
 R.v C ho hg rfl (fun a ha K hk=>by
  have e:(if q>p then q else p)=max p q:=by
   rw [Int.max_def];split<;>split<;>omega
  unfold execOp
  refine Sm.bind ?_
  unfold resolve
  refine Sm.pure ?_
  unfold invoke builtin Builtin.max_
  simp only [List.map_toArray,List.map_cons,List.map_nil,ha.ev hx,ha.ev hy,List.foldlM,Builtin.max2,e]
  exact Sm.bind (Sm.bind (Sm.pure (Sm.pure (Sm.pure hk))))) h
theorem R.min2(ho:ops[i]? =some ⟨some d, .call ⟨.builtin .min, #[x,y], #[t,t']⟩,ty,pos,af,g⟩)(hg:wantedS ops σ ⟨some d, .call ⟨.builtin .min, #[x,y], #[t,t']⟩,ty,pos,af,g⟩=some true)(hx:ev σ x=some (.int kk p))(hy:ev σ y=some (.int kk q))
  (h:R J b cs n ops rest k ds ((d, .int kk (min p q))::σ) M):R J b cs n ops (i::rest) k ds σ M:=
 R.v C ho hg rfl (fun a ha K hk=>by
  have e:(if q<p then q else p)=min p q:=by
   rw [Int.min_def];split<;>split<;>omega
  unfold execOp
  refine Sm.bind ?_
  unfold resolve
  refine Sm.pure ?_
  unfold invoke builtin Builtin.min_
  simp only [List.map_toArray,List.map_cons,List.map_nil,ha.ev hx,ha.ev hy,List.foldlM,Builtin.min2,e]
  exact Sm.bind (Sm.bind (Sm.pure (Sm.pure (Sm.pure hk))))) h
end
end Go.Lg
namespace Go.Lg
open Go Go.Conc
variable {fv:Value}{args:List Operand}{own' pre:List (Nat×Obj)}{Post:Value→RO→List (Nat×Obj)→Prop}{f:Operand}{M:Mem}{ats:Array TypeId}{vs:List Value}{d:Nat}{fn:Func}{rs:List ResultVar}{a:Act}{todo:List Item}
def callableB(P:Program)(f:FuncId):Bool:=
 match P.funcs[f]? with
 |some fn=> !(fn.name== "runtime.NumGoroutine") && fn.body.isSome
 |none=>false
def Entry(P:Program)(J:Goroutine→Mem→Prop)(fv:Value)(args:List Value)(c:Frame)(cs:List Frame)(M:Mem):Prop:=
 match fv with
 | .func (.func f) first cap=>callableB P f=true∧J (G (Frame.enter P f (first.toList++args++cap.toList).toArray .normal) (c::cs)) M
 | .func (.yield l) first _=>∃r,(l,Obj.loop r)∈M.own∧(first.toList++args).length=r.params.size∧
   J (G (Frame.round l r.fn ((r.params.zip (first.toList++args).toArray).foldl (fun tmps (t,a)=>tmps.setIfInBounds t a) r.tmps) r.assign r.body .normal) (c::cs)) M
 |_=>False
def CallV(P:Program)(J:Goroutine→Mem→Prop)(fv:Value)(args:List Value)(ro:RO)(pre:List (Nat×Obj))(Post:Value→RO→List (Nat×Obj)→Prop):Prop:=
 ∀ (c:Frame) (cs:List Frame) (tail:List (Nat×Obj)),(∀v ro' pre',ro.le ro'→Post v ro' pre'→J (G (c.finish v) cs) ⟨ro',pre'++tail⟩)→Entry P J fv args c cs ⟨ro,pre++tail⟩
abbrev fnv(f:FuncId):Value:= .func (.func f) #[] #[]
def CallP(P:Program)(J:Goroutine→Mem→Prop)(fv:Value)(args:List Value)(ro:RO)(w:Value):Prop:=CallV P J fv args ro [] fun v ro' pre'=>v=w∧ro'=ro∧pre'= []
def CallR(P:Program)(J:Goroutine→Mem→Prop)(fv:Value)(args:List Value)(ro:RO)(Post:Value→RO→Prop):Prop:=CallV P J fv args ro [] fun v ro' pre'=>Post v ro'∧pre'= []
theorem CallV.mono{P:Program}{J:Goroutine→Mem→Prop}{args:List Value}{ro:RO}{Post':Value→RO→List (Nat×Obj)→Prop}(h:CallV P J fv args ro pre Post)
  (hp:∀v ro' pre',ro.le ro'→Post v ro' pre'→Post' v ro' pre'):CallV P J fv args ro pre Post':=fun c cs tail hk=>h c cs tail fun v ro' pre' hl h=>hk v ro' pre' hl (hp v ro' pre' hl h)
theorem CallR.mono{P:Program}{J:Goroutine→Mem→Prop}{args:List Value}{ro:RO}{Post Post':Value→RO→Prop}(h:CallR P J fv args ro Post)
  (hp:∀v ro',ro.le ro'→Post v ro'→Post' v ro'):CallR P J fv args ro Post':=CallV.mono h fun v ro' _ hl ⟨h,e⟩=>⟨hp v ro' hl h,e⟩
section
variable {P:Program}{main:Bool}{J:Goroutine→Mem→Prop}{b:Frame}(C:Ctx P main J b){cs:List Frame}{n:Nat}{ds:List Deferred}{σ:Slots}{ro:RO}{own:List (Nat×Obj)}{k:List Item}{ops:Array Oper}{i:Nat}{rest:List Nat}
 {dst:Option Nat} {ty:TypeId} {pos:String} {af:Array Edge} {g:Option (Nat×Bool)}
theorem Sm.callFunc{f:FuncId}{args:Array Value}{K:Next→Mem→Prop}(h:callableB P f=true)(hk:K (.enter f args) M):Sm P M (Go.callFunc f args) K:=by
 unfold Go.callFunc
 refine Sm.bind (Sm.program ?_)
 unfold callableB at h
 cases hf:P.funcs[f]? with
 |none=>rw [hf] at h;cases h
 |some fn=>
  rw [hf] at h
  simp only [Bool.and_eq_true,Bool.not_eq_true'] at h
  have h2:fn.body.isNone=false:=by
   have:=h.2
   cases e:fn.body with
   |none=>rw [e] at this;cases this
   |some c=>rfl
  simp only [h.1,h2,Bool.false_eq_true,if_false]
  exact Sm.pure hk
include C
theorem R.call{tail:List (Nat×Obj)}(ho:ops[i]? =some ⟨dst, .call ⟨.value f,args.toArray,ats⟩,ty,pos,af,g⟩)
  (hg:wantedS ops σ ⟨dst, .call ⟨.value f,args.toArray,ats⟩,ty,pos,af,g⟩=some true) (hf:ev σ f=some fv) (ha:evs σ args=some vs) (hown:own=pre++tail) (hc:CallV P J fv vs ro pre Post)
  (h:∀v ro' pre',ro.le ro'→Post v ro' pre'→R J b cs n ops rest k ds (putS dst v σ) ⟨ro',pre'++tail⟩):R J b cs n ops (i::rest) k ds σ ⟨ro,own⟩:=by
 subst hown
 intro hok a hh
 have hdst:dstOk n dst=true:=by
  cases e:dst with
  |none=>rfl
  |some d=>simpa [dstOk] using dsts_of hok i d (by rw [ho];exact e)
 refine J_op C.1 C.kind ho (wanted_of hh (dsts_of hok) hg) U ?_
 have hfin:∀v,(fr b a (.inRegion ops (i::rest)::k)).finish v=fr b (a.put dst v) (.inRegion ops rest::k):=by
  intro v;rw [fr_finish,ho];rfl
 have hent:=hc (fr b a (.inRegion ops (i::rest)::k)) cs tail fun v ro' pre' hl hp=>by
  rw [hfin]
  exact h v ro' pre' hl hp hok _ (hh.putS hdst v)
 unfold execOp
 refine Sm.bind ?_
 unfold resolve
 simp only [List.map_toArray,hh.evs ha,hh.ev hf]
 unfold Deferred.ofValue
 unfold Entry at hent
 split at hent
 ·rename_i f first cap
  refine Sm.pure ?_
  unfold invoke
  refine Sm.callFunc hent.1 ?_
  have e:(first.toList++vs++cap.toList).toArray=first++vs.toArray++cap:=by apply Array.ext';simp
  rw [e] at hent
  exact hent.2
 ·rename_i l first cap
  obtain⟨r,hr,hlen,hj⟩:=hent
  refine Sm.pure ?_
  unfold invoke
  show Sm P _ (Instr.yield l (first++vs.toArray)) _
  have e:(first.toList++vs).toArray=first++vs.toArray:=by apply Array.ext';simp
  rw [e] at hj
  unfold Instr.yield Instr.getLoop
  refine Sm.bind (Sm.bind (Sm.getObj_own hr U U (Sm.pure ?_)))
  have hs:(first++vs.toArray).size=r.params.size:=by rw [←hlen];simp
  simp only [hs,ne_eq,not_true_eq_false,if_false]
  exact Sm.pure hj
 ·exact hent.elim
theorem R.callP{w:Value}(ho:ops[i]? =some ⟨some d, .call ⟨.value f,args.toArray,ats⟩,ty,pos,af,g⟩)
  (hg:wantedS ops σ ⟨some d, .call ⟨.value f,args.toArray,ats⟩,ty,pos,af,g⟩=some true) (hf:ev σ f=some fv) (ha:evs σ args=some vs) (hc:CallP P J fv vs ro w)
  (h:R J b cs n ops rest k ds ((d,w)::σ) ⟨ro,own⟩):R J b cs n ops (i::rest) k ds σ ⟨ro,own⟩:=
 R.call C ho hg hf ha (pre:= []) rfl hc fun v ro' pre' _ ⟨e1,e2,e3⟩=>by subst e1;subst e2;subst e3;exact h
theorem R.callR{Post:Value→RO→Prop}(ho:ops[i]? =some ⟨some d, .call ⟨.value f,args.toArray,ats⟩,ty,pos,af,g⟩)
  (hg:wantedS ops σ ⟨some d, .call ⟨.value f,args.toArray,ats⟩,ty,pos,af,g⟩=some true) (hf:ev σ f=some fv) (ha:evs σ args=some vs) (hc:CallR P J fv vs ro Post)
  (h:∀v ro',ro.le ro'→Post v ro'→R J b cs n ops rest k ds ((d,v)::σ) ⟨ro',own⟩):R J b cs n ops (i::rest) k ds σ ⟨ro,own⟩:=
 R.call C ho hg hf ha (pre:= []) rfl hc fun v ro' pre' hl ⟨hp,e⟩=>by subst e;exact h v ro' hl hp
end
def argSlots:Nat→List Value→Slots
 |_, []=> []
 |i,v::l=>(i,v)::argSlots (i+1) l
theorem look_argSlots:∀ (l:List Value) (i t:Nat) (v:Value),look (argSlots i l) t=some v→i≤t∧l[t-i]? =some v
 | [],_,_,_,h=>by cases h
 |x::l,i,t,v,h=>by
  simp only [argSlots,look] at h
  split at h
  ·rename_i e
   have:=Nat.eq_of_beq_eq_true e
   subst this
   cases h
   simp
  ·have:=look_argSlots l (i+1) t v h
   refine⟨O, ?_⟩
   rw [show t-i=(t- (i+1))+1 by omega]
   simpa using this.2
def bf(f:FuncId)(kind:CallKind):Frame:={fn:=f,tmps:= #[],todo:= [],defers:= [],mode:= .run,kind}
theorem enter_X{P:Program}{J:Goroutine→Mem→Prop}{f:FuncId}{c:Code}{args:List Value}{n:Nat}{cs:List Frame}{kind:CallKind}(hf:P.funcs[f]? =some fn)(hb:fn.body=some c)(hn:fn.ntmps=n)(hl:args.length≤n)
  (h:X J (bf f kind) cs n [.code c] [] (argSlots 0 args) M):J (G (Frame.enter P f args.toArray kind) cs) M:=by
 have e:Frame.enter P f args.toArray kind=fr (bf f kind) ⟨args.toArray++Array.replicate (n-args.toArray.size) undef, []⟩ [.code c]:=by
  unfold Frame.enter
  simp only [hf,Option.map_some,Option.getD_some,Option.bind_some,hb,hn]
  rfl
 rw [e]
 refine h _ ⟨by simp;omega,rfl,fun t v ht=>?_⟩
 have:=(look_argSlots _ _ _ _ ht).2
 rw [Array.getD_eq_getD_getElem?,Array.getElem?_append_left]
 ·simp only [List.getElem?_toArray]
  rw [show t-0=t from rfl] at this
  rw [this];rfl
 ·have:=(List.getElem?_eq_some_iff.1 this).1
  simpa using this
inductive Res(P:Program)(σ:Slots)(own:List (Nat×Obj)):List ResultVar→List Value→Prop
 |nil:Res P σ own [] []
 |tmp {t:Nat} {v:Value} {l:List ResultVar} {vs:List Value}:look σ t=some v→Res P σ own l vs→Res P σ own (.tmp t::l) (v::vs)
 |one {t bb:Nat} {v:Value} {tt t':TypeId} {cl:List Value} {fq:Nat×Nat} {l:List ResultVar} {vs:List Value}:look σ t=some (.pointer (some ⟨bb,0,none⟩))→(∀w,Sem.run P (Go.isAgg tt) w= .ok false w)→(bb,Obj.cells cl.toArray t' fq)∈own→cl[0]? =some v→Res P σ own l vs→Res P σ own (.cell t tt::l) (v::vs)
 |agg {t bb nn:Nat} {tt t':TypeId} {cl out:List Value} {fq:Nat×Nat} {l:List ResultVar} {vs:List Value}:look σ t=some (.pointer (some ⟨bb,0,none⟩))→(∀w,Sem.run P (Go.isAgg tt) w= .ok true w)→(∀w,Sem.run P (Go.sizeOf tt) w= .ok nn w)→(bb,Obj.cells cl.toArray t' fq)∈own→Sub 0 nn cl out→Res P σ own l vs→Res P σ own (.cell t tt::l) (.agg out.toArray::vs)
def retVal:List Value→Value
 | [v]=>v
 |l=> .tuple l.toArray
def resVar(tmps:Array Value):ResultVar→Sem Value
 | .tmp t=>pure (tmps.getD t undef)
 | .cell x t=>do loadVar t (←asAddr (tmps.getD x undef))
theorem Sm.results{P:Program}{tmps:Array Value}{n:Nat}{ds:List Deferred}{σ:Slots}{ro:RO}{own:List (Nat×Obj)}{K:Value→Mem→Prop}(ha:Holds n ds σ a)(htm:a.tmps=tmps)(hrs:fn.results=rs.toArray)(hr:Res P σ own rs vs)
  (hk:K (retVal vs) ⟨ro,own⟩):Sm P ⟨ro,own⟩ (results fn tmps) K:=by
 subst htm
 unfold Go.results
 refine Sm.bind ?_
 rw [hrs,List.mapM_toArray]
 refine Sm.map ?_
 have key:∀ {rs:List ResultVar} {vs:List Value},Res P σ own rs vs→∀ {K:List Value→Mem→Prop},K vs ⟨ro,own⟩→Sm P ⟨ro,own⟩ (rs.mapM (m:=Sem) (resVar a.tmps)) K:=by
  intro rs vs hr
  induction hr with
  |nil=>intro K hk;exact Sm.pure hk
  |tmp hl _ ih=>
   intro K hk
   rw [List.mapM_cons]
   refine Sm.bind (Sm.pure (Sm.bind (ih (Sm.pure ?_))))
   rw [ha.slots _ _ hl];exact hk
  |one hl hag hm hv _ ih=>
   intro K hk
   rw [List.mapM_cons]
   refine Sm.bind (Sm.bind ?_)
   rw [ha.slots _ _ hl]
   unfold asAddr
   refine Sm.pure ?_
   have:=Sm.loadOne_own (P:=P) (M:=⟨ro,own⟩) (off:=0) hag hm hv (K:=fun v M'=>Sm P M' (do
    let vs←List.mapM (m:=Sem) (resVar a.tmps) _
    Pure.pure (v::vs)) K) (Sm.bind (ih (Sm.pure hk)))
   unfold Instr.loadAt Instr.sureAddr at this
   intro w es hs
   obtain⟨x,w',es',M',h1,h2,h3⟩:=this w es hs
   exact⟨x,w',es',M',h1,h2,h3⟩
  |agg hl hag hz hm hv _ ih=>
   intro K hk
   rw [List.mapM_cons]
   refine Sm.bind (Sm.bind ?_)
   rw [ha.slots _ _ hl]
   unfold asAddr
   refine Sm.pure ?_
   have:=Sm.loadAgg_own (P:=P) (M:=⟨ro,own⟩) (off:=0) hag hz hm hv (K:=fun v M'=>Sm P M' (do
    let vs←List.mapM (m:=Sem) (resVar a.tmps) _
    Pure.pure (v::vs)) K) (Sm.bind (ih (Sm.pure hk)))
   unfold Instr.loadAt Instr.sureAddr at this
   intro w es hs
   obtain⟨x,w',es',M',h1,h2,h3⟩:=this w es hs
   exact⟨x,w',es',M',h1,h2,h3⟩
 refine key hr (Sm.pure ?_)
 have e:(if h:vs.toArray.size=1 then vs.toArray[0] else Value.tuple vs.toArray)=retVal vs:=by
  match vs with
  | []=>rfl
  | [v]=>rfl
  |v::w::l=>simp [retVal]
 rw [e];exact hk
section
variable {P:Program}{main:Bool}{J:Goroutine→Mem→Prop}{b:Frame}(C:Ctx P main J b){c:Frame}{cs:List Frame}{n:Nat}{ds:List Deferred}{σ:Slots}{ro:RO}{own:List (Nat×Obj)}{k:List Item}
include C
theorem J_leave(hkind:b.kind= .normal)(hf:P.funcs[b.fn]? =some fn)(hrs:fn.results=rs.toArray)(ha:Holds n [] σ a)(hr:Res P σ own rs vs)(h:J (G (c.finish (retVal vs)) cs) ⟨ro,own⟩):
  J (G {fr b a todo with mode:= .returning} (c::cs)) ⟨ro,own⟩:=by
 refine C.1.step _ _ U fun w hs=>?_
 obtain⟨x,w',es,M',h1,h2,h3⟩:=Sm.results (ro:=ro) (tmps:=a.tmps) ha rfl hrs hr (K:=fun v M'=>J (G (c.finish v) cs) M') h w #[] hs
 rw [Array.empty_append] at h1
 refine⟨_,w',seen P b.fn es,M', ?_,{h2 with evs:=fun e he=>h2.evs e (mem_seen he) },h3⟩
 simp only [fr,G,stepG,unwind,ha.defers,hf]
 rw [h1]
 simp [GStep.after,doReturn,hkind]
theorem J_mark{r:Nat}(hd:a.defers=⟨.collected r, #[]⟩::ds)(hu:Upd own r (.deferred (some [])) (.deferred none) own')
  (h:J (G {fr b ⟨a.tmps,ds⟩ todo with mode:= .returning} cs) ⟨ro,own'⟩):J (G {fr b a todo with mode:= .returning} cs) ⟨ro,own⟩:=by
 refine C.1.step _ _ U fun w hs=>?_
 have hsm:Sm P ⟨ro,own⟩ (Instr.takeDeferred r) fun l M'=>l= []∧M'=⟨ro,own'⟩:=by
  unfold Instr.takeDeferred
  exact Sm.bind (Sm.getObj_own hu.mem rfl rfl (Sm.bind (Sm.setObj_own hu rfl rfl (Sm.pure ⟨rfl,rfl⟩))))
 obtain⟨x,w',es,M',h1,h2,h3,h4⟩:=hsm w #[] hs
 subst h3;subst h4
 rw [Array.empty_append] at h1
 refine⟨_,w',seen P b.fn es,_, ?_,{h2 with evs:=fun e he=>h2.evs e (mem_seen he) },h⟩
 simp only [fr,G,stepG,unwind,hd]
 rw [h1]
 simp [GStep.after]
omit C in
theorem ret_step(hr:b.roundOf=none){main:Bool}(w:World):stepG P main (G (fr b a (.code .ret::k)) cs) w= .go (G {fr b a (.code .ret::k) with mode:= .returning} cs) w:=by
 simp [G,stepG,stepG.exec,fr,hr]
omit C in
theorem end_step(hr:b.roundOf=none){main:Bool}(w:World):stepG P main (G (fr b a []) cs) w= .go (G {fr b a [] with mode:= .returning} cs) w:=by
 simp [G,stepG,stepG.exec,fr,hr]
theorem X.ret(hro:b.roundOf=none)(hkind:b.kind= .normal)(hf:P.funcs[b.fn]? =some fn)(hrs:fn.results=rs.toArray)(hr:Res P σ own rs vs)(h:J (G (c.finish (retVal vs)) cs) ⟨ro,own⟩):
  X J b (c::cs) n (.code .ret::k) [] σ ⟨ro,own⟩:=fun _ ha=>C.1.ctl rfl (fun w=>ret_step hro w) (J_leave C hkind hf hrs ha hr h)
theorem X.fall(hro:b.roundOf=none)(hkind:b.kind= .normal)(hf:P.funcs[b.fn]? =some fn)(hrs:fn.results=rs.toArray)(hr:Res P σ own rs vs)(h:J (G (c.finish (retVal vs)) cs) ⟨ro,own⟩):
  X J b (c::cs) n [] [] σ ⟨ro,own⟩:=fun _ ha=>C.1.ctl rfl (fun w=>end_step hro w) (J_leave C hkind hf hrs ha hr h)
inductive Marks:List Deferred→List (Nat×Obj)→List (Nat×Obj)→Prop
 |nil {own:List (Nat×Obj)}:Marks [] own own
 |cons {r:Nat} {ds:List Deferred} {own own₁ own₂:List (Nat×Obj)}:Upd own r (.deferred (some [])) (.deferred none) own₁→Marks ds own₁ own₂→Marks (⟨.collected r, #[]⟩::ds) own own₂
theorem J_marks(hm:Marks ds own own'):∀ {a:Act},a.defers=ds→J (G {fr b ⟨a.tmps, []⟩ todo with mode:= .returning} cs) ⟨ro,own'⟩→J (G {fr b a todo with mode:= .returning} cs) ⟨ro,own⟩:=by
 induction hm with
 |nil=>intro a hd h;rw [←hd] at h;exact h
 |cons hu _ ih=>intro a hd h;exact J_mark C hd hu (ih rfl h)
theorem X.retM(hro:b.roundOf=none)(hkind:b.kind= .normal)(hf:P.funcs[b.fn]? =some fn)(hrs:fn.results=rs.toArray)(hm:Marks ds own own')(hr:Res P σ own' rs vs)(h:J (G (c.finish (retVal vs)) cs) ⟨ro,own'⟩):
  X J b (c::cs) n (.code .ret::k) ds σ ⟨ro,own⟩:=fun _ ha=>C.1.ctl rfl (fun w=>ret_step hro w) (J_marks C hm ha.defers (J_leave C hkind hf hrs ⟨ha.size,rfl,ha.slots⟩ hr h))
theorem X.fallM(hro:b.roundOf=none)(hkind:b.kind= .normal)(hf:P.funcs[b.fn]? =some fn)(hrs:fn.results=rs.toArray)(hm:Marks ds own own')(hr:Res P σ own' rs vs)(h:J (G (c.finish (retVal vs)) cs) ⟨ro,own'⟩):
  X J b (c::cs) n [] ds σ ⟨ro,own⟩:=fun _ ha=>C.1.ctl rfl (fun w=>end_step hro w) (J_marks C hm ha.defers (J_leave C hkind hf hrs ⟨ha.size,rfl,ha.slots⟩ hr h))
end
end Go.Lg
namespace Go.Lg
open Go Go.Conc
variable {l:Nat}{L:Loop}{own':List (Nat×Obj)}{c:Frame}
def fnV(v:Value):Prop:= ∃f a c,v= .func f a c
def Iter(P:Program)(J:Goroutine→Mem→Prop)(fv:Value)(items:List (List Value))(ro:RO):Prop:=
 ∀ (yv:Value) (I:Nat→RO→List (Nat×Obj)→Prop) (E:RO→List (Nat×Obj)→Prop),fnV yv→(∀k r r' q,r.le r'→I k r q→I k r' q)→
  (∀k (hk:k<items.length) ro1 p1,ro.le ro1→I k ro1 p1→CallV P J yv items[k] ro1 p1 fun v ro' p'=>(v= .bool true∧I (k+1) ro' p')∨(v= .bool false∧E ro' p'))→
  ∀ro0 p0,ro.le ro0→I 0 ro0 p0→CallV P J fv [yv] ro0 p0 fun v ro' p'=>v= .tuple #[]∧(I items.length ro' p'∨E ro' p')
def roundSlots:List Nat→List Value→Slots→Slots
 |t::ts,v::vs,σ=>roundSlots ts vs ((t,v)::σ)
 |_,_,σ=>σ
def allLt(n:Nat):List Nat→Bool
 | []=>true
 |t::l=>Nat.blt t n && allLt n l
theorem round_holds{n:Nat}:∀ (ps:List Nat) (vs:List Value) {σ:Slots} {a:Act} {ds:List Deferred},Holds n ds σ a→allLt n ps=true→Holds n ds (roundSlots ps vs σ) ⟨(ps.zip vs).foldl (fun tmps (x:Nat×Value)=>tmps.setIfInBounds x.1 x.2) a.tmps,a.defers⟩
 | [],_,σ,a,ds,h,_=>h
 |_::_, [],σ,a,ds,h,_=>h
 |t::ts,v::vs,σ,a,ds,h,hl=>by
  simp only [allLt,Bool.and_eq_true] at hl
  have h':=h.put (d:=t) (by simpa using hl.1) v
  exact round_holds ts vs (a:=a.put (some t) v) h' hl.2
def rf(f:FuncId)(l:Nat):Frame:={fn:=f,tmps:= #[],todo:= [],defers:= [],mode:= .run,kind:= .normal,roundOf:=some l}
def jumps(c:Code)(k:List Item):Prop:=
 match c with
 | .ret=>True
 | .exit id=>exitTo id k=none
 |_=>False
section
variable {P:Program}{main:Bool}{J:Goroutine→Mem→Prop}{b:Frame}(C:Ctx P main J b){cs:List Frame}{n:Nat}{ds:List Deferred}{σ:Slots}{ro:RO}{own:List (Nat×Obj)}{k:List Item}
include C
theorem X.beginRound(hr:b.roundOf=some l)(hL:L.state= .ready)(hu:Upd own l (.loop L) (.loop {L with state:= .busy}) own')(h:X J b cs n k ds σ ⟨ro,own'⟩):X J b cs n (.beginRound::k) ds σ ⟨ro,own⟩:=fun a ha=>by
 refine C.1.step _ _ U fun w hs=>?_
 have hsm:Sm P ⟨ro,own⟩ (do fr b a (.beginRound::k)|>.roundOf.elim (stuck "beginRound: no round") Instr.beginRound;pure .skip:Sem Next) fun x M'=>x= .skip∧M'=⟨ro,own'⟩:=by
  show Sm P ⟨ro,own⟩ (do b.roundOf.elim (stuck "beginRound: no round") Instr.beginRound;pure .skip:Sem Next) _
  rw [hr]
  refine Sm.bind ?_
  show Sm P _ (Instr.beginRound l) _
  unfold Instr.beginRound Instr.getLoop
  refine Sm.bind (Sm.bind (Sm.getObj_own hu.mem U U (Sm.pure ?_)))
  refine Sm.bind (Sm.setObj_own hu U U ?_)
  simp only [hL]
  exact Sm.pure (Sm.pure ⟨rfl,rfl⟩)
 obtain⟨x,w',es,M',h1,h2,h3,h4⟩:=hsm w #[] hs
 subst h3;subst h4
 rw [Array.empty_append] at h1
 have hk':(b.kind==CallKind.early)=false:=by simpa using C.kind
 refine⟨_,w',seen P b.fn es,_, ?_,{h2 with evs:=fun e he=>h2.evs e (mem_seen he) },h a ha⟩
 have e1:stepG P main (G (fr b a (.beginRound::k)) cs) w=stepG.apply P true (fr b a (.beginRound::k)) cs none (do(fr b a (.beginRound::k)).roundOf.elim (stuck "beginRound: no round") Instr.beginRound;pure .skip) w:=by
  simp only [G,stepG,stepG.exec,fr]
 rw [e1]
 simp only [stepG.apply,if_true]
 rw [h1]
 simp only [fr_kind,hk',GStep.after]
 simp [Frame.finish,fr,G]
theorem J_endRound{a:Act}{todo:List Item}{jump:Option Code}(hkind:b.kind= .normal)(hu:Upd own l (.loop L) (.loop {L with state:=if jump.isNone then .ready else .done,pending:=jump}) own')
  (hstep:∀w,stepG P main (G (fr b a todo) (c::cs)) w=(let(r,es):=(Instr.endRound l jump).runT P w #[];GStep.after (seen P b.fn es) (match r with
   | .ok v w=>doReturn P main (fr b a todo) (c::cs) none v w
   | .halt _ w=> .ended (.stuck "range over a function: no such loop" ((fr b a todo).pos P)) w)))
  (h:J (G (c.finish (.bool jump.isNone)) cs) ⟨ro,own'⟩):J (G (fr b a todo) (c::cs)) ⟨ro,own⟩:=by
 refine C.1.step _ _ U fun w hs=>?_
 have hsm:Sm P ⟨ro,own⟩ (Instr.endRound l jump) fun x M'=>x= .bool jump.isNone∧M'=⟨ro,own'⟩:=by
  unfold Instr.endRound Instr.getLoop
  exact Sm.bind (Sm.bind (Sm.getObj_own hu.mem rfl rfl (Sm.pure (Sm.bind (Sm.setObj_own hu rfl rfl (Sm.pure ⟨rfl,rfl⟩))))))
 obtain⟨x,w',es,M',h1,h2,h3,h4⟩:=hsm w #[] hs
 subst h3;subst h4
 rw [Array.empty_append] at h1
 refine⟨_,w',seen P b.fn es,_, ?_,{h2 with evs:=fun e he=>h2.evs e (mem_seen he) },h⟩
 rw [hstep w]
 simp only [h1]
 simp [GStep.after,doReturn,fr_kind,hkind,G]
theorem X.roundDone(hkind:b.kind= .normal)(hr:b.roundOf=some l)(hu:Upd own l (.loop L) (.loop {L with state:= .ready,pending:=none}) own')(h:J (G (c.finish (.bool true)) cs) ⟨ro,own'⟩):
  X J b (c::cs) n [] ds σ ⟨ro,own⟩:=fun a _=>
 J_endRound C (jump:=none) hkind hu (fun w=>by
  simp only [G,stepG,stepG.exec,fr,hr]
  rcases(Instr.endRound l none).runT P w #[] with⟨r,es⟩
  cases r<;>rfl) h
theorem X.roundJump{x:Code}(hkind:b.kind= .normal)(hr:b.roundOf=some l)(hx:jumps x k)(hu:Upd own l (.loop L) (.loop {L with state:= .done,pending:=some x}) own')(h:J (G (c.finish (.bool false)) cs) ⟨ro,own'⟩):
  X J b (c::cs) n (.code x::k) ds σ ⟨ro,own⟩:=fun a _=>by
 refine J_endRound C (jump:=some x) hkind hu (fun w=>?_) h
 cases x<;>simp only [jumps] at hx
 ·rename_i id
  simp only [G,stepG,stepG.exec,fr,hr,hx,Option.elim_none]
  rcases(Instr.endRound l (some (.exit id))).runT P w #[] with⟨r,es⟩
  cases r<;>rfl
 ·simp only [G,stepG,stepG.exec,fr,hr]
  rcases(Instr.endRound l (some .ret)).runT P w #[] with⟨r,es⟩
  cases r<;>rfl
end
section
variable {P:Program}{main:Bool}{J:Goroutine→Mem→Prop}{b:Frame}(C:Ctx P main J b){cs:List Frame}{n:Nat}{ds:List Deferred}{σ:Slots}{ro:RO}{own:List (Nat×Obj)}{k:List Item}
theorem upd_end(q:List (Nat×Obj))(l:Nat)(o o':Obj)(t:List (Nat×Obj)):Upd (q++(l,o)::t) l o o' (q++(l,o')::t):=by
 induction q with
 |nil=>exact .here
 |cons x q ih=>exact .there ih
include C
theorem X.rangeFunc{f:Operand}{ps:List Nat}{assign body:Code}{fv:Value}{items:List (List Value)}{ro0:RO}(I:Nat→RO→List (Nat×Obj)→Prop)(Q:Code→RO→List (Nat×Obj)→Prop)
  (hro:b.roundOf=none) (hf:ev σ f=some fv) (hit:Iter P J fv items ro0) (hle:ro0.le ro) (hps:allLt n ps=true) (hlen:∀x∈items,x.length=ps.length) (h0:I 0 ro own) (hmono:∀k r r' q,r.le r'→I k r q→I k r' q)
  (hbody:∀kk (hk:kk<items.length) (l:Nat) (cs:List Frame) (H H1:List (Nat×Obj)) ro1 q,ro0.le ro1→I kk ro1 q→Ctx P main J (rf b.fn l)→
   (∀σ' ro' q',X J (rf b.fn l) cs n [.code body] [] σ' ⟨ro',q'++H1⟩→X J (rf b.fn l) cs n [.beginRound, .code body] [] σ' ⟨ro',q'++H⟩)→
   (∀σ' ro' q',ro1.le ro'→I (kk+1) ro' q'→X J (rf b.fn l) cs n [] [] σ' ⟨ro',q'++H1⟩)→
   (∀σ' x k' ro' q',ro1.le ro'→jumps x k'→Q x ro' q'→X J (rf b.fn l) cs n (.code x::k') [] σ' ⟨ro',q'++H1⟩)→
   X J (rf b.fn l) cs n [.code assign, .beginRound, .code body] [] (roundSlots ps items[kk] σ) ⟨ro1,q++H⟩)
  (hdone:∀r ro' q',ro.le ro'→I items.length ro' q'→X J b cs n k (⟨.collected r, #[]⟩::ds) σ ⟨ro',(r, .deferred (some []))::q'⟩)
  (hjump:∀r x ro' q',ro.le ro'→Q x ro' q'→X J b cs n (.code x::k) (⟨.collected r, #[]⟩::ds) σ ⟨ro',(r, .deferred (some []))::q'⟩):
  X J b cs n (.code (.rangeFunc f ps.toArray assign body)::k) ds σ ⟨ro,own⟩:=fun a ha=>by
 have hend:∀ (l r:Nat) (L:Loop) (ro':RO) (q':List (Nat×Obj)),ro.le ro'→L.state≠ .busy→(L.pending=none∧I items.length ro' q'∨∃x,L.pending=some x∧Q x ro' q')→
   J (G {fr b ⟨a.tmps,⟨.collected r, #[]⟩::ds⟩ (.endRangeFunc l::k) with mode:= .run} cs) ⟨ro',q'++ [(l, .loop L),(r, .deferred (some []))]⟩:=by
  intro l r L ro' q' hl hst hq
  refine C.1.step _ _ U fun w hs=>?_
  have hu:=upd_end q' l (.loop L) (.loop {L with state:= .exhausted}) [(r, .deferred (some []))]
  have hsm:Sm P ⟨ro',q'++ [(l, .loop L),(r, .deferred (some []))]⟩ (Instr.endLoop l) fun x M'=>x=L.pending∧M'=⟨ro',q'++ [(l, .loop {L with state:= .exhausted}),(r, .deferred (some []))]⟩:=by
   unfold Instr.endLoop Instr.getLoop
   refine Sm.bind (Sm.bind (Sm.getObj_own hu.mem U U (Sm.pure ?_)))
   have hb:(L.state==LoopState.busy)=false:=by simpa using hst
   simp only [hb,Bool.false_eq_true,if_false]
   exact Sm.bind (Sm.setObj_own hu rfl rfl (Sm.pure ⟨rfl,rfl⟩))
  obtain⟨x,w',es,M',h1,h2,h3,h4⟩:=hsm w #[] hs
  subst h3;subst h4
  rw [Array.empty_append] at h1
  refine⟨G (fr b ⟨a.tmps,⟨.collected r, #[]⟩::ds⟩ ((L.pending.map Item.code).toList++k)) cs,w',seen P b.fn es,_, ?_,{h2 with evs:=fun e he=>h2.evs e (mem_seen he) }, ?_⟩
  ·simp only [G,stepG,stepG.exec,fr]
   rw [h1]
   simp [GStep.after]
  ·have hh:Holds n (⟨.collected r, #[]⟩::ds) σ ⟨a.tmps,⟨.collected r, #[]⟩::ds⟩:=⟨ha.size,rfl,ha.slots⟩
   have hw:Weak ⟨ro',q'++ [(l, .loop {L with state:= .exhausted}),(r, .deferred (some []))]⟩ ⟨ro',(r, .deferred (some []))::q'⟩:=by
    refine Weak.trans (Weak.sub (own':=q'++ [(r, .deferred (some []))]) ?_) (Weak.perm ?_)
    ·exact List.Sublist.append_left (List.Sublist.cons _ (List.Sublist.refl _)) q'
    ·exact List.perm_append_comm
   rcases hq with⟨e,hi⟩|⟨x,e,hi⟩
   ·have:=X.weak C.1 hw (hdone r ro' q' hl hi) _ hh
    have e2:(L.pending.map Item.code).toList++k=k:=by rw [e];rfl
    rw [e2];exact this
   ·have:=X.weak C.1 hw (hjump r x ro' q' hl hi) _ hh
    have e2:(L.pending.map Item.code).toList++k= .code x::k:=by rw [e];rfl
    rw [e2];exact this
 have hround:∀ (l r:Nat) (kk:Nat) (hk:kk<items.length) ro1 q,ro0.le ro1→ro.le ro1→I kk ro1 q→∀ (L:Loop),L.state= .ready→L.pending=none→L.fn=b.fn→L.tmps=a.tmps→L.params=ps.toArray→L.assign=assign→L.body=body→
   CallV P J (.func (.yield l) #[] #[]) items[kk] ro1 (q++ [(l, .loop L),(r, .deferred (some []))]) fun v ro' p'=>
    (v= .bool true∧∃q',ro.le ro'∧p'=q'++ [(l, .loop L),(r, .deferred (some []))]∧I (kk+1) ro' q')∨
    (v= .bool false∧∃q' x,ro.le ro'∧p'=q'++ [(l, .loop {L with state:= .done,pending:=some x}),(r, .deferred (some []))]∧Q x ro' q'):=by
  intro l r kk hk ro1 q hle1 hle2 hI L hst hpe hfn htm hpa has hbo c cs1 tail hret
  refine⟨L,by simp, ?_, ?_⟩
  ·rw [hpa];simpa using hlen _ (List.getElem_mem hk)
  have hC:Ctx P main J (rf b.fn l):=⟨C.1,by simp [rf]⟩
  have hX:=hbody kk hk l (c::cs1) ([(l, .loop L),(r, .deferred (some []))]++tail) ([(l, .loop {L with state:= .busy}),(r, .deferred (some []))]++tail) ro1 q hle1 hI hC
   (fun σ' ro' q' h=>X.beginRound hC rfl hst (upd_end q' l _ _ _) h)
   (fun σ' ro' q' hl hi=>X.roundDone hC rfl rfl (upd_end q' l _ _ _) (by
    have:=hret (.bool true) ro' (q'++ [(l, .loop L),(r, .deferred (some []))]) hl (.inl ⟨rfl,q',RO.le_trans hle2 hl,rfl,hi⟩)
    have e:({L with state:= .busy}:Loop)={L with state:= .busy}:=rfl
    have e2:({ ({L with state:= .busy}:Loop) with state:= .ready,pending:=none}:Loop)=L:=by cases L;simp only at hst hpe;subst hst;subst hpe;rfl
    rw [e2]
    simpa [List.append_assoc] using this))
   (fun σ' x k' ro' q' hl hx hq=>X.roundJump hC rfl rfl hx (upd_end q' l _ _ _) (by
    have:=hret (.bool false) ro' (q'++ [(l, .loop {L with state:= .done,pending:=some x}),(r, .deferred (some []))]) hl (.inr ⟨rfl,q',x,RO.le_trans hle2 hl,rfl,hq⟩)
    simpa [List.append_assoc] using this))
  have hh:=round_holds ps items[kk] (σ:=σ) (a:=⟨a.tmps, []⟩) (ds:= []) ⟨ha.size,rfl,ha.slots⟩ hps
  have:=hX _ hh
  have e3:Frame.round l L.fn ((L.params.zip ((#[]:Array Value).toList++items[kk]).toArray).foldl (fun tmps (t,a)=>tmps.setIfInBounds t a) L.tmps) L.assign L.body .normal=
    fr (rf b.fn l) ⟨(ps.zip items[kk]).foldl (fun tmps (x:Nat×Value)=>tmps.setIfInBounds x.1 x.2) a.tmps, []⟩ [.code assign, .beginRound, .code body]:=by
   rw [hfn,htm,hpa,has,hbo]
   simp only [Frame.round,fr,rf,List.nil_append]
   congr 1
   simp
  rw [e3]
  simpa [List.append_assoc] using this
 refine C.1.step _ _ U fun w hs=>?_
 let L0:Nat→Loop:=fun r=>{state:= .ready,pending:=none,fn:=b.fn,tmps:=a.tmps,params:=ps.toArray,assign:=assign,body:=body,defers:=r}
 have hsm:Sm P ⟨ro,own⟩ (Instr.enterLoop b.fn a.tmps ps.toArray assign body none) fun x M'=>∃r,x.2= [⟨.collected r, #[]⟩]∧M'=⟨ro,(x.1, .loop (L0 r))::(r, .deferred (some []))::own⟩:=by
  have e:Instr.enterLoop b.fn a.tmps ps.toArray assign body none=((newObj (.deferred (some [])))>>=fun r=>(newObj (.loop (L0 r)))>>=fun l=>(pure (l, [⟨.collected r, #[]⟩]):Sem (Nat×List Deferred))):=rfl
  rw [e]
  exact Sm.bind (Sm.newObj fun r _ _=>Sm.bind (Sm.newObj fun l _ _=>Sm.pure ⟨r,rfl,rfl⟩))
 obtain⟨⟨l,mark⟩,w₁,es₁,M₁,h1,h2,r,h3,h4⟩:=hsm w #[] hs
 simp only at h3 h4
 subst h3;subst h4
 rw [Array.empty_append] at h1
 have hwk:Weak ⟨ro,(l, .loop (L0 r))::(r, .deferred (some []))::own⟩ ⟨ro,own++ [(l, .loop (L0 r)),(r, .deferred (some []))]⟩:=Weak.perm (by
  have:([(l,Obj.loop (L0 r)),(r, .deferred (some []))]++own).Perm (own++ [(l, .loop (L0 r)),(r, .deferred (some []))]):=List.perm_append_comm
  simpa using this)
 have h2':=h2.trans (hwk w₁ h2.sat)
 rw [Array.append_empty] at h2'
 have hcall:=hit (.func (.yield l) #[] #[]) (fun kk ro' p'=>∃q',ro.le ro'∧p'=q'++ [(l, .loop (L0 r)),(r, .deferred (some []))]∧I kk ro' q')
  (fun ro' p'=>∃q' x,ro.le ro'∧p'=q'++ [(l, .loop {L0 r with state:= .done,pending:=some x}),(r, .deferred (some []))]∧Q x ro' q')
  ⟨_,_,_,rfl⟩ (fun k r1 r2 q1 hl ⟨q,h1,h2,h3⟩=>⟨q,RO.le_trans h1 hl,h2,hmono k r1 r2 q hl h3⟩) (fun kk hk ro1 p1 hle1 ⟨q,hl,e,hi⟩=>by subst e;exact hround l r kk hk ro1 q hle1 hl hi (L0 r) rfl rfl rfl rfl rfl rfl rfl)
  ro (own++ [(l, .loop (L0 r)),(r, .deferred (some []))]) hle ⟨own,RO.le_refl _,rfl,h0⟩
 let fr1:Frame:=fr b ⟨a.tmps,⟨.collected r, #[]⟩::a.defers⟩ (.inRangeFunc l::k)
 have hent:=hcall fr1 cs [] (fun v ro' p' hl hp=>by
  rw [List.append_nil]
  obtain⟨_,hp⟩:=hp
  have hfin:fr1.finish v={fr b ⟨a.tmps,⟨.collected r, #[]⟩::ds⟩ (.endRangeFunc l::k) with mode:= .run}:=by
   simp [fr1,Frame.finish,fr,ha.defers]
  rw [hfin]
  rcases hp with⟨q',hl',e,hi⟩|⟨q',x,hl',e,hi⟩
  ·subst e;exact hend l r _ ro' q' hl' (by simp [L0]) (.inl ⟨rfl,hi⟩)
  ·subst e;exact hend l r _ ro' q' hl' Zi (.inr ⟨x,rfl,hi⟩))
 rw [List.append_nil] at hent
 have hk':(b.kind==CallKind.early)=false:=by simpa using C.kind
 have hev:fr1.eval f=fv:=by
  have:fr1.eval f=a.eval f:=by cases f<;>rfl
  rw [this];exact ha.ev hf
 have hstep:stepG P main (G (fr b a (.code (.rangeFunc f ps.toArray assign body)::k)) cs) w=
   GStep.after (seen P b.fn es₁) (stepG.apply P true fr1 cs none (do let d←resolve fr1.eval {callee:= .value f,args:= #[.const (.func (.yield l) #[] #[])],argTypes:= #[] } 0;invoke d.target d.args) w₁):=by
  simp only [G,stepG,stepG.exec,fr,hro]
  rw [h1]
  simp only [fr1,fr,hro,List.cons_append,List.nil_append]
 unfold Entry at hent
 split at hent
 ·rename_i f' first cap
  have hsm2:Sm P ⟨ro,own++ [(l, .loop (L0 r)),(r, .deferred (some []))]⟩ (do let d←resolve fr1.eval {callee:= .value f,args:= #[.const (.func (.yield l) #[] #[])],argTypes:= #[] } 0;invoke d.target d.args) fun x M'=>
    x= .enter f' (first.toList++ [Value.func (.yield l) #[] #[]]++cap.toList).toArray∧M'=⟨ro,own++ [(l, .loop (L0 r)),(r, .deferred (some []))]⟩:=by
   refine Sm.bind ?_
   unfold resolve
   simp only [hev]
   unfold Deferred.ofValue
   refine Sm.pure ?_
   unfold invoke
   refine Sm.callFunc hent.1 ⟨?_,rfl⟩
   congr 1
   apply Array.ext'
   simp [Frame.eval]
  obtain⟨x,w₂,es₂,M₂,k1,k2,k3,k4⟩:=hsm2 w₁ #[] h2'.sat
  subst k3;subst k4
  rw [Array.empty_append] at k1
  have hg:=h2'.trans k2
  refine⟨_,w₂,seen P b.fn es₁++seen P b.fn es₂,_, ?_,{hg with evs:=fun e he=>hg.evs e (by
   rcases Array.mem_append.1 he with h|h
   ·exact Array.mem_append.2 (.inl (mem_seen h))
   ·exact Array.mem_append.2 (.inr (mem_seen h))) },hent.2⟩
  rw [hstep]
  simp only [stepG.apply,if_true]
  rw [k1]
  simp only [fr1,fr_kind,fr_fn,fr_todo,hk',GStep.after]
  simp [G]
 ·rename_i l' first cap
  obtain⟨r',hr',hlen',hj⟩:=hent
  have hsm2:Sm P ⟨ro,own++ [(l, .loop (L0 r)),(r, .deferred (some []))]⟩ (do let d←resolve fr1.eval {callee:= .value f,args:= #[.const (.func (.yield l) #[] #[])],argTypes:= #[] } 0;invoke d.target d.args) fun x M'=>
    x= .round l' r'.fn ((r'.params.zip (first.toList++ [Value.func (.yield l) #[] #[]]).toArray).foldl (fun tmps (t,a)=>tmps.setIfInBounds t a) r'.tmps) r'.assign r'.body∧M'=⟨ro,own++ [(l, .loop (L0 r)),(r, .deferred (some []))]⟩:=by
   refine Sm.bind ?_
   unfold resolve
   simp only [hev]
   unfold Deferred.ofValue
   refine Sm.pure ?_
   unfold invoke
   show Sm P _ (Instr.yield l' _) _
   unfold Instr.yield Instr.getLoop
   refine Sm.bind (Sm.bind (Sm.getObj_own hr' U U (Sm.pure ?_)))
   have e:(first++Array.map fr1.eval #[.const (.func (.yield l) #[] #[])])=(first.toList++ [Value.func (.yield l) #[] #[]]).toArray:=by
    apply Array.ext'
    simp [Frame.eval]
   rw [e]
   have hs':(first.toList++ [Value.func (.yield l) #[] #[]]).toArray.size=r'.params.size:=by rw [←hlen'];simp
   simp only [hs',ne_eq,not_true_eq_false,if_false]
   exact Sm.pure ⟨rfl,rfl⟩
  obtain⟨x,w₂,es₂,M₂,k1,k2,k3,k4⟩:=hsm2 w₁ #[] h2'.sat
  subst k3;subst k4
  rw [Array.empty_append] at k1
  have hg:=h2'.trans k2
  refine⟨_,w₂,seen P b.fn es₁++seen P b.fn es₂,_, ?_,{hg with evs:=fun e he=>hg.evs e (by
   rcases Array.mem_append.1 he with h|h
   ·exact Array.mem_append.2 (.inl (mem_seen h))
   ·exact Array.mem_append.2 (.inr (mem_seen h))) },hj⟩
  rw [hstep]
  simp only [stepG.apply,if_true]
  rw [k1]
  simp only [fr1,fr_kind,fr_fn,hk',GStep.after]
  simp [G]
 ·exact hent.elim
end
end Go.Lg
namespace Go.Lg
open Go Go.Conc
variable {t:TypeId}{ti:TypeInfo}{k m off:Nat}{l l' out vs xs:List Value}{fields:Array Field}{pv:List (Nat×Value)}{x z:Value}{K:Value→Mem→Prop}
variable {P:Program}{M:Mem}
theorem info_size(h:P.info? t=some ti)(w:World):Sem.run P (Go.sizeOf t) w= .ok ti.size w:=by
 simp [Go.sizeOf,Go.typeInfo,h]
theorem info_type(h:P.info? t=some ti)(w:World):Sem.run P (Go.typeInfo t) w= .ok ti w:=by
 simp [Go.typeInfo,h]
def allSized(P:Program)(fields:Array Field):Bool:=fields.toList.all fun f=>(P.info? f.type).isSome
theorem put_fold(h:Put off vs l l'):∀i,(vs.zipIdx i).foldl (fun(cs:Array Value) (x:Value×Nat)=>cs.setIfInBounds (off+x.2-i) x.1) l.toArray=l'.toArray:=by
 induction vs generalizing off l with
 |nil=>
  intro i
  have key:∀ {a:Nat} {l l':List Value},Put a [] l l'→l'=l:=by
   intro a
   induction a with
   |zero=>intro l l' h;cases h;rfl
   |succ a ih=>intro l l' h;cases h with|skip h=>rw [ih h]
  simp [key h]
 |cons v vs ih=>
  intro i
  obtain⟨_,h2⟩:=h.step
  simp only [List.zipIdx_cons,List.foldl_cons]
  have:=ih h2 (i+1)
  rw [show off+i-i=off by omega]
  rw [List.setIfInBounds_toArray]
  rw [←this]
  congr 1
  funext cs x
  rw [show off+1+x.2- (i+1)=off+x.2-i by omega]
theorem Put.bound(h:Put off vs l l'):off+vs.length≤l.length:=by
 induction h with
 |nil=>simp
 |here _ ih=>simp at ih⊢;omega
 |skip _ ih=>simp at ih⊢;omega
inductive Fills(P:Program)(fields:Array Field):List (Nat×Value)→List Value→List Value→Prop
 |nil {l:List Value}:Fills P fields [] l l
 |cons {i:Nat} {v:Value} {rest:List (Nat×Value)} {l l' l'' vs:List Value} {fd:Field}:fields[i]? =some fd→(∀w,Sem.run P (Go.sizeOf fd.type) w= .ok vs.length w)→v.cells=vs.toArray→Put fd.offset vs l l'→Fills P fields rest l' l''→Fills P fields ((i,v)::rest) l l''
theorem sizeOf_cells{n:Nat}(h:∀w,Sem.run P (Go.sizeOf t) w= .ok n w):P.cellsOf t=n:=by
 have:=h default
 simp only [Go.sizeOf,Go.typeInfo,Program.cellsOf,Sem.run_bind,run_program,Result.andThen] at this⊢
 cases e:P.info? t with
 |none=>rw [e] at this;simp [stuck] at this
 |some i=>rw [e] at this;simp at this⊢;exact this
theorem fill_of(h:Fills P fields pv l out):Instr.fill (fun i=>(fields[i]?).map fun f=>(f.offset,P.cellsOf f.type)) l.toArray pv=some out.toArray:=by
 induction h with
 |nil=>rfl
 |cons hf hs hv hp _ ih=>
  rename_i i v rest l l' l'' vs fd _
  have hb:=hp.bound
  simp only [Instr.fill,hf,Option.map_some,sizeOf_cells hs,hv]
  have hc:¬(vs.toArray.size≠vs.length∨fd.offset+vs.toArray.size>l.toArray.size):=by simp;omega
  rw [if_neg (by simpa using hc)]
  have:=put_fold hp 0
  simp only [Nat.sub_zero] at this
  rw [show(vs.toArray.zipIdx.foldl (fun cs (x:Value×Nat)=>cs.setIfInBounds (fd.offset+x.2) x.1) l.toArray)=l'.toArray from by
   rw [←this, ←Array.foldl_toList,Array.toList_zipIdx]]
  exact ih
theorem Sm.build{zl:List Value}(hz:∀w,Sem.run P (Go.zeroValue t) w= .ok z w)(hzl:z.cells=zl.toArray)(hu:∀w,Sem.run P (Go.underlying t) w= .ok (.struct fields) w)
  (hall:allSized P fields=true) (hf:Fills P fields pv zl out) (hk:K (.agg out.toArray) M):Sm P M (Instr.build t pv.toArray) K:=by
 unfold Instr.build
 refine Sm.bind (Sm.zeroValue hz (Sm.bind (Sm.underlying hu ?_)))
 have hmap:∀ {K:Array (Nat×Nat)→Mem→Prop},K (fields.map fun f=>(f.offset,P.cellsOf f.type)) M→Sm P M (fields.mapM (m:=Sem) fun f=>do Pure.pure (f.offset, ←Go.sizeOf f.type)) K:=by
  intro K hK
  rw [←Array.toArray_toList (xs:=fields),List.mapM_toArray]
  refine Sm.map ?_
  have hall':∀f∈fields.toList,∃ti,P.info? f.type=some ti:=fun f hf=>by
   have:=List.all_eq_true.1 hall f hf
   exact Option.isSome_iff_exists.1 this
  have key:∀ (l:List Field),(∀f∈l,∃ti,P.info? f.type=some ti)→∀ {K:List (Nat×Nat)→Mem→Prop},K (l.map fun f=>(f.offset,P.cellsOf f.type)) M→Sm P M (l.mapM (m:=Sem) fun f=>do Pure.pure (f.offset, ←Go.sizeOf f.type)) K:=by
   intro l
   induction l with
   |nil=>intro _ K hK;exact Sm.pure hK
   |cons f l ih=>
    intro hl K hK
    obtain⟨ti,hti⟩:=hl f List.mem_cons_self
    rw [List.mapM_cons]
    refine Sm.bind (Sm.bind (Sm.sizeOf (info_size hti) (Sm.pure ?_)))
    refine Sm.bind (ih (fun g hg=>hl g (List.mem_cons_of_mem _ hg)) (Sm.pure ?_))
    have:P.cellsOf f.type=ti.size:=by simp [Program.cellsOf,hti]
    rw [←this];exact hK
  refine key _ hall' ?_
  have e:(fields.toList.map fun f=>(f.offset,P.cellsOf f.type)).toArray=fields.map fun f=>(f.offset,P.cellsOf f.type):=by apply Array.ext';simp
  rw [e];exact hK
 refine Sm.bind (hmap ?_)
 have e:(fun i:Nat=>(fields.map fun f:Field=>(f.offset,P.cellsOf f.type))[i]?)=fun i:Nat=>(fields[i]?).map fun f=>(f.offset,P.cellsOf f.type):=by
  funext i;simp
 rw [e,hzl,fill_of hf]
 exact Sm.pure hk
inductive Buf(e:TypeId)(k:Nat)(tail:List (Nat×Obj)):Value→List Value→List (Nat×Obj)→Prop
 |nil:Buf e k tail (.slice none 0 0) [] tail
 |blk {p len cap:Nat} {cells spare:List Value}:cells.length=len*k→(cells++spare).length=cap*k→len≤cap→Buf e k tail (.slice (some ⟨p,0,none⟩) len cap) cells ((p, .cells (cells++spare).toArray e (0,0))::tail)
inductive Rd(M:Mem)(k:Nat):Value→Nat→List Value→Prop
 |zero {b:Option Addr} {cap:Nat}:Rd M k (.slice b 0 cap) 0 []
 |own {p off len cap:Nat} {l cells:List Value} {t:TypeId} {fq:Nat×Nat}:(p,Obj.cells l.toArray t fq)∈M.own→Sub off (len*k) l cells→Rd M k (.slice (some ⟨p,off,none⟩) len cap) len cells
 |ro {p off len cap:Nat} {l cells:List Value} {t:TypeId} {fq:Nat×Nat}:M.ro p=some (Obj.cells l.toArray t fq)→Sub off (len*k) l cells→Rd M k (.slice (some ⟨p,off,none⟩) len cap) len cells
 |str {s:List UInt8}:k=1→Rd M k (.string ⟨s.toArray⟩) s.length (s.map fun c=> .int .u8 (c.toNat:Int))
theorem Rd.length(h:Rd M k x m xs):xs.length=m*k:=by
 cases h with
 |zero=>simp
 |own _ h=>exact h.len
 |ro _ h=>exact h.len
 |str h=>subst h;simp
theorem Sm.firstCells{K:Array Value→Mem→Prop}(h:Rd M k x m xs)(hk:K xs.toArray M):Sm P M (Builtin.firstCells k m x) K:=by
 cases h with
 |zero=>
  rename_i b cap
  cases b with
  |none=>exact Sm.pure hk
  |some a=>unfold Builtin.firstCells loadCells;simp only [Nat.zero_mul,loadCellsFrom];exact Sm.pure hk
 |own hm hs=>exact Sm.loadCellsFrom_own hm _ _ 0 #[] (by simpa using hs) (by simpa using hk)
 |ro hm hs=>exact Sm.loadCellsFrom_ro hm _ _ 0 #[] (by simpa using hs) (by simpa using hk)
 |str _=>
  rename_i s _
  unfold Builtin.firstCells
  refine Sm.pure ?_
  have e:((⟨s.toArray⟩:ByteArray).extract 0 s.length).data.map (fun b:UInt8=>Value.int .u8 (b.toNat:Int))=(s.map fun c=>Value.int .u8 (c.toNat:Int)).toArray:=by
   apply Array.ext';simp
  rw [e];exact hk
theorem Put.mid:∀ (a xs c:List Value),xs.length≤c.length→Put a.length xs (a++c) (a++(xs++c.drop xs.length))
 | [], [],c,_=> .nil
 | [],x::xs, [],h=>by simp at h
 | [],x::xs,y::c,h=> .here (Put.mid [] xs c (by simpa using h))
 |y::a,xs,c,h=> .skip (Put.mid a xs c h)
theorem Sub.front:∀ (l c:List Value),Sub 0 l.length (l++c) l
 | [],_=> .nil
 |_::l,c=> .take (Sub.front l c)
theorem grow_le(need:Nat):∀ (r c:Nat),c<need→Builtin.growBy need r c≤2*need+1000
 |0,c,h=>by simp [Builtin.growBy];omega
 |r+1,c,h=>by
  simp only [Builtin.growBy]
  split
  ·omega
  ·by_cases h2:c+(c+768) /4<need
   ·exact grow_le need r _ h2
   ·cases r with
    |zero=>simp only [Builtin.growBy];omega
    |succ r=>simp only [Builtin.growBy];rw [if_pos O];omega
theorem nextcap_le{need old:Nat}(h:old<need):Builtin.nextslicecap need old≤2*need+1000:=by
 unfold Builtin.nextslicecap
 split
 ·omega
 ·split
  ·omega
  ·exact grow_le need 4 old h
theorem Sm.append{st xt e:TypeId}{xe:TypeDesc}{rt:TypeId}{v:Value}{cells:List Value}{ro:RO}{own tail:List (Nat×Obj)}(hu:∀w,Sem.run P (Go.underlying st) w= .ok (.slice e) w)(hux:∀w,Sem.run P (Go.underlying xt) w= .ok xe w)
  (hxe:∀q,xe≠ .int q) (hi:P.info? e=some ti) (hks:ti.size=k) (hz:ti.zero=some z) (hzc:z.cells.size=k) (hby:0<ti.bytes∧ti.bytes≤1000) (hb:Buf e k tail v cells own) (hx:Rd ⟨ro,own⟩ k x m xs) (ho:ones xs=true) (hsz:cells.length+xs.length≤1000000000) (hkp:0<k)
  (hk:∀v' own',Buf e k tail v' (cells++xs) own'→K v' ⟨ro,own'⟩):Sm P ⟨ro,own⟩ (Builtin.append_ #[st,xt] rt #[v,x]) K:=by
 have hxl:=hx.length
 unfold Builtin.append_
 simp only [List.getElem?_toArray,List.getElem?_cons_zero,List.getElem?_cons_succ]
 refine Sm.bind (Sm.underlying hu ?_)
 have hlen:∀ {K:Nat→Mem→Prop} {M:Mem},K m M→Sm P M (Builtin.lenOf x) K:=by
  intro K M hK
  cases hx<;>exact Sm.pure hK
 have hsize:∀w,Sem.run P (Go.sizeOf e) w= .ok k w:=fun w=>by rw [info_size hi w,hks]
 have hmk:m≤m*k:=Nat.le_mul_of_pos_right m hkp
 have hgrow:∀ (base:Option Addr) (len cap:Nat),cells.length=len*k→Rd ⟨ro,own⟩ k (.slice base len cap) len cells→cap<len+m→(∀v' own',Buf e k tail v' (cells++xs) own'→K v' ⟨ro,own'⟩)→(∀p o,Weak ⟨ro,(p,o)::own⟩ ⟨ro,(p,o)::tail⟩)→
   Sm P ⟨ro,own⟩ (do
    let newCap←Go.choose (.appendCap (len+m) cap e)
    askRoom (newCap*(←Go.typeInfo e).bytes)
    let old←Builtin.firstCells k len (.slice base len cap)
    let new←(if(!false)=true then Builtin.firstCells k m x else if m*k=0 then Pure.pure #[] else do Pure.pure (Builtin.zeroCells (←Go.zeroValue e).cells m))
    let rest:=Builtin.zeroCells (←Go.zeroValue e).cells (newCap- (len+m))
    Pure.pure (Value.slice (some (←newRow e (old++new++rest))) (len+m) newCap)) K:=by
  intro base len cap hcl hrd hlt hK hwk
  refine Sm.bind (Sm.choose fun nc hnc=>?_)
  have hge:len+m≤nc:=by
   rcases hnc with⟨h,_⟩|⟨_,t,rfl⟩
   ·simp [Question.forced] at h
   ·simp only [Question.cut];omega
  refine Sm.bind (Sm.typeInfo (info_type hi) (Sm.bind ?_))
  have hroom:∀ {n:Nat} {K:Unit→Mem→Prop} {M:Mem},K () M→Sm P M (askRoom n) K:=by
   intro n K M hK
   unfold askRoom
   exact Sm.ite (fun _=>Sm.mark (.inr rfl) hK) (fun _=>Sm.pure hK)
  refine hroom (Sm.bind (Sm.firstCells hrd (Sm.bind ?_)))
  simp only [Bool.not_false,if_true]
  refine Sm.firstCells hx (Sm.bind ?_)
  have hzv:∀w,Sem.run P (Go.zeroValue e) w= .ok z w:=fun w=>by simp [Go.zeroValue,Go.typeInfo,hi,hz]
  refine Sm.zeroValue hzv (Sm.bind ?_)
  unfold newRow
  have e1:cells.toArray++xs.toArray++Builtin.zeroCells z.cells (nc- (len+m))=(cells++xs++(Builtin.zeroCells z.cells (nc- (len+m))).toList).toArray:=by apply Array.ext';simp
  rw [e1]
  refine Sm.bind (Sm.newObj fun p _ _=>?_)
  refine Sm.ghost fun w hs=>⟨_,hwk p _ w hs,Sm.pure (Sm.pure (hK _ _ ?_))⟩
  refine .blk ?_ ?_ hge
  ·simp [hcl,hxl,Nat.add_mul]
  ·simp only [List.length_append,Array.length_toList,Builtin.zeroCells,Array.size_map,Array.size_range,hzc,hcl,hxl]
   rw [←Nat.add_mul, ←Nat.add_mul]
   congr 1;omega
 have hbig:∀ (len cap:Nat),cells.length=len*k→cap<len+m→¬(((len+m:Nat):Int)>IntKind.i64.max∧(false=true∨ti.bytes=0))∧¬(Builtin.nextslicecap (len+m) cap*ti.bytes>2^48):=by
  intro len cap hcl hlt
  refine⟨fun h=>?_, ?_⟩
  ·rcases h.2 with h|h
   ·cases h
   ·omega
  ·have h1:=nextcap_le hlt
   have h2:len≤len*k:=Nat.le_mul_of_pos_right len hkp
   have h3:len+m≤1000000000:=O
   have h4:Builtin.nextslicecap (len+m) cap*ti.bytes≤2000001000*1000:=Nat.mul_le_mul O hby.2
   omega
 cases hb with
 |nil=>
  simp only
  refine Sm.bind (Sm.sizeOf hsize (Sm.bind (Sm.underlying hux (Sm.bind (Sm.pure ?_)))))
  split
  ·exact absurd rfl (hxe _)
  simp only [Bool.false_eq_true,if_false]
  refine Sm.bind (hlen ?_)
  by_cases hm:m=0
  ·subst hm
   have:xs= []:=List.length_eq_zero_iff.1 (by simpa using hxl)
   subst this
   simp only [Nat.add_zero,Nat.le_refl,if_true]
   simp only [Bool.not_false,if_true]
   refine Sm.bind (Sm.firstCells hx (Sm.bind (Sm.pure (Sm.pure ?_))))
   exact hk _ _ (by simpa using Buf.nil)
  ·rw [if_neg O]
   obtain⟨hb1,hb2⟩:=hbig 0 0 Zi O
   refine Sm.bind (Sm.typeInfo (info_type hi) ?_)
   rw [if_neg (by simpa using hb1)]
   refine Sm.bind (Sm.typeInfo (info_type hi) ?_)
   rw [if_neg (by simpa using hb2)]
   exact hgrow none 0 0 Zi .zero O hk (fun p o=>Weak.refl _)
 |blk hcl hcap hle=>
  rename_i p len cap spare
  simp only
  refine Sm.bind (Sm.sizeOf hsize (Sm.bind (Sm.underlying hux (Sm.bind (Sm.pure ?_)))))
  split
  ·exact absurd rfl (hxe _)
  simp only [Bool.false_eq_true,if_false]
  refine Sm.bind (hlen ?_)
  by_cases hm:len+m≤cap
  ·rw [if_pos hm]
   simp only [Bool.not_false,if_true]
   refine Sm.bind (Sm.firstCells hx ?_)
   simp only [add_addr,Nat.zero_add]
   have hxs:xs.length≤spare.length:=by
    have:(len+m)*k≤cap*k:=Nat.mul_le_mul_right k hm
    simp only [List.length_append] at hcap
    rw [Nat.add_mul] at this
    omega
   have hput:=Put.mid cells xs spare hxs
   rw [hcl] at hput
   refine Sm.bind (Sm.storeCells_own xs 0 (M:=⟨ro,_⟩) (b:=p) (off:=len*k) .here (by simpa using hput) ho ?_)
   refine Sm.bind (Sm.pure (Sm.pure ?_))
   refine hk _ _ ?_
   rw [←List.append_assoc]
   refine .blk ?_ ?_ hm
   ·simp [hcl,hxl,Nat.add_mul]
   ·simp only [List.length_append,List.length_drop] at hcap⊢
    omega
  ·rw [if_neg hm]
   obtain⟨hb1,hb2⟩:=hbig len cap hcl O
   refine Sm.bind (Sm.typeInfo (info_type hi) ?_)
   rw [if_neg (by simpa using hb1)]
   refine Sm.bind (Sm.typeInfo (info_type hi) ?_)
   rw [if_neg (by simpa using hb2)]
   refine hgrow _ len cap hcl (.own (l:=cells++spare) (t:=e) (fq:=(0,0)) List.mem_cons_self (by have:=Sub.front cells spare;rw [hcl] at this;exact this)) O hk (fun q o=>Weak.sub ?_)
   exact List.Sublist.cons_cons _ (List.Sublist.cons _ (List.Sublist.refl _))
end Go.Lg
namespace Go.Lg
open Go Go.Conc
variable {out vs:List Value}{kk m:Nat}{e t:TypeId}{z:Value}{parts:List (Nat×Operand)}{tail:List (Nat×Obj)}
def pvals(σ:Slots):List (Nat×Operand)→Option (List (Nat×Value))
 | []=>some []
 |(i,x)::l=>match ev σ x,pvals σ l with
  |some v,some vs=>some ((i,v)::vs)
  |_,_=>none
theorem Holds.pvals{n:Nat}{ds:List Deferred}{σ:Slots}{a:Act}(h:Holds n ds σ a):∀ {l:List (Nat×Operand)} {vs:List (Nat×Value)},pvals σ l=some vs→l.map (fun(x:Nat×Operand)=>(x.1,a.eval x.2))=vs
 | [],vs,e=>by simp only [Lg.pvals,Option.some.injEq] at e;subst e;rfl
 |(i,x)::l,vs,e=>by
  simp only [Lg.pvals] at e
  split at e
  ·rename_i v vs' h1 h2
   cases e
   simp [h.ev h1,h.pvals h2]
  ·cases e
inductive Cat(k:Nat):List Value→List Value→Prop
 |nil:Cat k [] []
 |cons {v:Value} {vs rest out:List Value}:v.cells=vs.toArray→vs.length=k→Cat k rest out→Cat k (v::rest) (vs++out)
theorem Cat.len{k:Nat}(h:Cat k vs out):out.length=vs.length*k:=by
 induction h with
 |nil=>simp
 |cons _ h2 _ ih=>simp [h2,ih,Nat.add_mul,Nat.add_comm]
def numbered:Nat→List Value→List (Nat×Value)
 |_, []=> []
 |i,v::l=>(i,v)::numbered (i+1) l
theorem fill_cat{k:Nat}(h:Cat k vs out):∀ (i:Nat) (done rest:List Value),done.length=i*k→rest.length=vs.length*k→Instr.fill (fun i=>some (i*k,k)) (done++rest).toArray (numbered i vs)=some (done++out).toArray:=by
 induction h with
 |nil=>intro i done rest _ hr;simp at hr;subst hr;simp [numbered,Instr.fill]
 | @cons v vs rest' out' hv hl _ ih=>
  intro i done rest hd hr
  simp only [List.length_cons,Nat.add_mul,Nat.one_mul] at hr
  simp only [numbered,Instr.fill,hv]
  have hc:¬(vs.toArray.size≠k∨i*k+vs.toArray.size>(done++rest).toArray.size):=by simp [hl,hd];omega
  rw [if_neg (by simpa using hc)]
  have hp:=put_fold (Put.mid done vs rest O) 0
  simp only [Nat.sub_zero,hd] at hp
  have e:vs.toArray.zipIdx.foldl (fun cs (x:Value×Nat)=>cs.setIfInBounds (i*k+x.2) x.1) (done++rest).toArray=(done++(vs++rest.drop vs.length)).toArray:=by
   rw [←hp, ←Array.foldl_toList,Array.toList_zipIdx]
  rw [e, ←List.append_assoc]
  rw [ih (i+1) (done++vs) (rest.drop vs.length) (by simp [hd,hl,Nat.add_mul]) (by simp [hl];omega)]
  simp [List.append_assoc]
def Ls{α:Type}(enc:α→List Value)(k:Nat)(ro:RO)(v:Value)(xs:List α):Prop:=
 ∃base cap,v= .slice base xs.length cap∧(xs= []∨∃p off l t fq,base=some ⟨p,off,none⟩∧ro p=some (.cells l.toArray t fq)∧Sub off (xs.length*k) l (xs.flatMap enc))
section
variable {α:Type}{enc:α→List Value}{k:Nat}{ro ro':RO}{v:Value}{xs:List α}
theorem Ls.mono(h:Ls enc k ro v xs)(hl:ro.le ro'):Ls enc k ro' v xs:=by
 obtain⟨base,cap,rfl,h⟩:=h
 exact⟨base,cap,rfl,h.imp id fun⟨p,off,l,t,fq,h1,h2,h3⟩=>⟨p,off,l,t,fq,h1,hl _ _ h2,h3⟩⟩
theorem Ls.nil:Ls enc k ro (.slice none 0 0) ([]:List α):=⟨none,0,rfl, .inl rfl⟩
theorem Ls.form(h:Ls enc k ro v xs):∃base cap,v= .slice base xs.length cap:=let⟨b,c,e,_⟩:=h;⟨b,c,e⟩
theorem Sub.part{a n:Nat}{l:List Value}(h:Sub a n l out){i:Nat}(hi:i+m≤n):Sub (a+i) m l ((out.drop i).take m):=by
 have hb:a+n≤l.length:=by
  clear hi
  induction h with
  |nil=>simp
  |take _ ih=>simp at ih⊢;omega
  |skip _ ih=>simp at ih⊢;omega
 have e:(out.drop i).take m=(l.drop (a+i)).take m:=by
  apply List.ext_getElem?
  intro j
  by_cases hj:j<m
  ·rw [List.getElem?_take_of_lt hj,List.getElem?_take_of_lt hj,List.getElem?_drop,List.getElem?_drop, ←h.get (i+j) O]
   congr 1;omega
  ·rw [List.getElem?_take_eq_none O,List.getElem?_take_eq_none O]
 rw [e]
 exact Sub.of O
theorem flatMap_part(hk:∀x,(enc x).length=k):∀ (xs:List α) (i:Nat) (h:i<xs.length),((xs.flatMap enc).drop (i*k)).take k=enc xs[i]
 |x::xs,0,_=>by simp [List.flatMap_cons, ←hk x]
 |x::xs,i+1,h=>by
  have:=flatMap_part hk xs i (by simpa using h)
  rw [List.flatMap_cons,Nat.add_mul,Nat.one_mul,Nat.add_comm, ←List.drop_drop]
  rw [show(enc x++xs.flatMap enc).drop k=xs.flatMap enc from by rw [←hk x];simp]
  simpa using this
theorem flatMap_len(hk:∀x,(enc x).length=k):∀ (xs:List α),(xs.flatMap enc).length=xs.length*k
 | []=>by simp
 |x::xs=>by simp [List.flatMap_cons,hk,flatMap_len hk xs,Nat.add_mul,Nat.add_comm]
theorem Ls.at(h:Ls enc k ro v xs)(hk:∀x,(enc x).length=k)(hp:0<xs.length):∃p off cap l t fq,v= .slice (some ⟨p,off,none⟩) xs.length cap∧ro p=some (.cells l.toArray t fq)∧∀i (hi:i<xs.length),Sub (off+i*k) k l (enc xs[i]):=by
 obtain⟨base,cap,rfl,h⟩:=h
 rcases h with rfl|⟨p,off,l,t,fq,rfl,h2,h3⟩
 ·simp at hp
 refine⟨p,off,cap,l,t,fq,rfl,h2,fun i hi=>?_⟩
 have:=h3.part (i:=i*k) (m:=k) (by
  have:(i+1)*k≤xs.length*k:=Nat.mul_le_mul_right k O
  rw [Nat.add_mul] at this;omega)
 rwa [flatMap_part hk xs i hi] at this
theorem Ls.rd{own:List (Nat×Obj)}(h:Ls enc k ro v xs)(_hk:∀x,(enc x).length=k):Rd ⟨ro,own⟩ k v xs.length (xs.flatMap enc):=by
 obtain⟨base,cap,rfl,h⟩:=h
 rcases h with rfl|⟨p,off,l,t,fq,rfl,h2,h3⟩
 ·exact .zero
 ·exact .ro h2 h3
end
section
variable {P:Program}{main:Bool}{J:Goroutine→Mem→Prop}{b:Frame}(C:Ctx P main J b){cs:List Frame}{n:Nat}{ds:List Deferred}{σ:Slots}{ro:RO}{own:List (Nat×Obj)}{k:List Item}{ops:Array Oper}{i:Nat}{rest:List Nat}
 {d:Nat} {dst:Option Nat} {ty:TypeId} {pos:String} {af:Array Edge} {g:Option (Nat×Bool)}
include C
theorem R.build{fields:Array Field}{zl:List Value}{pv:List (Nat×Value)}{M:Mem}(ho:ops[i]? =some ⟨some d, .build t parts.toArray,ty,pos,af,g⟩)(hg:wantedS ops σ ⟨some d, .build t parts.toArray,ty,pos,af,g⟩=some true)
  (hp:pvals σ parts=some pv) (hz:∀w,Sem.run P (Go.zeroValue t) w= .ok z w) (hzl:z.cells=zl.toArray) (hu:∀w,Sem.run P (Go.underlying t) w= .ok (.struct fields) w) (hall:allSized P fields=true) (hf:Fills P fields pv zl out)
  (h:R J b cs n ops rest k ds ((d, .agg out.toArray)::σ) M):R J b cs n ops (i::rest) k ds σ M:=
 R.v C ho hg rfl (fun a ha K hk=>by
  unfold execOp
  have e:(parts.toArray.map fun(x:Nat×Operand)=>(x.1,a.eval x.2))=pv.toArray:=by rw [List.map_toArray,ha.pvals hp]
  refine ex_v ?_
  show Sm P M (Instr.build t (parts.toArray.map fun(x:Nat×Operand)=>(x.1,a.eval x.2))) _
  rw [e]
  exact Sm.build hz hzl hu hall hf hk) h
theorem R.buildSlice{len:Nat}(ho:ops[i]? =some ⟨some d, .buildSlice t len parts.toArray,ty,pos,af,g⟩)(hg:wantedS ops σ ⟨some d, .buildSlice t len parts.toArray,ty,pos,af,g⟩=some true)
  (hp:pvals σ parts=some (numbered 0 vs)) (hlen:vs.length=len) (hu:∀w,Sem.run P (Go.underlying t) w= .ok (.slice e) w) (hs:∀w,Sem.run P (Go.sizeOf e) w= .ok kk w) (hz:∀w,Sem.run P (Go.zeroValue e) w= .ok z w) (hsm:len*kk≤2^24) (hc:Cat kk vs out)
  (h:∀p,R J b cs n ops rest k ds ((d, .slice (some ⟨p,0,none⟩) len len)::σ) ⟨ro,(p, .cells out.toArray e (0,0))::own⟩):R J b cs n ops (i::rest) k ds σ ⟨ro,own⟩:=
 R.op C ho hg rfl fun a ha=>by
  unfold execOp
  have e1:(parts.toArray.map fun(x:Nat×Operand)=>(x.1,a.eval x.2))=(numbered 0 vs).toArray:=by rw [List.map_toArray,ha.pvals hp]
  refine ex_v ?_
  show Sm P _ (Instr.buildSlice t len (parts.toArray.map fun(x:Nat×Operand)=>(x.1,a.eval x.2))) _
  rw [e1]
  unfold Instr.buildSlice
  refine Sm.bind (Sm.underlying hu ?_)
  simp only
  refine Sm.bind (Sm.sizeOf hs ?_)
  rw [if_neg O]
  have hfill:∀ (zz:Array Value),Instr.fill (fun i=>some (i*kk,kk)) ((Array.range (len*kk)).map (zz[· %zz.size]!)) (numbered 0 vs).toArray.toList=some out.toArray:=by
   intro zz
   have:=fill_cat hc 0 [] ((Array.range (len*kk)).map (zz[· %zz.size]!)).toList Zi (by simp [hlen])
   rw [List.nil_append,List.nil_append,Array.toArray_toList] at this
   exact this
  have hend:∀ (zz:Array Value),Sm P ⟨ro,own⟩ (do
    let some cells:=Instr.fill (fun i=>some (i*kk,kk)) ((Array.range (len*kk)).map (zz[· %zz.size]!)) (numbered 0 vs).toArray.toList|stuck "buildSlice: a part of the wrong size"
    pure (Value.slice (some (←newRow e cells)) len len)) fun v M'=>uponX P J b cs n (some d) ops i rest k ds σ (.value v) M':=by
   intro zz
   rw [hfill]
   simp only
   unfold newRow
   exact Sm.bind (Sm.bind (Sm.newObj fun p _ _=>Sm.pure (Sm.pure (h p))))
  exact Sm.ite (fun _=>Sm.bind (Sm.pure (hend _))) (fun _=>Sm.bind (Sm.zeroValue hz (Sm.bind (Sm.pure (hend _)))))
theorem R.append{st xt:TypeId}{ti:TypeInfo}{xe:TypeDesc}{x y:Operand}{v w:Value}{cells xs:List Value}(ho:ops[i]? =some ⟨some d, .call ⟨.builtin .append, #[x,y], #[st,xt]⟩,ty,pos,af,g⟩)
  (hg:wantedS ops σ ⟨some d, .call ⟨.builtin .append, #[x,y], #[st,xt]⟩,ty,pos,af,g⟩=some true) (hx:ev σ x=some v) (hy:ev σ y=some w) (hu:∀w,Sem.run P (Go.underlying st) w= .ok (.slice e) w) (hux:∀w,Sem.run P (Go.underlying xt) w= .ok xe w)
  (hxe:∀q,xe≠ .int q) (hi:P.info? e=some ti) (hks:ti.size=kk) (hz:ti.zero=some z) (hzc:z.cells.size=kk) (hby:0<ti.bytes∧ti.bytes≤1000) (hkp:0<kk) (hb:Buf e kk tail v cells own) (hr:Rd ⟨ro,own⟩ kk w m xs) (h1:ones xs=true) (hsz:cells.length+xs.length≤1000000000)
  (h:∀v' own',Buf e kk tail v' (cells++xs) own'→R J b cs n ops rest k ds ((d,v')::σ) ⟨ro,own'⟩):R J b cs n ops (i::rest) k ds σ ⟨ro,own⟩:=
 R.op C ho hg rfl fun a ha=>by
  unfold execOp
  refine Sm.bind ?_
  unfold resolve
  refine Sm.pure ?_
  unfold invoke builtin
  simp only [List.map_toArray,List.map_cons,List.map_nil,ha.ev hx,ha.ev hy]
  exact Sm.bind (Sm.append hu hux hxe hi hks hz hzc hby hb hr h1 hsz hkp fun v' own' hb'=>Sm.pure (h v' own' hb'))
theorem R.append1{st xt e e':TypeId}{ti:TypeInfo}{kk m cap p:Nat}{z:Value}{xe:TypeDesc}{x y:Operand}{v:Value}{cells xs:List Value}{tail:List (Nat×Obj)}{fq:Nat×Nat}(ho:ops[i]? =some ⟨some d, .call ⟨.builtin .append, #[x,y], #[st,xt]⟩,ty,pos,af,g⟩)
  (hg:wantedS ops σ ⟨some d, .call ⟨.builtin .append, #[x,y], #[st,xt]⟩,ty,pos,af,g⟩=some true) (hx:ev σ x=some v) (hy:ev σ y=some (.slice (some ⟨p,0,none⟩) m cap)) (hu:∀w,Sem.run P (Go.underlying st) w= .ok (.slice e) w) (hux:∀w,Sem.run P (Go.underlying xt) w= .ok xe w)
  (hxe:∀q,xe≠ .int q) (hi:P.info? e=some ti) (hks:ti.size=kk) (hz:ti.zero=some z) (hzc:z.cells.size=kk) (hby:0<ti.bytes∧ti.bytes≤1000) (hkp:0<kk) (hb:Buf e kk tail v cells own) (hm:xs.length=m*kk) (h1:ones xs=true) (hsz:cells.length+xs.length≤1000000000)
  (h:∀v' own',Buf e kk tail v' (cells++xs) own'→R J b cs n ops rest k ds ((d,v')::σ) ⟨ro,own'⟩):R J b cs n ops (i::rest) k ds σ ⟨ro,(p, .cells xs.toArray e' fq)::own⟩:=fun hok=>by
 have hsub:Sub 0 (m*kk) xs xs:=by
  have:=Sub.front xs []
  rw [List.append_nil,hm] at this
  exact this
 cases hb with
 |nil=>
  refine R.append C ho hg hx hy hu hux hxe hi hks hz hzc hby hkp (tail:=(p, .cells xs.toArray e' fq)::own) (cells:= []) .nil (.own (t:=e') (fq:=fq) List.mem_cons_self hsub) h1 hsz (fun v' own' hb'=>?_) hok
  intro hok'
  generalize hcc: []++xs=cc at hb' h
  cases hb' with
  |nil=>exact X.weak C.1 (Weak.sub (List.Sublist.cons _ (List.Sublist.refl _))) (h _ _ .nil hok')
  |blk c1 c2 c3=>exact X.weak C.1 (Weak.sub (List.Sublist.cons_cons _ (List.Sublist.cons _ (List.Sublist.refl _)))) (h _ _ (.blk c1 c2 c3) hok')
 |blk c1 c2 c3=>
  rename_i q len cap' spare
  refine X.weak C.1 (Weak.perm (List.Perm.swap _ _ _))<|R.append C ho hg hx hy hu hux hxe hi hks hz hzc hby hkp (tail:=(p, .cells xs.toArray e' fq)::tail) (cells:=cells) (.blk c1 c2 c3) (.own (t:=e') (fq:=fq) (List.mem_cons_of_mem _ List.mem_cons_self) hsub) h1 hsz (fun v' own' hb'=>?_) hok
  intro hok'
  generalize hcc:cells++xs=cc at hb' h
  cases hb' with
  |nil=>exact X.weak C.1 (Weak.sub (List.Sublist.cons _ (List.Sublist.refl _))) (h _ _ .nil hok')
  |blk c1 c2 c3=>exact X.weak C.1 (Weak.sub (List.Sublist.cons_cons _ (List.Sublist.cons _ (List.Sublist.refl _)))) (h _ _ (.blk c1 c2 c3) hok')
omit C in
theorem X.finish{α:Type}{enc:α→List Value}{v:Value}{xs:List α}{todo:List Item}(hJ:Closed P main J)(hk:∀x,(enc x).length=kk)(hkp:0<kk)(hb:Buf e kk tail v (xs.flatMap enc) own)
  (h:∀ro':RO,ro.le ro'→Ls enc kk ro' v xs→X J b cs n todo ds σ ⟨ro',tail⟩):X J b cs n todo ds σ ⟨ro,own⟩:=by
 generalize hc:xs.flatMap enc=cells at hb
 have hlen:=flatMap_len hk xs
 rw [hc] at hlen
 cases hb with
 |nil=>
  have h0:xs.length*kk=0:=hlen.symm
  have:xs.length=0:=by
   rcases Nat.mul_eq_zero.1 h0 with h|h
   ·exact h
   ·omega
  have:xs= []:=List.length_eq_zero_iff.1 this
  subst this
  exact h ro (RO.le_refl _) Ls.nil
 |blk c1 c2 c3=>
  rename_i p len cap spare
  have e2:xs.length=len:=Nat.eq_of_mul_eq_mul_right hkp (hlen.symm.trans c1)
  refine X.persist hJ fun ro' hl hp=>h ro' hl ?_
  subst e2
  refine⟨_,_,rfl, .inr ⟨p,0,_,e,(0,0),rfl,hp, ?_⟩⟩
  rw [hc, ←c1]
  exact Sub.front _ _
end
end Go.Lg
namespace Go.Lg
open Go Go.Conc
variable {v:Value}{t:Nat}
theorem Cat.one{k:Nat}{vs:List Value}(h:v.cells=vs.toArray)(hl:vs.length=k):Cat k [v] vs:=by
 have:=Cat.cons h hl .nil
 rwa [List.append_nil] at this
section
variable {P:Program}{main:Bool}{J:Goroutine→Mem→Prop}{b:Frame}{cs:List Frame}{n:Nat}{ds:List Deferred}{σ:Slots}{M:Mem}{k:List Item}{ops:Array Oper}{todo:List Nat}
theorem R.fix{p:Bool}(hl:look σ t=some (.bool p))(h1:p=true→R J b cs n ops todo k ds ((t, .bool true)::σ) M)(h2:p=false→R J b cs n ops todo k ds ((t, .bool false)::σ) M):R J b cs n ops todo k ds σ M:=
 fun hok=>X.fix hl (fun e=>h1 e hok) (fun e=>h2 e hok)
theorem R.fixv{v':Value}(hl:look σ t=some v)(e:v=v')(h:R J b cs n ops todo k ds ((t,v')::σ) M):R J b cs n ops todo k ds σ M:=
 fun hok=>X.fixv hl e (h hok)
theorem X.loopI{ι:Type}{c:Code}(hJ:Closed P main J)(Inv:ι→Prop)(σf:ι→Slots)(Mf:ι→Mem)(μ:ι→Nat)(i₀:ι)(h0:Inv i₀)(hM:M=Mf i₀)(hs:keeps σ (σf i₀))
  (step:∀i,Inv i→(∀j,Inv j→μ j<μ i→X J b cs n (.inLoop c::k) ds (σf j) (Mf j))→X J b cs n (.code c:: .inLoop c::k) ds (σf i) (Mf i)):X J b cs n (.code (.loop c)::k) ds σ M:=by
 have key:∀m i,μ i=m→Inv i→X J b cs n (.code c:: .inLoop c::k) ds (σf i) (Mf i):=by
  intro m
  induction m using Nat.strongRecOn with
  |ind m ih=>
   intro i hm hi
   exact step i hi fun j hj hlt=>X.inLoop hJ (ih (μ j) O j rfl hj)
 subst hM
 exact X.loop hJ (X.weaken hs (key _ i₀ rfl h0))
theorem X.back{ro:RO}{own own':List (Nat×Obj)}{td:List Item}(hJ:Closed P main J)(hs:own'.Sublist own)(h:X J b cs n td ds σ ⟨ro,own'⟩):X J b cs n td ds σ ⟨ro,own⟩:=X.weak hJ (Weak.sub hs) h
end
end Go.Lg
namespace Go.Lg
open Go Go.Conc
def deps(o:Oper):List Nat:=(o.after.toList.filter (Region.binds .any)).map (·.on)
def depsAt(ops:Array Oper)(i:Nat):List Nat:=((ops[i]?).map deps).getD []
inductive Lin(ops:Array Oper):List Nat→List Nat→Prop
 |nil {L:List Nat}:(∀i,i<ops.size→i∈L)→Lin ops L []
 |cons {L l:List Nat} {i:Nat}:i<ops.size→i∉L→(∀j∈depsAt ops i,j∈L)→Lin ops (i::L) l→Lin ops L (i::l)
def edgesDown(ops:Array Oper):Bool:=(List.range ops.size).all fun i=>(depsAt ops i).all fun j=>Nat.blt j i
theorem filter_drop(i:Nat):∀ (l:List Nat) (p:Nat→Bool),l.Nodup→i∈l→p i=true→(l.filter fun x=>p x && x !=i).length+1=(l.filter p).length
 | [],_,_,h,_=>by cases h
 |x::l,p,hn,hm,hp=>by
  simp only [List.nodup_cons] at hn
  rcases List.mem_cons.1 hm with e|e
  ·subst e
   have:(l.filter fun x=>p x && x !=i)=l.filter p:=by
    apply List.filter_congr
    intro y hy
    have:y≠i:=fun e=>hn.1 (e▸hy)
    simp [this]
   simp [List.filter_cons,hp,this]
  ·have ih:=filter_drop i l p hn.2 e hp
   have hx:x≠i:=fun h=>hn.1 (h▸e)
   simp only [List.filter_cons]
   by_cases hpx:p x=true
   ·simp [hpx,hx];omega
   ·simp [hpx];omega
theorem lin_go(ops:Array Oper)(hd:edgesDown ops=true):∀ (fuel t:Nat) (listed:Array Bool) (acc L:List Nat),listed.size=ops.size→(∀i,i<ops.size→listed.getD i true=decide (i∈L))→
  ((List.range ops.size).filter fun i=>decide (i∉L)).length=fuel→∃l,Region.linearise.go .any ops fuel t listed acc=acc.reverse++l∧Lin ops L l:=by
 intro fuel
 induction fuel with
 |zero=>
  intro t listed acc L hs hl hf
  refine⟨[],by simp [Region.linearise.go], .nil fun i hi=>?_⟩
  have:=List.length_eq_zero_iff.1 hf
  have h2:=List.filter_eq_nil_iff.1 this i (List.mem_range.2 hi)
  simpa using h2
 |succ fuel ih=>
  intro t listed acc L hs hl hf
  let en:Nat→Bool:=fun i=> !listed.getD i true && ((ops[i]?).map (·.after.all fun e=> !Region.binds .any e||listed.getD e.on false)).getD false
  let rs:=(List.range ops.size).filter en
  have hget:∀i,i<ops.size→listed.getD i false=decide (i∈L):=fun i hi=>by
   rw [←hl i hi]
   simp [Array.getD,hs,hi]
  have hen:∀i,i<ops.size→(en i=true↔i∉L∧∀j∈depsAt ops i,j∈L):=by
   intro i hi
   have ho:ops[i]? =some ops[i]:=by simp [hi]
   simp only [en,ho,Option.map_some,Option.getD_some,hl i hi,Bool.and_eq_true,Bool.not_eq_true',decide_eq_false_iff_not]
   refine and_congr Iff.rfl ?_
   have hdn:∀j∈depsAt ops i,j<i:=by
    intro j hj
    have:=List.all_eq_true.1 (List.all_eq_true.1 hd i (List.mem_range.2 hi)) j hj
    simpa using this
   rw [Array.all_eq_true_iff_forall_mem]
   constructor
   ·intro h j hj
    have hj':=hdn j hj
    simp only [depsAt,ho,Option.map_some,Option.getD_some,deps,List.mem_map,List.mem_filter] at hj
    obtain⟨e,⟨he,hb⟩,rfl⟩:=hj
    have:=h e (by simpa using he)
    rw [hb] at this
    simp only [Bool.not_true,Bool.false_or] at this
    rw [hget _ O] at this
    simpa using this
   ·intro h e he
    cases hb:Region.binds .any e with
    |false=>simp
    |true=>
     have hm:e.on∈depsAt ops i:=by
      simp only [depsAt,ho,Option.map_some,Option.getD_some,deps,List.mem_map,List.mem_filter]
      exact⟨e,⟨by simpa using he,hb⟩,rfl⟩
     have:=h _ hm
     rw [hget _ (by have:=hdn _ hm;omega)]
     simpa using this
  have hne:rs≠ []:=by
   have hex:∃i,i<ops.size∧i∉L:=by
    cases hq:(List.range ops.size).filter fun i=>decide (i∉L) with
    |nil=>rw [hq] at hf;cases hf
    |cons x l=>
     have:x∈(List.range ops.size).filter fun i=>decide (i∉L):=by rw [hq];exact List.mem_cons_self
     simp only [List.mem_filter,List.mem_range,decide_eq_true_eq] at this
     exact⟨x,this⟩
   have key:∀m i,i≤m→i<ops.size→i∉L→∃j,j<ops.size∧en j=true:=by
    intro m
    induction m with
    |zero=>
     intro i him hi hil
     refine⟨i,hi,(hen i hi).2 ⟨hil,fun j hj=>?_⟩⟩
     have:=List.all_eq_true.1 (List.all_eq_true.1 hd i (List.mem_range.2 hi)) j hj
     simp at this;omega
    |succ m ihm=>
     intro i him hi hil
     by_cases hall:∀j∈depsAt ops i,j∈L
     ·exact⟨i,hi,(hen i hi).2 ⟨hil,hall⟩⟩
     ·have:∃j,j∈depsAt ops i∧j∉L:=by
       refine Classical.byContradiction fun h=>hall fun j hj=>Classical.byContradiction fun hjl=>h ⟨j,hj,hjl⟩
      obtain⟨j,hj,hjl⟩:=this
      have hlt:=List.all_eq_true.1 (List.all_eq_true.1 hd i (List.mem_range.2 hi)) j hj
      simp at hlt
      exact ihm j O O hjl
   obtain⟨i,hi,hil⟩:=hex
   obtain⟨j,hj,hje⟩:=key i i (Nat.le_refl _) hi hil
   exact List.ne_nil_of_mem (List.mem_filter.2 ⟨List.mem_range.2 hj,hje⟩)
  have hlen:0<rs.length:=List.length_pos_iff.2 hne
  have hlt:t%rs.length<rs.length:=Nat.mod_lt _ hlen
  let i:=rs[t%rs.length]
  have hi:i∈rs:=List.getElem_mem hlt
  have hi2:=List.mem_filter.1 hi
  have his:i<ops.size:=List.mem_range.1 hi2.1
  have hie:=(hen i his).1 hi2.2
  obtain⟨l,h1,h2⟩:=ih (t/rs.length) (listed.setIfInBounds i true) (i::acc) (i::L) (by simpa using hs) (fun j hj=>by
   by_cases e:i=j
   ·subst e;simp [Array.getD,hs,his]
   ·rw [show(listed.setIfInBounds i true).getD j true=listed.getD j true from by simp [Array.getD,hs,hj,Array.getElem_setIfInBounds,e]]
    rw [hl j hj]
    simp [Ne.symm e]) (by
   have:=filter_drop i (List.range ops.size) (fun x=>decide (x∉L)) List.nodup_range (List.mem_range.2 his) (by simpa using hie.1)
   rw [hf] at this
   have e:((List.range ops.size).filter fun x=>decide (x∉L) && x !=i)=(List.range ops.size).filter fun x=>decide (x∉i::L):=by
    apply List.filter_congr
    intro y _
    by_cases hy:y=i<;>by_cases hy2:y∈L<;>simp [hy,hy2]
   rw [e] at this;omega)
  refine⟨i::l, ?_, .cons his hie.1 hie.2 h2⟩
  have hgo:Region.linearise.go .any ops (fuel+1) t listed acc=Region.linearise.go .any ops fuel (t/rs.length) (listed.setIfInBounds i true) (i::acc):=by
   show(match rs[t%rs.length]? with
    |some i=>Region.linearise.go .any ops fuel (t/rs.length) (listed.setIfInBounds i true) (i::acc)
    |none=>acc.reverse)=_
   rw [List.getElem?_eq_getElem hlt]
  rw [hgo,h1]
  simp
theorem lin_linearise(ops:Array Oper)(hd:edgesDown ops=true)(t:Nat):Lin ops [] (Region.linearise .any ops t):=by
 obtain⟨l,h1,h2⟩:=lin_go ops hd ops.size t (Array.replicate ops.size false) [] [] Zi (fun i hi=>by simp [Array.getD,hi]) (by simp [List.filter_eq_self.2])
 have:Region.linearise .any ops t=l:=by simpa [Region.linearise] using h1
 rw [this];exact h2
end Go.Lg
namespace Go.Lg
open Go Go.Conc
variable {c i j t:Nat}{v:Value}{dst:Option Nat}
def slotsIn:List Operand→List Nat
 | []=> []
 | .tmp t::l=>t::slotsIn l
 |_::l=>slotsIn l
def guardSlot(ops:Array Oper)(o:Oper):List Nat:=
 match o.guard with
 |some (j,_)=>match(ops[j]?).bind (fun o:Oper=>o.dst) with
  |some d=> [d]
  |none=> []
 |none=> []
def dstAt(ops:Array Oper)(i:Nat):Option Nat:=(ops[i]?).bind (fun o:Oper=>o.dst)
def readSlots(ops:Array Oper)(i:Nat):List Nat:=
 match ops[i]? with
 |some o=>slotsIn o.op.operands.toList++guardSlot ops o
 |none=> []
def memB(t:Nat):List Nat→Bool
 | []=>false
 |x::l=>Nat.beq x t||memB t l
theorem memB_mem{t:Nat}:∀ {l:List Nat},memB t l=true↔t∈l
 | []=>by simp [memB]
 |x::l=>by
  simp only [memB,Bool.or_eq_true,List.mem_cons,memB_mem (l:=l)]
  constructor
  ·rintro(h|h)
   ·exact .inl (Nat.eq_of_beq_eq_true h).symm
   ·exact .inr h
  ·rintro(h|h)
   ·subst h;exact .inl (Nat.beq_refl _)
   ·exact .inr h
inductive Below(ops:Array Oper):Nat→Nat→Prop
 |dep {i j:Nat}:j∈depsAt ops i→Below ops j i
 |step {i j m:Nat}:Below ops j m→m∈depsAt ops i→Below ops j i
def maskOf(acc:List Nat):List Nat→Nat
 | []=>0
 |j::ds=>(maskOf acc ds|||(1<<<j))|||acc.getD j 0
def masksGo:List Oper→List Nat→List Nat
 | [],acc=>acc
 |o::l,acc=>masksGo l (acc++ [maskOf acc (deps o)])
def masks(ops:Array Oper):List Nat:=masksGo ops.toList []
theorem maskOf_bit{acc:List Nat}:∀ {ds:List Nat} {j:Nat},(maskOf acc ds).testBit j=true→j∈ds∨∃m∈ds,(acc.getD m 0).testBit j=true
 | [],j,h=>by simp [maskOf] at h
 |d::ds,j,h=>by
  simp only [maskOf,Nat.testBit_or,Bool.or_eq_true] at h
  rcases h with(h|h)|h
  ·rcases maskOf_bit h with h|⟨m,h1,h2⟩
   ·exact .inl (List.mem_cons_of_mem _ h)
   ·exact .inr ⟨m,List.mem_cons_of_mem _ h1,h2⟩
  ·left
   simp only [Nat.one_shiftLeft,Nat.testBit_two_pow,decide_eq_true_eq] at h
   simp [h]
  ·exact .inr ⟨d,List.mem_cons_self,h⟩
theorem masksGo_below{ops:Array Oper}:∀ (l:List Oper) (acc:List Nat) (done:List Oper),ops.toList=done++l→acc.length=done.length→(∀i j,(acc.getD i 0).testBit j=true→Below ops j i)→
  ∀i j,((masksGo l acc).getD i 0).testBit j=true→Below ops j i
 | [],acc,done,_,_,h=>h
 |o::l,acc,done,e,hl,h=>by
  refine masksGo_below l _ (done++ [o]) (by simp [e]) (by simp [hl]) fun i j hb=>?_
  by_cases hi:i<acc.length
  ·refine h i j ?_
   simpa [List.getD_eq_getElem?_getD,List.getElem?_append_left hi] using hb
  ·by_cases hi2:i=acc.length
   ·subst hi2
    have hb':(maskOf acc (deps o)).testBit j=true:=by simpa [List.getD_eq_getElem?_getD] using hb
    have ho:ops[acc.length]? =some o:=by
     rw [←Array.getElem?_toList,e,hl];simp
    have hd:depsAt ops acc.length=deps o:=by simp [depsAt,ho]
    rcases maskOf_bit hb' with k|⟨m,k1,k2⟩
    ·exact .dep (by rw [hd];exact k)
    ·exact .step (h m j k2) (by rw [hd];exact k1)
   ·have:(acc++ [maskOf acc (deps o)]).getD i 0=0:=by
     rw [List.getD_eq_getElem?_getD,List.getElem?_eq_none Zo];rfl
    rw [this] at hb
    simp at hb
theorem masks_below{ops:Array Oper}(h:((masks ops).getD i 0).testBit j=true):Below ops j i:=
 masksGo_below ops.toList [] [] rfl rfl (fun i j h=>by simp at h) i j h
def differ:Option Nat→Option Nat→Bool
 |some a,some b=> !Nat.beq a b
 |_,_=>true
def apartB:List Oper→Bool
 | []=>true
 |o::l=>l.all (fun o'=>differ o.dst o'.dst) && apartB l
theorem apartB_of{l:List Oper}(h:apartB l=true):∀ {i j t:Nat},(l[i]?).bind (fun o:Oper=>o.dst)=some t→(l[j]?).bind (fun o:Oper=>o.dst)=some t→i=j:=by
 induction l with
 |nil=>intro i j t h1;simp at h1
 |cons o l ih=>
  simp only [apartB,Bool.and_eq_true,List.all_eq_true] at h
  have key:∀ (j t:Nat),o.dst=some t→(l[j]?).bind (fun o:Oper=>o.dst)=some t→False:=by
   intro j t h1 h2
   obtain⟨o',ho',hd⟩:=Option.bind_eq_some_iff.1 h2
   have:=h.1 o' (List.mem_of_getElem? ho')
   rw [h1,hd] at this
   simp [differ] at this
  intro i j t h1 h2
  cases i with
  |zero=>
   cases j with
   |zero=>rfl
   |succ j=>exact(key j t (by simpa using h1) (by simpa using h2)).elim
  |succ i=>
   cases j with
   |zero=>exact(key i t (by simpa using h2) (by simpa using h1)).elim
   |succ j=>exact congrArg (· +1) (ih h.2 (i:=i) (j:=j) (t:=t) (by simpa using h1) (by simpa using h2))
def readsB(ops:Array Oper):Bool:=
 let ms:=masks ops
 (List.range ops.size).all fun i=>(readSlots ops i).all fun t=>(List.range ops.size).all fun w=>
  match dstAt ops w with
  |some d=> !Nat.beq d t||(Nat.beq w i||((ms.getD i 0).testBit w||(ms.getD w 0).testBit i))
  |none=>true
def drawOk(ops:Array Oper):Bool:=edgesDown ops && (apartB ops.toList && readsB ops)
structure Draw(ops:Array Oper):Prop where
 down:edgesDown ops=true
 apart:∀ {i j t:Nat},dstAt ops i=some t→dstAt ops j=some t→i=j
 reads:∀ {i w t:Nat},t∈readSlots ops i→dstAt ops w=some t→w=i∨Below ops w i∨Below ops i w
theorem Draw.of{ops:Array Oper}(h:drawOk ops=true):Draw ops:=by
 simp only [drawOk,Bool.and_eq_true] at h
 refine⟨h.1,fun {i j t} h1 h2=>apartB_of h.2.1 (i:=i) (j:=j) (t:=t) (by rw [Array.getElem?_toList];exact h1) (by rw [Array.getElem?_toList];exact h2),fun {i w t} ht hw=>?_⟩
 have hr:=h.2.2
 simp only [readsB,List.all_eq_true,List.mem_range] at hr
 have hi:i<ops.size:=by
  refine Classical.byContradiction fun hn=>?_
  unfold readSlots at ht
  rw [Array.getElem?_eq_none O] at ht
  simp at ht
 have hw':w<ops.size:=by
  refine Classical.byContradiction fun hn=>?_
  unfold dstAt at hw
  rw [Array.getElem?_eq_none O] at hw
  simp at hw
 have:=hr i hi t ht w hw'
 rw [hw] at this
 simp only [Nat.beq_refl,Bool.not_true,Bool.false_or,Bool.or_eq_true] at this
 rcases this with h|h|h
 ·exact .inl (Nat.eq_of_beq_eq_true h)
 ·exact .inr (.inl (masks_below h))
 ·exact .inr (.inr (masks_below h))
theorem deps_lt{ops:Array Oper}(h:edgesDown ops=true)(hj:j∈depsAt ops i):j<i:=by
 have hi:i<ops.size:=by
  refine Classical.byContradiction fun hn=>?_
  unfold depsAt at hj
  rw [Array.getElem?_eq_none O] at hj
  simp at hj
 have:=List.all_eq_true.1 (List.all_eq_true.1 h i (List.mem_range.2 hi)) j hj
 simpa using this
theorem Below.lt{ops:Array Oper}(h:edgesDown ops=true)(hb:Below ops j i):j<i:=by
 induction hb with
 |dep hj=>exact deps_lt h hj
 |step _ hm ih=>exact Nat.lt_trans ih (deps_lt h hm)
theorem Below.mem{ops:Array Oper}{X:List Nat}(hX:∀i∈X,∀j∈depsAt ops i,j∈X)(hb:Below ops j i):(∀m∈depsAt ops i,m∈X)→j∈X:=by
 induction hb with
 |dep hj=>exact fun h=>h _ hj
 |step _ hm ih=>exact fun h=>ih fun m' hm'=>hX _ (h _ hm) m' hm'
def freeB(ops:Array Oper)(L:List Nat)(i:Nat):Bool:=Nat.blt i ops.size && (!memB i L && (depsAt ops i).all fun j=>memB j L)
theorem freeB_of{ops:Array Oper}{L:List Nat}(h:freeB ops L i=true):i<ops.size∧i∉L∧∀j∈depsAt ops i,j∈L:=by
 simp only [freeB,Bool.and_eq_true,Bool.not_eq_true',List.all_eq_true] at h
 refine⟨by simpa using h.1,fun hm=>?_,fun j hj=>memB_mem.1 (h.2.2 j hj)⟩
 rw [memB_mem.2 hm] at h
 exact absurd h.2.1 Zi
def onlyB(ops:Array Oper)(L cs:List Nat):Bool:=(List.range ops.size).all fun i=>memB i L||(memB i cs||(depsAt ops i).any fun j=> !memB j L)
theorem onlyB_of{ops:Array Oper}{L cs:List Nat}(h:onlyB ops L cs=true)(hi:i<ops.size)(hn:i∉L)(hd:∀j∈depsAt ops i,j∈L):i∈cs:=by
 have:=List.all_eq_true.1 h i (List.mem_range.2 hi)
 simp only [Bool.or_eq_true,List.any_eq_true,Bool.not_eq_true'] at this
 rcases this with h|h|⟨j,hj,h⟩
 ·exact absurd (memB_mem.1 h) hn
 ·exact memB_mem.1 h
 ·rw [memB_mem.2 (hd j hj)] at h;cases h
def allB(ops:Array Oper)(L:List Nat):Bool:=(List.range ops.size).all fun i=>memB i L
def rd(ops:Array Oper)(i:Nat):Operand→Bool
 | .tmp t=>memB t (readSlots ops i)
 |_=>true
def rds(ops:Array Oper)(i:Nat):List Operand→Bool
 | []=>true
 |x::l=>rd ops i x && rds ops i l
def rdp(ops:Array Oper)(i:Nat):List (Nat×Operand)→Bool
 | []=>true
 |x::l=>rd ops i x.2 && rdp ops i l
def Ag(ops:Array Oper)(i:Nat)(σ σr:Slots):Prop:= ∀t v,t∈readSlots ops i→look σ t=some v→look σr t=some v
theorem Ag.x{ops:Array Oper}{σ σr:Slots}(h:Ag ops i σ σr){x:Operand}(hr:rd ops i x=true)(hx:ev σ x=some v):ev σr x=some v:=by
 cases x with
 |tmp t=>exact h t v (memB_mem.1 hr) hx
 |const c=>exact hx
 |global g=>exact hx
 |func f=>exact hx
theorem Ag.s{ops:Array Oper}{σ σr:Slots}(h:Ag ops i σ σr):∀ {l:List Operand} {vs:List Value},rds ops i l=true→evs σ l=some vs→evs σr l=some vs
 | [],vs,_,e=>e
 |x::l,vs,hr,e=>by
  simp only [rds,Bool.and_eq_true] at hr
  simp only [evs] at e⊢
  split at e
  ·rename_i v vs' h1 h2
   rw [h.x hr.1 h1,h.s hr.2 h2];exact e
  ·cases e
theorem Ag.p{ops:Array Oper}{σ σr:Slots}(h:Ag ops i σ σr):∀ {l:List (Nat×Operand)} {vs:List (Nat×Value)},rdp ops i l=true→pvals σ l=some vs→pvals σr l=some vs
 | [],vs,_,e=>e
 |(m,x)::l,vs,hr,e=>by
  simp only [rdp,Bool.and_eq_true] at hr
  simp only [pvals] at e⊢
  split at e
  ·rename_i v vs' h1 h2
   rw [h.x hr.1 h1,h.p hr.2 h2];exact e
  ·cases e
theorem Ag.w{ops:Array Oper}{σ σr:Slots}(h:Ag ops i σ σr){o:Oper}{t:Bool}(ho:ops[i]? =some o)(hw:wantedS ops σ o=some t):wantedS ops σr o=some t:=by
 have hrs:∀d,d∈guardSlot ops o→d∈readSlots ops i:=by
  intro d hd
  unfold readSlots
  rw [ho]
  exact List.mem_append.2 (.inr hd)
 unfold wantedS at hw⊢
 unfold guardSlot at hrs
 cases hg:o.guard with
 |none=>rw [hg] at hw;exact hw
 |some g=>
  obtain⟨j,want⟩:=g
  rw [hg] at hw hrs
  simp only at hw hrs⊢
  cases hd:(ops[j]?).bind (fun o:Oper=>o.dst) with
  |none=>rw [hd] at hw;simp at hw
  |some d=>
   rw [hd] at hw hrs
   simp only [Option.bind_some] at hw⊢
   have hm:=hrs d Zi
   cases hl:look σ d with
   |none=>rw [hl] at hw;simp at hw
   |some v=>rw [hl] at hw;rw [h d v hm hl];exact hw
structure Pn where
 i:Nat
 σ:Slots
 v:Value
theorem look_putS_ne{σ:Slots}(h:dst≠some t):look (putS dst v σ) t=look σ t:=by
 cases dst with
 |none=>rfl
 |some d=>
  simp only [putS,look]
  split
  ·rename_i e;exact absurd (congrArg some (Nat.eq_of_beq_eq_true e)) h
  ·rfl
theorem look_putS{σ:Slots}(h:dst=some t):look (putS dst v σ) t=some v:=by
 subst h;simp [putS,look]
structure Inv(ops:Array Oper)(σ₀:Slots)(L:List Nat)(Q:Pn→Prop)(σ:Slots):Prop where
 down:∀i∈L,∀j∈depsAt ops i,j∈L
 old:∀t,(∀w∈L,dstAt ops w≠some t)→look σ t=look σ₀ t
 mem:∀p,Q p→p.i∈L
 dst:∀p,Q p→∀d,dstAt ops p.i=some d→look σ d=some p.v
 new:∀p,Q p→∀t∈readSlots ops p.i,∀w∈L,dstAt ops w=some t→Below ops w p.i→look p.σ t=look σ t
 kept:∀p,Q p→∀t∈readSlots ops p.i,(∀w∈L,dstAt ops w=some t→¬Below ops w p.i)→look p.σ t=look σ₀ t
structure Real(ops:Array Oper)(σ₀:Slots)(L:List Nat)(Q:Pn→Prop)(σ:Slots)(X:List Nat)(σr:Slots):Prop where
 sub:∀i∈X,i∈L
 pend:∀i∈L,i∉X→∃p,Q p∧p.i=i
 down:∀i∈X,∀j∈depsAt ops i,j∈X
 new:∀t v,(∀w∈L,dstAt ops w=some t→w∈X)→look σ t=some v→look σr t=some v
 kept:∀t v w,w∈L→w∉X→dstAt ops w=some t→look σ₀ t=some v→look σr t=some v
variable {ops:Array Oper}{σ₀ σ σr:Slots}{L X:List Nat}{Q Q':Pn→Prop}
theorem Real.ag(hD:Draw ops)(I:Inv ops σ₀ L Q σ)(h:Real ops σ₀ L Q σ X σr){p:Pn}(hp:Q p)(hn:p.i∉X)(hd:∀j∈depsAt ops p.i,j∈X):Ag ops p.i p.σ σr:=by
 intro t v ht hv
 by_cases hw:∃w∈L,dstAt ops w=some t∧Below ops w p.i
 ·obtain⟨w,h1,h2,h3⟩:=hw
  rw [I.new p hp t ht w h1 h2 h3] at hv
  refine h.new t v (fun w' _ hw'=>?_) hv
  rw [hD.apart hw' h2]
  exact h3.mem h.down hd
 ·have hk:=I.kept p hp t ht fun w h1 h2 h3=>hw ⟨w,h1,h2,h3⟩
  rw [hk] at hv
  by_cases hx:∃w∈L,w∉X∧dstAt ops w=some t
  ·obtain⟨w,h1,h2,h3⟩:=hx
   exact h.kept t v w h1 h2 h3 hv
  ·have hno:∀w∈L,dstAt ops w≠some t:=by
    intro w h1 h2
    have hwx:w∈X:=Classical.byContradiction fun hc=>hx ⟨w,h1,hc,h2⟩
    rcases hD.reads ht h2 with e|e|e
    ·subst e;exact hn hwx
    ·exact hw ⟨w,h1,h2,e⟩
    ·exact hn (e.mem h.down (h.down w hwx))
   rw [←I.old t hno] at hv
   exact h.new t v (fun w h1 h2=>absurd h2 (hno w h1)) hv
theorem Real.run(hD:Draw ops)(I:Inv ops σ₀ L Q σ)(h:Real ops σ₀ L Q σ X σr){p:Pn}(hp:Q p)(hn:p.i∉X)(hd:∀j∈depsAt ops p.i,j∈X):Real ops σ₀ L Q σ (p.i::X) (putS (dstAt ops p.i) p.v σr) where
 sub i hi:=(List.mem_cons.1 hi).elim (fun e=>e▸I.mem p hp) (h.sub i)
 pend i hi hx:=h.pend i hi fun e=>hx (List.mem_cons_of_mem _ e)
 down i hi j hj:=(List.mem_cons.1 hi).elim (fun e=>List.mem_cons_of_mem _ (hd j (e▸hj))) (fun e=>List.mem_cons_of_mem _ (h.down i e j hj))
 new t v hw hv:=by
  by_cases e:dstAt ops p.i=some t
  ·rw [look_putS e]
   rw [I.dst p hp t e] at hv;exact hv
  ·rw [look_putS_ne e]
   refine h.new t v (fun w h1 h2=>?_) hv
   rcases List.mem_cons.1 (hw w h1 h2) with e'|e'
   ·subst e';exact absurd h2 e
   ·exact e'
 kept t v w h1 h2 h3 hv:=by
  have e:dstAt ops p.i≠some t:=fun e=>h2 (by rw [hD.apart h3 e];exact List.mem_cons_self)
  rw [look_putS_ne e]
  exact h.kept t v w h1 (fun e=>h2 (List.mem_cons_of_mem _ e)) h3 hv
theorem Inv.more(hD:Draw ops)(I:Inv ops σ₀ L Q σ)(hn:i∉L)(hd:∀j∈depsAt ops i,j∈L)(v:Value)(hQ:∀p,Q' p→Q p∨p=⟨i,σ,v⟩):Inv ops σ₀ (i::L) Q' (putS (dstAt ops i) v σ) where
 down j hj m hm:=(List.mem_cons.1 hj).elim (fun e=>List.mem_cons_of_mem _ (hd m (e▸hm))) (fun e=>List.mem_cons_of_mem _ (I.down j e m hm))
 old t h:=by
  rw [look_putS_ne (h i List.mem_cons_self)]
  exact I.old t fun w hw=>h w (List.mem_cons_of_mem _ hw)
 mem p hp:=(hQ p hp).elim (fun h=>List.mem_cons_of_mem _ (I.mem p h)) (fun e=>by subst e;exact List.mem_cons_self)
 dst p hp d hpd:=by
  rcases hQ p hp with h|e
  ·have hne:dstAt ops i≠some d:=fun e=>hn (by rw [hD.apart e hpd];exact I.mem p h)
   rw [look_putS_ne hne]
   exact I.dst p h d hpd
  ·subst e;exact look_putS hpd
 new p hp t ht w hw hwt hb:=by
  rcases hQ p hp with h|e
  ·rcases List.mem_cons.1 hw with e'|e'
   ·subst e'
    exact absurd (hb.mem I.down (I.down _ (I.mem p h))) hn
   ·have hne:dstAt ops i≠some t:=fun e=>hn (by rw [hD.apart e hwt];exact e')
    rw [look_putS_ne hne]
    exact I.new p h t ht w e' hwt hb
  ·subst e
   rcases List.mem_cons.1 hw with e'|e'
   ·subst e'
    exact absurd (hb.lt hD.down) (Nat.lt_irrefl _)
   ·have hne:dstAt ops i≠some t:=fun e=>hn (by rw [hD.apart e hwt];exact e')
    rw [look_putS_ne hne]
 kept p hp t ht hw:=by
  rcases hQ p hp with h|e
  ·exact I.kept p h t ht fun w hw'=>hw w (List.mem_cons_of_mem _ hw')
  ·subst e
   refine I.old t fun w h1 h2=>?_
   rcases hD.reads ht h2 with e|e|e
   ·subst e;exact hn h1
   ·exact hw w (List.mem_cons_of_mem _ h1) h2 e
   ·exact hn (e.mem I.down (I.down w h1))
theorem Real.defer(hD:Draw ops)(I:Inv ops σ₀ L Q σ)(h:Real ops σ₀ L Q σ X σr)(hn:i∉L)(v:Value)(hQ:∀p,Q p→Q' p)(hi:∃p,Q' p∧p.i=i):Real ops σ₀ (i::L) Q' (putS (dstAt ops i) v σ) X σr where
 sub j hj:=List.mem_cons_of_mem _ (h.sub j hj)
 pend j hj hx:=(List.mem_cons.1 hj).elim (fun e=>e▸hi) (fun e=>let⟨p,h1,h2⟩:=h.pend j e hx;⟨p,hQ p h1,h2⟩)
 down:=h.down
 new t v' hw hv:=by
  have hne:dstAt ops i≠some t:=fun e=>hn (h.sub i (hw i List.mem_cons_self e))
  rw [look_putS_ne hne] at hv
  exact h.new t v' (fun w h1 h2=>hw w (List.mem_cons_of_mem _ h1) h2) hv
 kept t v' w h1 h2 h3 hv:=by
  rcases List.mem_cons.1 h1 with e|e
  ·subst e
   have hno:∀w'∈L,dstAt ops w'≠some t:=fun w' h4 h5=>hn (by rw [hD.apart h3 h5];exact h4)
   rw [←I.old t hno] at hv
   exact h.new t v' (fun w' h4 h5=>absurd h5 (hno w' h4)) hv
  ·exact h.kept t v' w e h2 h3 hv
theorem Real.ag'(hD:Draw ops)(I:Inv ops σ₀ L Q σ)(h:Real ops σ₀ L Q σ X σr)(hn:c∉L)(hd:∀j∈depsAt ops c,j∈X):Ag ops c σ σr:=by
 intro t v ht hv
 refine h.new t v (fun w h1 h2=>?_) hv
 rcases hD.reads ht h2 with e|e|e
 ·subst e;exact absurd h1 hn
 ·exact e.mem h.down hd
 ·exact absurd (e.mem I.down (I.down w h1)) hn
theorem Real.eff(hD:Draw ops)(I:Inv ops σ₀ L Q σ)(h:Real ops σ₀ L Q σ X σr)(hn:c∉L)(hd:∀j∈depsAt ops c,j∈X)(v:Value)(hQ:∀p,Q p→Q' p∨Below ops p.i c):
  Real ops σ₀ (c::L) Q' (putS (dstAt ops c) v σ) (c::X) (putS (dstAt ops c) v σr) where
 sub i hi:=(List.mem_cons.1 hi).elim (fun e=>e▸List.mem_cons_self) (fun e=>List.mem_cons_of_mem _ (h.sub i e))
 pend i hi hx:=by
  rcases List.mem_cons.1 hi with e|e
  ·exact absurd (e▸List.mem_cons_self) hx
  ·obtain⟨p,h1,h2⟩:=h.pend i e fun e=>hx (List.mem_cons_of_mem _ e)
   rcases hQ p h1 with h|h'
   ·exact⟨p,h,h2⟩
   ·exact absurd (List.mem_cons_of_mem _ (h2▸h'.mem h.down hd)) hx
 down i hi j hj:=(List.mem_cons.1 hi).elim (fun e=>List.mem_cons_of_mem _ (hd j (e▸hj))) (fun e=>List.mem_cons_of_mem _ (h.down i e j hj))
 new t v' hw hv:=by
  by_cases e:dstAt ops c=some t
  ·rw [look_putS e] at hv⊢;exact hv
  ·rw [look_putS_ne e] at hv⊢
   refine h.new t v' (fun w h1 h2=>?_) hv
   rcases List.mem_cons.1 (hw w (List.mem_cons_of_mem _ h1) h2) with e'|e'
   ·subst e';exact absurd h2 e
   ·exact e'
 kept t v' w h1 h2 h3 hv:=by
  rcases List.mem_cons.1 h1 with e|e
  ·exact absurd (e▸List.mem_cons_self) h2
  ·have hne:dstAt ops c≠some t:=fun e'=>hn (by rw [hD.apart e' h3];exact e)
   rw [look_putS_ne hne]
   exact h.kept t v' w e (fun e=>h2 (List.mem_cons_of_mem _ e)) h3 hv
end Go.Lg
namespace Go.Lg
open Go Go.Conc
variable {d i' t:Nat}{v v':Value}{dst dst':Option Nat}{Ql':List Pn}
section
variable {P:Program}{main:Bool}{J:Goroutine→Mem→Prop}{b:Frame}{cs:List Frame}{n:Nat}{ds:List Deferred}{σ₀ σ:Slots}{M:Mem}{k:List Item}{ops:Array Oper}{i:Nat}{L:List Nat}{Ql:List Pn}
def QF(J:Goroutine→Mem→Prop)(b:Frame)(cs:List Frame)(n:Nat)(ops:Array Oper)(k:List Item)(ds:List Deferred)(p:Pn)(M:Mem):Prop:=
 ∀σr,Ag ops p.i p.σ σr→∀rest,R J b cs n ops rest k ds (putS (dstAt ops p.i) p.v σr) M→R J b cs n ops (p.i::rest) k ds σr M
def QFs(J:Goroutine→Mem→Prop)(b:Frame)(cs:List Frame)(n:Nat)(ops:Array Oper)(k:List Item)(ds:List Deferred)(M:Mem):List Pn→Prop
 | []=>True
 |p::l=>QF J b cs n ops k ds p M∧QFs J b cs n ops k ds M l
theorem QFs.mem{Q:List Pn}(h:QFs J b cs n ops k ds M Q):∀p∈Q,QF J b cs n ops k ds p M:=by
 induction Q with
 |nil=>intro p hp;cases hp
 |cons x l ih=>
  intro p hp
  rcases List.mem_cons.1 hp with e|e
  ·subst e;exact h.1
  ·exact ih h.2 p e
def D(J:Goroutine→Mem→Prop)(b:Frame)(cs:List Frame)(n:Nat)(ops:Array Oper)(σ₀:Slots)(L:List Nat)(Ql:List Pn)(k:List Item)(ds:List Deferred)(σ:Slots)(M:Mem):Prop:=
 ∀Qp:Pn→Prop,Inv ops σ₀ L (fun p=>Qp p∨p∈Ql) σ→(∀p,Qp p→∀M,QF J b cs n ops k ds p M)→QFs J b cs n ops k ds M Ql→
  ∀X σr l,Real ops σ₀ L (fun p=>Qp p∨p∈Ql) σ X σr→Lin ops X l→R J b cs n ops l k ds σr M
def keepQ(m:Nat):List Pn→List Pn
 | []=> []
 |p::l=>match m.testBit p.i with
  |true=>keepQ m l
  |false=>p::keepQ m l
theorem keepQ_mem{m:Nat}:∀ {l:List Pn} {p:Pn},p∈l→p∈keepQ m l∨m.testBit p.i=true
 |x::l,p,h=>by
  simp only [keepQ]
  rcases List.mem_cons.1 h with e|e
  ·subst e
   split
   ·rename_i hb;exact .inr hb
   ·exact .inl List.mem_cons_self
  ·rcases keepQ_mem (l:=l) e with k|k
   ·left;split
    ·exact k
    ·exact List.mem_cons_of_mem _ k
   ·exact .inr k
theorem keepQ_sub{m:Nat}:∀ {l:List Pn} {p:Pn},p∈keepQ m l→p∈l
 |x::l,p,h=>by
  simp only [keepQ] at h
  split at h
  ·exact List.mem_cons_of_mem _ (keepQ_sub h)
  ·rcases List.mem_cons.1 h with e|e
   ·subst e;exact List.mem_cons_self
   ·exact List.mem_cons_of_mem _ (keepQ_sub e)
theorem D.congr{σ':Slots}(h:∀t,look σ t=look σ' t)(hd:D J b cs n ops σ₀ L Ql k ds σ' M):D J b cs n ops σ₀ L Ql k ds σ M:=fun Qp I f1 f2 X σr l Rl hl=>
 hd Qp ⟨I.down,fun t ht=>(h t).symm.trans (I.old t ht),I.mem,fun p hp d e=>(h d).symm.trans (I.dst p hp d e),fun p hp t h1 w h2 h3 h4=>(I.new p hp t h1 w h2 h3 h4).trans (h t),I.kept⟩ f1 f2 X σr l
  ⟨Rl.sub,Rl.pend,Rl.down,fun t v hw hv=>Rl.new t v hw ((h t).trans hv),Rl.kept⟩ hl
theorem look_again{σ:Slots}(hl:look σ t=some v)(e:v=v'):∀s,look σ s=look ((t,v')::σ) s:=by
 intro s
 simp only [look]
 split
 ·rename_i h;rw [←Nat.eq_of_beq_eq_true h,hl,e]
 ·rfl
theorem D.fix{p:Bool}(hl:look σ t=some (.bool p))(h1:p=true→D J b cs n ops σ₀ L Ql k ds ((t, .bool true)::σ) M)(h2:p=false→D J b cs n ops σ₀ L Ql k ds ((t, .bool false)::σ) M):D J b cs n ops σ₀ L Ql k ds σ M:=by
 cases p with
 |true=>exact D.congr (look_again hl rfl) (h1 rfl)
 |false=>exact D.congr (look_again hl rfl) (h2 rfl)
theorem D.fixv(hl:look σ t=some v)(e:v=v')(h:D J b cs n ops σ₀ L Ql k ds ((t,v')::σ) M):D J b cs n ops σ₀ L Ql k ds σ M:=D.congr (look_again hl e) h
theorem run_pending{Qa:Pn→Prop}(hD:Draw ops)(I:Inv ops σ₀ L Qa σ)(f:∀p,Qa p→QF J b cs n ops k ds p M)
  (hend:∀X σr,Real ops σ₀ L Qa σ X σr→(∀i,i<ops.size→i∈X)→R J b cs n ops [] k ds σr M)
  (hnew:∀i X σr l,Real ops σ₀ L Qa σ X σr→i<ops.size→i∉L→(∀j∈depsAt ops i,j∈X)→Lin ops (i::X) l→R J b cs n ops (i::l) k ds σr M):
  ∀l X σr,Real ops σ₀ L Qa σ X σr→Lin ops X l→R J b cs n ops l k ds σr M:=by
 intro l
 induction l with
 |nil=>
  intro X σr Rl hl
  cases hl with
  |nil h=>exact hend X σr Rl h
 |cons i l ih=>
  intro X σr Rl hl
  cases hl with
  |cons hi hn hd hl=>
   by_cases hL:i∈L
   ·obtain⟨p,hp,e⟩:=Rl.pend i hL hn
    subst e
    exact f p hp σr (Rl.ag hD I hp hn hd) l (ih _ _ (Rl.run hD I hp hn hd) hl)
   ·exact hnew i X σr l Rl hi hL hd hl
variable (C:Ctx P main J b)
include C
theorem X.regionD{id:Nat}(hmix:P.follows .mixedOrders=true)(hok:dstsOk n ops.toList=true)(hD:drawOk ops=true)(h:drawOk ops=true→D J b cs n ops σ [] [] k ds σ M):X J b cs n (.code (.region id ops true)::k) ds σ M:=fun a ha=>by
 have hD':=Draw.of hD
 have key:∀t,J (G (fr b a (.inRegion ops (Region.schedule (P.follows .mixedOrders) ops t)::k)) cs) M:=by
  intro t
  have hs:Region.schedule (P.follows .mixedOrders) ops t=Region.linearise .any ops t:=by rw [hmix];rfl
  rw [hs]
  exact h hD (fun _=>False) ⟨Zi,fun _ _=>rfl,(by rintro p (h|h)<;>simp at h),(by rintro p (h|h)<;>simp at h),(by rintro p (h|h)<;>simp at h),(by rintro p (h|h)<;>simp at h)⟩
   Zi trivial [] σ _ ⟨by simp,by simp,by simp,fun _ _ _ h=>h,by simp⟩ (lin_linearise ops hD'.down t) hok a ha
 refine C.1.step _ _ U fun w hs=>?_
 by_cases hq:(Question.order b.fn id).forced=true
 ·refine⟨_,w, #[],M, ?_,Good.refl hs,key 0⟩
  simp [G,stepG,stepG.exec,fr,Go.choose,Sem.run,hq]
 ·refine⟨_,{w with drawn:=w.drawn+1}, #[],M, ?_,⟨⟨hs.ro,hs.own,hs.nodup,hs.apart⟩,RO.le_refl _,Nat.le_refl _,fun _ _ _=>rfl,fun _ h=> .inl h,fun _ h=> .inl h,rfl,rfl,rfl,by simp⟩,key ((Question.order b.fn id).cut (w.tape w.drawn (Question.order b.fn id)))⟩
  simp [G,stepG,stepG.exec,fr,Go.choose,Sem.run,hq]
omit C in
theorem D.pure(hok:drawOk ops=true)(hf:freeB ops L i=true)(hq:∀σr M rest,Ag ops i σ σr→R J b cs n ops rest k ds (putS (dstAt ops i) v σr) M→R J b cs n ops (i::rest) k ds σr M)
  (h:D J b cs n ops σ₀ (i::L) Ql k ds (putS (dstAt ops i) v σ) M):D J b cs n ops σ₀ L Ql k ds σ M:=fun Qp I f1 f2 X σr l Rl hl=>by
 have hD:=Draw.of hok
 obtain⟨h1,h2,h3⟩:=freeB_of hf
 refine h (fun p=>Qp p∨p=⟨i,σ,v⟩) (I.more hD h2 h3 v fun p hp=>?_) (fun p hp=>?_) f2 X σr l (Rl.defer hD I h2 v (fun p hp=>?_) ⟨⟨i,σ,v⟩, .inl (.inr rfl),rfl⟩) hl
 ·rcases hp with(hp|hp)|hp
  ·exact .inl (.inl hp)
  ·exact .inr hp
  ·exact .inl (.inr hp)
 ·rcases hp with hp|hp
  ·exact f1 p hp
  ·subst hp;exact fun M σr ha rest hr=>hq σr M rest ha hr
 ·exact hp.elim (fun h=> .inl (.inl h)) .inr
omit C in
theorem D.look(hok:drawOk ops=true)(hf:freeB ops L i=true)(hq:QF J b cs n ops k ds ⟨i,σ,v⟩ M)
  (h:D J b cs n ops σ₀ (i::L) (⟨i,σ,v⟩::Ql) k ds (putS (dstAt ops i) v σ) M):D J b cs n ops σ₀ L Ql k ds σ M:=fun Qp I f1 f2 X σr l Rl hl=>by
 have hD:=Draw.of hok
 obtain⟨h1,h2,h3⟩:=freeB_of hf
 refine h Qp (I.more hD h2 h3 v fun p hp=>?_) f1 ⟨hq,f2⟩ X σr l (Rl.defer hD I h2 v (fun p hp=>?_) ⟨⟨i,σ,v⟩, .inr List.mem_cons_self,rfl⟩) hl
 ·rcases hp with hp|hp
  ·exact .inl (.inl hp)
  ·rcases List.mem_cons.1 hp with e|e
   ·exact .inr e
   ·exact .inl (.inr e)
 ·exact hp.elim .inl fun h=> .inr (List.mem_cons_of_mem _ h)
theorem D.done(hok:drawOk ops=true)(ha:allB ops L=true)(h:X J b cs n k ds σ M):D J b cs n ops σ₀ L Ql k ds σ M:=fun Qp I f1 f2 X σr l Rl hl=>by
 have hall:∀i,i<ops.size→i∈L:=fun i hi=>memB_mem.1 (List.all_eq_true.1 ha i (List.mem_range.2 hi))
 refine run_pending (Draw.of hok) I (fun p hp=>hp.elim (fun h=>f1 p h M) (QFs.mem f2 p)) (fun X σr Rl hX=>?_) (fun i _ _ _ _ hi hn _ _=>absurd (hall i hi) hn) l X σr Rl hl
 refine R.done C fun a ha=>h a (ha.weaken fun t v hv=>Rl.new t v (fun w hw _=>hX w ?_) hv)
 refine Classical.byContradiction fun hc=>?_
 rename_i hwt
 unfold dstAt at hwt
 rw [Array.getElem?_eq_none O] at hwt
 simp at hwt
def DK(J:Goroutine→Mem→Prop)(b:Frame)(cs:List Frame)(n:Nat)(ops:Array Oper)(σ₀:Slots)(L:List Nat)(Ql:List Pn)(k:List Item)(ds:List Deferred)(σ:Slots)(i:Nat)(v:Value)(M:Mem):Prop:=
 QFs J b cs n ops k ds M (keepQ ((masks ops).getD i 0) Ql)∧D J b cs n ops σ₀ (i::L) (keepQ ((masks ops).getD i 0) Ql) k ds (putS (dstAt ops i) v σ) M
def Each(p:Nat→Prop):List Nat→Prop
 | []=>True
 | [i]=>p i
 |i::l=>p i∧Each p l
omit C in
theorem Each.mem{p:Nat→Prop}:∀ {l:List Nat},Each p l→∀i∈l,p i
 | [j],h,i,hi=>by
  simp only [List.mem_singleton] at hi
  subst hi;exact h
 |j::j'::l,h,i,hi=>by
  rcases List.mem_cons.1 hi with e|e
  ·subst e;exact h.1
  ·exact Each.mem (l:=j'::l) h.2 i e
omit C in
theorem D.eff{c:List Nat}(hok:drawOk ops=true)(hc:onlyB ops L c=true)(hne:allB ops L=false)
  (h:Each (fun i=>∀σr rest,Ag ops i σ σr→(∀v M',DK J b cs n ops σ₀ L Ql k ds σ i v M'→R J b cs n ops rest k ds (putS (dstAt ops i) v σr) M')→R J b cs n ops (i::rest) k ds σr M) c):D J b cs n ops σ₀ L Ql k ds σ M:=fun Qp I f1 f2 X σr l Rl hl=>by
 have hD:=Draw.of hok
 refine run_pending hD I (fun p hp=>hp.elim (fun h=>f1 p h M) (QFs.mem f2 p)) (fun X σr Rl hX=>?_) (fun i X σr l Rl hi hn hd hl=>?_) l X σr Rl hl
 ·exfalso
  have:allB ops L=true:=List.all_eq_true.2 fun i hi=>memB_mem.2 (Rl.sub i (hX i (List.mem_range.1 hi)))
  rw [this] at hne;cases hne
 ·have hdL:∀j∈depsAt ops i,j∈L:=fun j hj=>Rl.sub j (hd j hj)
  have hic:=onlyB_of hc hi hn hdL
  refine h.mem i hic σr l (Rl.ag' hD I hn hd) fun v M' hk=>hk.2 Qp (I.more hD hn hdL v fun p hp=> .inl (hp.elim .inl fun h=> .inr (keepQ_sub h))) f1 hk.1 (i::X) _ l (Rl.eff hD I hn hd v fun p hp=>?_) hl
  rcases hp with hp|hp
  ·exact .inl (.inl hp)
  ·rcases keepQ_mem (m:=(masks ops).getD i 0) hp with h|h
   ·exact .inl (.inr h)
   ·exact .inr (masks_below h)
omit C in
theorem D.p(hok:drawOk ops=true)(hd:dstAt ops i=some d)(hf:freeB ops L i=true)(hq:∀σr M rest,Ag ops i σ σr→R J b cs n ops rest k ds ((d,v)::σr) M→R J b cs n ops (i::rest) k ds σr M)
  (h:D J b cs n ops σ₀ (i::L) Ql k ds ((d,v)::σ) M):D J b cs n ops σ₀ L Ql k ds σ M:=
 D.pure (v:=v) hok hf (by rw [hd];exact hq) (by rw [hd];exact h)
omit C in
theorem D.l(hok:drawOk ops=true)(hd:dstAt ops i=some d)(hf:freeB ops L i=true)(hq:∀σr rest,Ag ops i σ σr→R J b cs n ops rest k ds ((d,v)::σr) M→R J b cs n ops (i::rest) k ds σr M)
  (h:D J b cs n ops σ₀ (i::L) (⟨i,σ,v⟩::Ql) k ds ((d,v)::σ) M):D J b cs n ops σ₀ L Ql k ds σ M:=
 D.look (v:=v) hok hf (fun σr ha rest=>by rw [hd];exact hq σr rest ha) (by rw [hd];exact h)
def Next1(J:Goroutine→Mem→Prop)(b:Frame)(cs:List Frame)(n:Nat)(ops:Array Oper)(k:List Item)(ds:List Deferred)(i:Nat)(σ:Slots)(dst:Option Nat)(M:Mem)(K:Value→Mem→Prop):Prop:=
 ∀σr rest,Ag ops i σ σr→(∀v M',K v M'→R J b cs n ops rest k ds (putS dst v σr) M')→R J b cs n ops (i::rest) k ds σr M
omit C in
theorem D.e(hok:drawOk ops=true)(hd:dstAt ops i=dst)(hc:(onlyB ops L [i] && !allB ops L)=true)(hm:keepQ ((masks ops).getD i 0) Ql=Ql')
  (h:Next1 J b cs n ops k ds i σ dst M fun v M'=>QFs J b cs n ops k ds M' Ql'∧D J b cs n ops σ₀ (i::L) Ql' k ds (putS dst v σ) M'):D J b cs n ops σ₀ L Ql k ds σ M:=by
 simp only [Bool.and_eq_true,Bool.not_eq_true'] at hc
 refine D.eff (c:= [i]) hok hc.1 hc.2 fun σr rest ha hk=>?_
 rw [hd] at hk
 refine h σr rest ha fun v M' hh=>hk v M' ?_
 unfold DK
 rw [hm,hd]
 exact hh
omit C in
theorem D.e2{Ql'':List Pn}(hok:drawOk ops=true)(hd:dstAt ops i=dst)(hd':dstAt ops i'=dst')(hc:(onlyB ops L [i,i'] && !allB ops L)=true)(hm:keepQ ((masks ops).getD i 0) Ql=Ql')(hm':keepQ ((masks ops).getD i' 0) Ql=Ql'')
  (h:Next1 J b cs n ops k ds i σ dst M fun v M'=>QFs J b cs n ops k ds M' Ql'∧D J b cs n ops σ₀ (i::L) Ql' k ds (putS dst v σ) M')
  (h':Next1 J b cs n ops k ds i' σ dst' M fun v M'=>QFs J b cs n ops k ds M' Ql''∧D J b cs n ops σ₀ (i'::L) Ql'' k ds (putS dst' v σ) M'):D J b cs n ops σ₀ L Ql k ds σ M:=by
 simp only [Bool.and_eq_true,Bool.not_eq_true'] at hc
 refine D.eff (c:= [i,i']) hok hc.1 hc.2 ⟨fun σr rest ha hk=>?_,fun σr rest ha hk=>?_⟩
 ·rw [hd] at hk
  refine h σr rest ha fun v M' hh=>hk v M' ?_
  unfold DK
  rw [hm,hd]
  exact hh
 ·rw [hd'] at hk
  refine h' σr rest ha fun v M' hh=>hk v M' ?_
  unfold DK
  rw [hm',hd']
  exact hh
def pickQ:List Bool→List Pn→List Pn
 |true::l,p::q=>p::pickQ l q
 |_::l,_::q=>pickQ l q
 |_,_=> []
omit C in
theorem D.eP(bs:List Bool)(hok:drawOk ops=true)(hd:dstAt ops i=dst)(hc:(onlyB ops L [i] && !allB ops L)=true)(hm:keepQ ((masks ops).getD i 0) Ql=pickQ bs Ql)
  (h:Next1 J b cs n ops k ds i σ dst M fun v M'=>QFs J b cs n ops k ds M' (pickQ bs Ql)∧D J b cs n ops σ₀ (i::L) (pickQ bs Ql) k ds (putS dst v σ) M'):D J b cs n ops σ₀ L Ql k ds σ M:=D.e hok hd hc hm h
omit C in
theorem D.eP2(bs bs':List Bool)(hok:drawOk ops=true)(hd:dstAt ops i=dst)(hd':dstAt ops i'=dst')(hc:(onlyB ops L [i,i'] && !allB ops L)=true)(hm:keepQ ((masks ops).getD i 0) Ql=pickQ bs Ql)(hm':keepQ ((masks ops).getD i' 0) Ql=pickQ bs' Ql)
  (h:Next1 J b cs n ops k ds i σ dst M fun v M'=>QFs J b cs n ops k ds M' (pickQ bs Ql)∧D J b cs n ops σ₀ (i::L) (pickQ bs Ql) k ds (putS dst v σ) M')
  (h':Next1 J b cs n ops k ds i' σ dst' M fun v M'=>QFs J b cs n ops k ds M' (pickQ bs' Ql)∧D J b cs n ops σ₀ (i'::L) (pickQ bs' Ql) k ds (putS dst' v σ) M'):D J b cs n ops σ₀ L Ql k ds σ M:=D.e2 hok hd hd' hc hm hm' h h'
omit C in
theorem QFs.nil:QFs J b cs n ops k ds M []:=trivial
omit C in
theorem QFs.cons{p:Pn}{q:List Pn}(h:QF J b cs n ops k ds p M)(h':QFs J b cs n ops k ds M q):QFs J b cs n ops k ds M (p::q):=⟨h,h'⟩
omit C in
theorem QF.of{i:Nat}(hd:dstAt ops i=some d)(hq:∀σr rest,Ag ops i σ σr→R J b cs n ops rest k ds ((d,v)::σr) M→R J b cs n ops (i::rest) k ds σr M):QF J b cs n ops k ds ⟨i,σ,v⟩ M:=
 fun σr ha rest=>by rw [hd];exact hq σr rest ha
end
end Go.Lg
namespace Go.Lg
open Go Go.Conc
variable {bb cap f i id kk len off s:Nat}{x y:Operand}{rest:List Nat}{fields:Array Field}{fd:Field}{e t tt:TypeId}{ik:IntKind}{z:Int}{ro:RO}{own:List (Nat×Obj)}{fq:Nat×Nat}{l:List Value}
section
variable {P:Program}{main:Bool}{J:Goroutine→Mem→Prop}{b:Frame}{cs:List Frame}{n:Nat}{ds:List Deferred}{σ₀ σ:Slots}{M:Mem}{k:List Item}{ops:Array Oper}{L:List Nat}{Ql:List Pn}
theorem Dp(i:Nat){v:Value}{d:Nat}(hok:drawOk ops=true)(hq:∀σr M rest,Ag ops i σ σr→R J b cs n ops rest k ds ((d,v)::σr) M→R J b cs n ops (i::rest) k ds σr M)
  (h:D J b cs n ops σ₀ (i::L) Ql k ds ((d,v)::σ) M) (hd:dstAt ops i=some d:=by rfl) (hf:freeB ops L i=true:=by kernel_rfl):D J b cs n ops σ₀ L Ql k ds σ M:=D.p hok hd hf hq h
theorem Dl(i:Nat){v:Value}{d:Nat}(hok:drawOk ops=true)(hq:∀σr rest,Ag ops i σ σr→R J b cs n ops rest k ds ((d,v)::σr) M→R J b cs n ops (i::rest) k ds σr M)
  (h:D J b cs n ops σ₀ (i::L) (⟨i,σ,v⟩::Ql) k ds ((d,v)::σ) M) (hd:dstAt ops i=some d:=by rfl) (hf:freeB ops L i=true:=by kernel_rfl):D J b cs n ops σ₀ L Ql k ds σ M:=D.l hok hd hf hq h
theorem De(i:Nat)(dst:Option Nat)(bs:List Bool)(hok:drawOk ops=true)
  (h:Next1 J b cs n ops k ds i σ dst M fun v M'=>QFs J b cs n ops k ds M' (pickQ bs Ql)∧D J b cs n ops σ₀ (i::L) (pickQ bs Ql) k ds (putS dst v σ) M')
  (hd:dstAt ops i=dst:=by rfl) (hc:(onlyB ops L [i] && !allB ops L)=true:=by kernel_rfl) (hm:keepQ ((masks ops).getD i 0) Ql=pickQ bs Ql:=by kernel_rfl):D J b cs n ops σ₀ L Ql k ds σ M:=D.eP bs hok hd hc hm h
section
variable {P:Program}{main:Bool}{J:Goroutine→Mem→Prop}{b:Frame}(C:Ctx P main J b){cs:List Frame}{n:Nat}{ds:List Deferred}{σ₀ σ:Slots}{M:Mem}{k:List Item}{ops:Array Oper}{L:List Nat}{Ql:List Pn}{ty:TypeId}{pos:String}{af:Array Edge}{g:Option (Nat×Bool)}{d:Nat}{v:Value}
include C
theorem Xr{l:List Nat}{y:Code}(hok:dstsOk n ops.toList=true)(hl:List.range ops.size=l)(h:R J b cs n ops l (.code y::k) ds σ M):X J b cs n (.code (.seq (.region id ops false) y)::k) ds σ M:=X.seq C.1 (X.region C hok hl h)
theorem Ad(ho:ops[i]? =some ⟨some d, .assign x,ty,pos,af,g⟩)(hx:ev σ x=some v)(h:X J b cs n k ds ((d,v)::σ) M)(hg:wantedS ops σ ⟨some d, .assign x,ty,pos,af,g⟩=some true:=by rfl):R J b cs n ops [i] k ds σ M:=R.asg C ho hg hx (R.done C h)
theorem Rm(ho:ops[i]? =some ⟨some d, .move x,ty,pos,af,g⟩)(hx:ev σ x=some v)(h:R J b cs n ops rest k ds ((d,v)::σ) M)(hg:wantedS ops σ ⟨some d, .move x,ty,pos,af,g⟩=some true:=by rfl):R J b cs n ops (i::rest) k ds σ M:=R.mov C ho hg hx h
theorem Du(i:Nat){op:Op}(hok:drawOk ops=true)(ho:ops[i]? =some ⟨some d,op,ty,pos,af,g⟩)(h:D J b cs n ops σ₀ (i::L) Ql k ds ((d,undef)::σ) M)(hd:dstAt ops i=some d:=by rfl)(hf:freeB ops L i=true:=by kernel_rfl)(hg:wantedS ops σ ⟨some d,op,ty,pos,af,g⟩=some false:=by rfl):D J b cs n ops σ₀ L Ql k ds σ M:=D.p hok hd hf (fun _ _ _ A h=>R.pass C ho (A.w ho hg) h) h
theorem Xd(h:drawOk ops=true→D J b cs n ops σ [] [] k ds σ M)(h1:P.follows .mixedOrders=true:=by kernel_rfl)(h2:dstsOk n ops.toList=true:=by kernel_rfl)(h3:drawOk ops=true:=by kernel_rfl):X J b cs n (.code (.region id ops true)::k) ds σ M:=X.regionD C h1 h2 h3 h
theorem Rf(off':Nat)(ho:ops[i]? =some ⟨some d, .fieldAddr s x f,ty,pos,af,g⟩)(hx:ev σ x=some (.pointer (some ⟨bb,off,none⟩)))(hu:∀w,Sem.run P (Go.underlying s) w= .ok (.struct fields) w)(hf:fields[f]? =some fd)(hz:∀w,Sem.run P (Go.sizeOf fd.type) w= .ok (kk+1) w)
  (h:R J b cs n ops rest k ds ((d, .pointer (some ⟨bb,off',none⟩))::σ) M) (hg:wantedS ops σ ⟨some d, .fieldAddr s x f,ty,pos,af,g⟩=some true:=by rfl) (he:off+fd.offset=off':=by rfl):R J b cs n ops (i::rest) k ds σ M:=R.fieldAddr C ho hg hx hu hf hz he h
theorem Rx(ho:ops[i]? =some ⟨some d, .indexAddr t x y,ty,pos,af,g⟩)(hx:ev σ x=some (.slice (some ⟨bb,off,none⟩) len cap))(hy:ev σ y=some (.int ik z))(hu:∀w,Sem.run P (Go.underlying t) w= .ok (.slice e) w)(hz:∀w,Sem.run P (Go.sizeOf e) w= .ok kk w)
  (h:R J b cs n ops rest k ds ((d, .pointer (some ⟨bb,off+z.toNat*kk,none⟩))::σ) M) (h0:0≤z:=by omega) (h1:z<len:=by omega) (hg:wantedS ops σ ⟨some d, .indexAddr t x y,ty,pos,af,g⟩=some true:=by rfl):R J b cs n ops (i::rest) k ds σ M:=R.indexAddr C ho hg hx hy hu hz h0 h1 h
theorem Dx(i:Nat)(hok:drawOk ops=true)(ho:ops[i]? =some ⟨some d, .indexAddr t x y,ty,pos,af,g⟩)(hx:ev σ x=some (.slice (some ⟨bb,off,none⟩) len cap))(hy:ev σ y=some (.int ik z))(hu:∀w,Sem.run P (Go.underlying t) w= .ok (.slice e) w)(hz:∀w,Sem.run P (Go.sizeOf e) w= .ok kk w)
  (h:D J b cs n ops σ₀ (i::L) Ql k ds ((d, .pointer (some ⟨bb,off+z.toNat*kk,none⟩))::σ) M) (h0:0≤z:=by omega) (h1:z<len:=by omega) (hr:rd ops i x=true:=by rfl) (hr':rd ops i y=true:=by rfl) (hd:dstAt ops i=some d:=by rfl) (hf:freeB ops L i=true:=by kernel_rfl) (hg:wantedS ops σ ⟨some d, .indexAddr t x y,ty,pos,af,g⟩=some true:=by rfl):D J b cs n ops σ₀ L Ql k ds σ M:=
 D.p hok hd hf (fun _ _ _ A h=>R.indexAddr C ho (A.w ho hg) (A.x hr hx) (A.x hr' hy) hu hz h0 h1 h) h
theorem D1(i:Nat)(hok:drawOk ops=true)(ho:ops[i]? =some ⟨some d, .load tt x,ty,pos,af,g⟩)(hx:ev σ x=some (.pointer (some ⟨bb,off,none⟩)))(ht:∀w,Sem.run P (Go.isAgg tt) w= .ok false w)(hm:(bb,Obj.cells l.toArray t fq)∈own)(hv:l[off]? =some v)
  (h:D J b cs n ops σ₀ (i::L) (⟨i,σ,v⟩::Ql) k ds ((d,v)::σ) ⟨ro,own⟩) (hr:rd ops i x=true:=by rfl) (hd:dstAt ops i=some d:=by rfl) (hf:freeB ops L i=true:=by kernel_rfl) (hg:wantedS ops σ ⟨some d, .load tt x,ty,pos,af,g⟩=some true:=by rfl):D J b cs n ops σ₀ L Ql k ds σ ⟨ro,own⟩:=
 D.l hok hd hf (fun _ _ A h=>R.loadOne C ho (A.w ho hg) (A.x hr hx) ht hm hv h) h
theorem D5(i:Nat){nn:Nat}{out:List Value}(hok:drawOk ops=true)(ho:ops[i]? =some ⟨some d, .load tt x,ty,pos,af,g⟩)(hx:ev σ x=some (.pointer (some ⟨bb,off,none⟩)))(ht:∀w,Sem.run P (Go.isAgg tt) w= .ok true w)(hz:∀w,Sem.run P (Go.sizeOf tt) w= .ok nn w)(hm:(bb,Obj.cells l.toArray t fq)∈own)(hs:Sub off nn l out)
  (h:D J b cs n ops σ₀ (i::L) (⟨i,σ, .agg out.toArray⟩::Ql) k ds ((d, .agg out.toArray)::σ) ⟨ro,own⟩) (hr:rd ops i x=true:=by rfl) (hd:dstAt ops i=some d:=by rfl) (hf:freeB ops L i=true:=by kernel_rfl) (hg:wantedS ops σ ⟨some d, .load tt x,ty,pos,af,g⟩=some true:=by rfl):D J b cs n ops σ₀ L Ql k ds σ ⟨ro,own⟩:=
 D.l hok hd hf (fun _ _ A h=>R.loadAgg C ho (A.w ho hg) (A.x hr hx) ht hz hm hs h) h
theorem Dm(i:Nat)(hok:drawOk ops=true)(ho:ops[i]? =some ⟨some d, .move x,ty,pos,af,g⟩)(hr:rd ops i x=true)(hx:ev σ x=some v)
  (h:D J b cs n ops σ₀ (i::L) Ql k ds ((d,v)::σ) M) (hd:dstAt ops i=some d:=by rfl) (hf:freeB ops L i=true:=by kernel_rfl) (hg:wantedS ops σ ⟨some d, .move x,ty,pos,af,g⟩=some true:=by rfl):D J b cs n ops σ₀ L Ql k ds σ M:=D.p hok hd hf (fun _ _ _ A h=>R.mov C ho (A.w ho hg) (A.x hr hx) h) h
theorem Di(i:Nat){op:BinOp}{t':TypeId}{kk:IntKind}{p q:Int}(hok:drawOk ops=true)(ho:ops[i]? =some ⟨some d, .binOp op t x y t',ty,pos,af,g⟩)
  (hr:rd ops i x=true) (hx:ev σ x=some (.int kk p)) (hr':rd ops i y=true) (hy:ev σ y=some (.int kk q)) (hv:∀M K,K v M→Sm P M (binOp op t (.int kk p) (.int kk q)) K) (h:D J b cs n ops σ₀ (i::L) Ql k ds ((d,v)::σ) M) (hd:dstAt ops i=some d:=by rfl) (hf:freeB ops L i=true:=by kernel_rfl) (hg:wantedS ops σ ⟨some d, .binOp op t x y t',ty,pos,af,g⟩=some true:=by rfl):D J b cs n ops σ₀ L Ql k ds σ M:=
 D.p hok hd hf (fun _ _ _ A h=>R.int C ho (A.w ho hg) (A.x hr hx) (A.x hr' hy) hv h) h
theorem Df{off':Nat}(i:Nat)(hok:drawOk ops=true)(ho:ops[i]? =some ⟨some d, .fieldAddr s x f,ty,pos,af,g⟩)
  (hr:rd ops i x=true) (hx:ev σ x=some (.pointer (some ⟨bb,off,none⟩))) (hu:∀w,Sem.run P (Go.underlying s) w= .ok (.struct fields) w) (hfd:fields[f]? =some fd) (hz:∀w,Sem.run P (Go.sizeOf fd.type) w= .ok (kk+1) w) (he:off+fd.offset=off')
  (h:D J b cs n ops σ₀ (i::L) Ql k ds ((d, .pointer (some ⟨bb,off',none⟩))::σ) M) (hd:dstAt ops i=some d:=by rfl) (hf:freeB ops L i=true:=by kernel_rfl) (hg:wantedS ops σ ⟨some d, .fieldAddr s x f,ty,pos,af,g⟩=some true:=by rfl):D J b cs n ops σ₀ L Ql k ds σ M:=
 D.p hok hd hf (fun _ _ _ A h=>R.fieldAddr C ho (A.w ho hg) (A.x hr hx) hu hfd hz he h) h
end
end
end Go.Lg
namespace Go.Lg
open Go Go.Conc
variable {Post:Value→RO→Prop}{w:Value}
section
variable {P:Program}{main:Bool}{J:Goroutine→Mem→Prop}{ro:RO}{f:FuncId}{vs cap:List Value}
theorem Closed.drop(hJ:Closed P main J){g:Goroutine}{own own':List (Nat×Obj)}(hs:own'.Sublist own)(h:J g ⟨ro,own'⟩):J g ⟨ro,own⟩:=hJ.ghost _ _ fun w hw=>⟨_,Weak.sub hs w hw,h⟩
def Back(J:Goroutine→Mem→Prop)(c:Frame)(cs:List Frame)(ro:RO)(tail:List (Nat×Obj))(Post:Value→RO→Prop):Prop:=
 ∀v ro' own,ro.le ro'→tail.Sublist own→Post v ro'→J (G (c.finish v) cs) ⟨ro',own⟩
theorem CallR.intro(hJ:Closed P main J)(hc:callableB P f=true)(h:∀c cs tail,Back J c cs ro tail Post→J (G (Frame.enter P f vs.toArray .normal) (c::cs)) ⟨ro,tail⟩):CallR P J (fnv f) vs ro Post:=by
 intro c cs tail hret
 refine⟨hc, ?_⟩
 have e:(#[]:Array Value).toList++vs++(#[]:Array Value).toList=vs:=by simp
 rw [e]
 exact h c cs tail fun v ro' own hl hs hp=>hJ.drop hs (hret v ro' [] hl ⟨hp,rfl⟩)
theorem CallR.introC(hJ:Closed P main J)(hc:callableB P f=true)(h:∀c cs tail,Back J c cs ro tail Post→J (G (Frame.enter P f (vs++cap).toArray .normal) (c::cs)) ⟨ro,tail⟩):CallR P J (.func (.func f) #[] cap.toArray) vs ro Post:=by
 intro c cs tail hret
 refine⟨hc, ?_⟩
 have e:(#[]:Array Value).toList++vs++cap.toArray.toList=vs++cap:=by simp
 rw [e]
 exact h c cs tail fun v ro' own hl hs hp=>hJ.drop hs (hret v ro' [] hl ⟨hp,rfl⟩)
def BackP(J:Goroutine→Mem→Prop)(c:Frame)(cs:List Frame)(ro:RO)(tail:List (Nat×Obj))(w:Value):Prop:=
 ∀v own,v=w→tail.Sublist own→J (G (c.finish v) cs) ⟨ro,own⟩
theorem CallP.intro(hJ:Closed P main J)(hc:callableB P f=true)(h:∀c cs tail,BackP J c cs ro tail w→J (G (Frame.enter P f vs.toArray .normal) (c::cs)) ⟨ro,tail⟩):CallP P J (fnv f) vs ro w:=by
 intro c cs tail hret
 refine⟨hc, ?_⟩
 have e:(#[]:Array Value).toList++vs++(#[]:Array Value).toList=vs:=by simp
 rw [e]
 exact h c cs tail fun v own hv hs=>hJ.drop hs (hret v ro [] (RO.le_refl _) ⟨hv,rfl,rfl⟩)
theorem CallP.introC(hJ:Closed P main J)(hc:callableB P f=true)(h:∀c cs tail,BackP J c cs ro tail w→J (G (Frame.enter P f (vs++cap).toArray .normal) (c::cs)) ⟨ro,tail⟩):CallP P J (.func (.func f) #[] cap.toArray) vs ro w:=by
 intro c cs tail hret
 refine⟨hc, ?_⟩
 have e:(#[]:Array Value).toList++vs++cap.toArray.toList=vs++cap:=by simp
 rw [e]
 exact h c cs tail fun v own hv hs=>hJ.drop hs (hret v ro [] (RO.le_refl _) ⟨hv,rfl,rfl⟩)
end
end Go.Lg
namespace Go.Lg
open Go Go.Conc
variable {P:Program}{main:Bool}{J:Goroutine→Mem→Prop}{b c:Frame}{cs:List Frame}{n:Nat}{σ:Slots}{k:List Item}{ro:RO}{own tail:List (Nat×Obj)}{v:Value}
theorem Xk(C:Ctx P main J b){ds:List Deferred}{M:Mem}{x:Operand}{c c2:Code}{p:Prop} [Decidable p] (hx:ev σ x=some (.bool (decide p)))(h1:p→X J b cs n (.code c::k) ds σ M)(h0:¬p→X J b cs n (.code c2::k) ds σ M):X J b cs n (.code (.cond x c c2)::k) ds σ M:=X.cond C.1 hx (fun h=>h1 (of_decide_eq_true h)) (fun h=>h0 (of_decide_eq_false h))
theorem Hr{Post:Value→RO→Prop}(hret:Back J c cs ro tail Post){ro':RO}(hl:ro.le ro')(hp:Post v ro')(hs:tail.Sublist own:=by repeat (first|exact Sr|apply Sc)):J (G (c.finish v) cs) ⟨ro',own⟩:=hret v ro' own hl hs hp
theorem Hp{w:Value}(hret:BackP J c cs ro tail w)(hp:v=w)(hs:tail.Sublist own:=by repeat (first|exact Sr|apply Sc)):J (G (c.finish v) cs) ⟨ro,own⟩:=hret v own hp hs
theorem Xt(C:Ctx P main J b){fn:Func}{t:Nat}(hf:P.funcs[b.fn]? =some fn)(h:J (G (c.finish (retVal [v])) cs) ⟨ro,own⟩)(hro:b.roundOf=none:=by rfl)(hkind:b.kind= .normal:=by rfl)(hrs:fn.results= [ResultVar.tmp t].toArray:=by rfl)(hr:Res P σ own [ResultVar.tmp t] [v]:=by exact(.tmp rfl .nil)):X J b (c::cs) n (.code .ret::k) [] σ ⟨ro,own⟩:=X.ret C hro hkind hf hrs hr h
end Go.Lg
namespace Go.Lg
open Go Go.Conc
variable {cap len:Nat}{e:TypeId}
section
variable {P:Program}{main:Bool}{J:Goroutine→Mem→Prop}{b:Frame}(C:Ctx P main J b){cs:List Frame}{n:Nat}{ds:List Deferred}{σ₀ σ:Slots}{M:Mem}{ro:RO}{own:List (Nat×Obj)}{k:List Item}{ops:Array Oper}{L:List Nat}{Ql:List Pn}{ty:TypeId}{pos:String}{af:Array Edge}{g:Option (Nat×Bool)}{d i:Nat}{rest:List Nat}{v:Value}{t tt:TypeId}{x y:Operand}{bb off nn:Nat}{fq:Nat×Nat}{l out:List Value}
include C
theorem Rl(ho:ops[i]? =some ⟨some d, .load tt x,ty,pos,af,g⟩)(hx:ev σ x=some (.pointer (some ⟨bb,off,none⟩)))(ht:∀w,Sem.run P (Go.isAgg tt) w= .ok false w)(hm:(bb,Obj.cells l.toArray t fq)∈own)(hv:l[off]? =some v)(h:R J b cs n ops rest k ds ((d,v)::σ) ⟨ro,own⟩)(hg:wantedS ops σ ⟨some d, .load tt x,ty,pos,af,g⟩=some true:=by rfl):R J b cs n ops (i::rest) k ds σ ⟨ro,own⟩:=R.loadOne C ho hg hx ht hm hv h
theorem R5(ho:ops[i]? =some ⟨some d, .load tt x,ty,pos,af,g⟩)(hx:ev σ x=some (.pointer (some ⟨bb,off,none⟩)))(ht:∀w,Sem.run P (Go.isAgg tt) w= .ok true w)(hz:∀w,Sem.run P (Go.sizeOf tt) w= .ok nn w)(hm:(bb,Obj.cells l.toArray t fq)∈own)(hs:Sub off nn l out)(h:R J b cs n ops rest k ds ((d, .agg out.toArray)::σ) ⟨ro,own⟩)(hg:wantedS ops σ ⟨some d, .load tt x,ty,pos,af,g⟩=some true:=by rfl):R J b cs n ops (i::rest) k ds σ ⟨ro,own⟩:=R.loadAgg C ho hg hx ht hz hm hs h
theorem Ra{t t':TypeId}{p q:Int}(ho:ops[i]? =some ⟨some d, .binOp .add t x y t',ty,pos,af,g⟩)(hx:ev σ x=some (.int .i64 p))(hy:ev σ y=some (.int .i64 q))(h:R J b cs n ops rest k ds ((d, .int .i64 (p+q))::σ) M)(hg:wantedS ops σ ⟨some d, .binOp .add t x y t',ty,pos,af,g⟩=some true:=by rfl)(h1: -9223372036854775808≤p+q:=by omega)(h2:p+q≤9223372036854775807:=by omega):R J b cs n ops (i::rest) k ds σ M:=R.int C ho hg hx hy (b_add h1 h2) h
theorem Rn{bb:Option Addr}(ho:ops[i]? =some ⟨some d, .call ⟨.builtin .len, #[x], #[t]⟩,ty,pos,af,g⟩)(hx:ev σ x=some (.slice bb len cap))(hu:∀w,Sem.run P (Go.underlying t) w= .ok (.slice e) w)(h:R J b cs n ops rest k ds ((d, .int .i64 (len:Int))::σ) M)(hg:wantedS ops σ ⟨some d, .call ⟨.builtin .len, #[x], #[t]⟩,ty,pos,af,g⟩=some true:=by rfl):R J b cs n ops (i::rest) k ds σ M:=R.lenSlice C ho hg hx hu h
theorem D2(i:Nat)(hok:drawOk ops=true)(ho:ops[i]? =some ⟨some d, .load tt x,ty,pos,af,g⟩)(hx:ev σ x=some (.pointer (some ⟨bb,off,none⟩)))(ht:∀w,Sem.run P (Go.isAgg tt) w= .ok false w)(hm:ro bb=some (Obj.cells l.toArray t fq))(hv:l[off]? =some v)
  (h:D J b cs n ops σ₀ (i::L) (⟨i,σ,v⟩::Ql) k ds ((d,v)::σ) ⟨ro,own⟩) (hr:rd ops i x=true:=by rfl) (hd:dstAt ops i=some d:=by rfl) (hf:freeB ops L i=true:=by kernel_rfl) (hg:wantedS ops σ ⟨some d, .load tt x,ty,pos,af,g⟩=some true:=by rfl):D J b cs n ops σ₀ L Ql k ds σ ⟨ro,own⟩:=
 D.l hok hd hf (fun _ _ A h=>R.loadOneRo C ho (A.w ho hg) (A.x hr hx) ht hm hv h) h
theorem Da(i:Nat)(hok:drawOk ops=true)(ho:ops[i]? =some ⟨some d, .assign x,ty,pos,af,g⟩)(hx:ev σ x=some v)(h:D J b cs n ops σ₀ (i::L) Ql k ds ((d,v)::σ) M)(hr:rd ops i x=true:=by rfl)(hd:dstAt ops i=some d:=by rfl)(hf:freeB ops L i=true:=by kernel_rfl)(hg:wantedS ops σ ⟨some d, .assign x,ty,pos,af,g⟩=some true:=by rfl):D J b cs n ops σ₀ L Ql k ds σ M:=
 D.p hok hd hf (fun _ _ _ A h=>R.asg C ho (A.w ho hg) (A.x hr hx) h) h
theorem Ds(i:Nat){bb:Option Addr}(hok:drawOk ops=true)(ho:ops[i]? =some ⟨some d, .call ⟨.builtin .len, #[x], #[t]⟩,ty,pos,af,g⟩)(hx:ev σ x=some (.slice bb len cap))(hu:∀w,Sem.run P (Go.underlying t) w= .ok (.slice e) w)(h:D J b cs n ops σ₀ (i::L) Ql k ds ((d, .int .i64 (len:Int))::σ) M)(hr:rd ops i x=true:=by rfl)(hd:dstAt ops i=some d:=by rfl)(hf:freeB ops L i=true:=by kernel_rfl)(hg:wantedS ops σ ⟨some d, .call ⟨.builtin .len, #[x], #[t]⟩,ty,pos,af,g⟩=some true:=by rfl):D J b cs n ops σ₀ L Ql k ds σ M:=
 D.p hok hd hf (fun _ _ _ A h=>R.lenSlice C ho (A.w ho hg) (A.x hr hx) hu h) h
end
end Go.Lg
namespace Go.Lg
open Go Go.Conc
variable {a:List Int}{d len m off:Nat}{M:Mem}{e t t':TypeId}{g:Bool}{x y:Operand}
def Eq1(P:Program)(d:Nat)(t:TypeId)(a b:Value)(r:Bool):Prop:= ∀ (M:Mem) (K:Bool→Mem→Prop),K r M→Sm P M (Op.equalIn d t a b) K
def ints(l:List Int):List Value:=l.map (Value.int .i64)
def iv:Bool→List Int→Value
 |true,a=> .agg (ints a).toArray
 |false, [x]=> .int .i64 x
 |false,_=>undef
def IntT(P:Program)(d:Nat)(t:TypeId)(n:Nat)(g:Bool):Prop:= ∀ (a b:List Int),a.length=n→b.length=n→Eq1 P d t (iv g a) (iv g b) (decide (a=b))
inductive IntFs(P:Program)(d:Nat):List Field→Nat→Nat→Prop
 |nil {off:Nat}:IntFs P d [] off off
 |cons {off m n:Nat} {f:Field} {fs:List Field} {g:Bool}:f.name≠ "_" →f.offset=off→(∀w,Sem.run P (Go.sizeOf f.type) w= .ok m w)→(∀w,Sem.run P (Go.isAgg f.type) w= .ok g w)→(g=false→m=1)→IntT P d f.type m g→IntFs P d fs (off+m) n→IntFs P d (f::fs) off n
theorem sub_ints{n:Nat}(h:off+n≤a.length):Sub off n (ints a) (ints ((a.drop off).take n)):=by
 have:=Sub.of (l:=ints a) (off:=off) (n:=n) (by simpa [ints] using h)
 simpa [ints,List.map_drop,List.map_take] using this
theorem Sm.partIv{P:Program}{n:Nat}{K:Value→Mem→Prop}(ha:∀w,Sem.run P (Go.isAgg t) w= .ok g w)(hz:∀w,Sem.run P (Go.sizeOf t) w= .ok n w)(h:off+n≤a.length)(h1:g=false→n=1)(hk:K (iv g ((a.drop off).take n)) M):
  Sm P M (part t (ints a).toArray off) K:=by
 cases g with
 |true=>exact Sm.partAgg ha hz (sub_ints h) hk
 |false=>
  obtain rfl:=h1 rfl
  have hlt:off<a.length:=O
  refine Sm.partOne (v:= .int .i64 a[off]) ha (by simp [ints,hlt]) ?_
  have e:(a.drop off).take 1= [a[off]]:=by
   rw [List.drop_eq_getElem_cons hlt];rfl
  rw [e] at hk;exact hk
theorem Sm.forIn_cons{P:Program}{α σ:Type}{x:α}{l:List α}{s:σ}{body:α→σ→Sem (ForInStep σ)}{K:σ→Mem→Prop}(h:Sm P M (body x s) fun r M'=>match r with| .done s'=>K s' M'| .yield s'=>Sm P M' (forIn l s' body) K):Sm P M (forIn (x::l) s body) K:=by
 rw [List.forIn_cons]
 refine Sm.bind (h.mono fun r M' hr=>?_)
 cases r with
 |done s'=>exact Sm.pure hr
 |yield s'=>exact hr
theorem Sm.forEq{P:Program}{α:Type}{body:α→Option Bool×Unit→Sem (ForInStep (Option Bool×Unit))}(rs:α→Bool):∀ (l:List α),(∀x∈l,∀s M (K:ForInStep (Option Bool×Unit)→Mem→Prop),K (if rs x then .yield (none,()) else .done (some false,())) M→Sm P M (body x s) K)→
  ∀M (K:Option Bool×Unit→Mem→Prop),K (if l.all rs then(none,()) else(some false,())) M→Sm P M (forIn l (none,()) body) K
 | [],_,M,K,hk=>by rw [List.forIn_nil];exact Sm.pure hk
 |x::l,hb,M,K,hk=>by
  refine Sm.forIn_cons (hb x List.mem_cons_self _ _ _ ?_)
  cases hr:rs x with
  |false=>simp only [Bool.false_eq_true,if_false];simpa [hr] using hk
  |true=>simp only [if_true];exact Sm.forEq rs l (fun y hy=>hb y (List.mem_cons_of_mem _ hy)) M K (by simpa [hr] using hk)
theorem IntFs.le{P:Program}{d:Nat}:∀ {fs:List Field} {off n:Nat},IntFs P d fs off n→off≤n
 |_,_,_, .nil=>Nat.le_refl _
 |_,_,_, .cons _ _ _ _ _ _ h=>by have:=IntFs.le h;omega
theorem drop_eq_iff{b:List Int}(ha:off+m≤a.length)(hb:off+m≤b.length):a.drop off=b.drop off↔(a.drop off).take m=(b.drop off).take m∧a.drop (off+m)=b.drop (off+m):=by
 have ea:a.drop off=(a.drop off).take m++a.drop (off+m):=by rw [←List.drop_drop,List.take_append_drop]
 have eb:b.drop off=(b.drop off).take m++b.drop (off+m):=by rw [←List.drop_drop,List.take_append_drop]
 constructor
 ·intro h;rw [←List.drop_drop, ←List.drop_drop,h];exact⟨rfl,rfl⟩
 ·rintro⟨h1,h2⟩;rw [ea,eb,h1,h2]
theorem cellsOf_size{P:Program}(h:∀w,Sem.run P (Go.sizeOf t) w= .ok m w):P.cellsOf t=m:=sizeOf_cells h
theorem IntFs.all{P:Program}{d:Nat}{a b:List Int}:∀ {fs:List Field} {off n:Nat},IntFs P d fs off n→a.length=n→b.length=n→(fs.all fun f=>decide ((a.drop f.offset).take (P.cellsOf f.type)=(b.drop f.offset).take (P.cellsOf f.type)))=decide (a.drop off=b.drop off)
 |_,off,_, .nil,ha,hb=>by
  have e1:a.drop off= []:=List.drop_eq_nil_of_le O
  have e2:b.drop off= []:=List.drop_eq_nil_of_le O
  simp [e1,e2]
 |_,off,_, .cons (m:=m) _ ho hz _ _ _ h,ha,hb=>by
  have hle:=h.le
  rw [List.all_cons,IntFs.all h ha hb,ho,cellsOf_size hz]
  have:=drop_eq_iff (a:=a) (b:=b) (off:=off) (m:=m) O O
  rw [←Bool.decide_and,decide_eq_decide]
  exact this.symm
theorem range_all{a b:List Int}{m:Nat}:∀ (k i len:Nat),i+k=len→a.length=len*m→b.length=len*m→((List.range' i k 1).all fun i=>decide ((a.drop (i*m)).take m=(b.drop (i*m)).take m))=decide (a.drop (i*m)=b.drop (i*m))
 |0,i,len,hi,ha,hb=>by
  obtain rfl:i=len:=by omega
  have e1:a.drop (i*m)= []:=List.drop_eq_nil_of_le O
  have e2:b.drop (i*m)= []:=List.drop_eq_nil_of_le O
  simp [e1,e2]
 |k+1,i,len,hi,ha,hb=>by
  have hle:i*m+m≤len*m:=by
   have:(i+1)*m≤len*m:=Nat.mul_le_mul_right m O
   rw [Nat.add_mul] at this;omega
  rw [List.range'_succ,List.all_cons,range_all k (i+1) len O ha hb]
  have:=drop_eq_iff (a:=a) (b:=b) (off:=i*m) (m:=m) O O
  rw [←Bool.decide_and,decide_eq_decide,Nat.add_mul,Nat.one_mul]
  exact this.symm
theorem IntFs.one{P:Program}{d:Nat}{a b:List Int}:∀ {fs:List Field} {off n:Nat},IntFs P d fs off n→a.length=n→b.length=n→∀f∈fs,∀ (M:Mem) (K:ForInStep (Option Bool×Unit)→Mem→Prop),K (if decide ((a.drop f.offset).take (P.cellsOf f.type)=(b.drop f.offset).take (P.cellsOf f.type)) then .yield (none,()) else .done (some false,())) M→
  Sm P M (if f.name≠ "_" then do
   let x←part f.type (ints a).toArray f.offset
   let y←part f.type (ints b).toArray f.offset
   let r←Op.equalIn d f.type x y
   if(!r)=true then pure (ForInStep.done (some false,())) else pure (ForInStep.yield (none,()))
   else pure (ForInStep.yield (none,()))) K
 |_,off,_, .cons (m:=m) (g:=g) hn ho hz hag h1 he h,ha,hb,f,hm,M,K,hk=>by
  have hle:=h.le
  rcases List.mem_cons.1 hm with e|e
  ·subst e
   rw [if_pos hn]
   rw [cellsOf_size hz,ho] at hk
   rw [ho]
   refine Sm.bind (Sm.partIv hag hz O h1 (Sm.bind (Sm.partIv hag hz O h1 (Sm.bind (he _ _ Zo Zo _ _ ?_)))))
   by_cases h:(a.drop off).take m=(b.drop off).take m
   ·rw [if_pos (by simpa using h)] at hk;rw [if_neg (by simpa using h)];exact Sm.pure hk
   ·rw [if_neg (by simpa using h)] at hk;rw [if_pos (by simpa using h)];exact Sm.pure hk
  ·exact IntFs.one h ha hb f e M K hk
theorem IntT.int{P:Program}(hu:∀w,Sem.run P (Go.underlying t) w= .ok (.int .i64) w):IntT P (d+1) t 1 false:=fun a b ha hb=>by
 obtain⟨x,rfl⟩:=List.length_eq_one_iff.1 ha
 obtain⟨y,rfl⟩:=List.length_eq_one_iff.1 hb
 intro M K hk
 show Sm P M (Op.equalIn _ _ (.int .i64 x) (.int .i64 y)) K
 unfold Op.equalIn
 refine Sm.bind (Sm.underlying hu ?_)
 simp only [if_true]
 have e:(x==y)=decide ([x]= [y]):=by by_cases h:x=y<;>simp [h]
 rw [e];exact Sm.pure hk
theorem IntT.struct{P:Program}{n:Nat}{fields:Array Field}(hu:∀w,Sem.run P (Go.underlying t) w= .ok (.struct fields) w)(hp:P.stoodInHeld t=false)(hf:IntFs P d fields.toList 0 n):IntT P (d+1) t n true:=fun a b ha hb=>by
 intro M K hk
 show Sm P M (Op.equalIn _ _ (.agg (ints a).toArray) (.agg (ints b).toArray)) K
 unfold Op.equalIn
 refine Sm.bind (Sm.underlying hu ?_)
 simp only
 refine Sm.bind (Sm.program ?_)
 simp only [hp,Bool.false_eq_true,if_false]
 rw [←Array.forIn_toList]
 refine Sm.bind (Sm.forEq (fun f:Field=>decide ((a.drop f.offset).take (P.cellsOf f.type)=(b.drop f.offset).take (P.cellsOf f.type))) _ (fun f hm s M K hk=>IntFs.one hf ha hb f hm M _ hk) _ _ ?_)
 rw [IntFs.all hf ha hb,List.drop_zero,List.drop_zero]
 by_cases h:a=b
 ·rw [if_pos (by simpa using h)];exact Sm.pure (by simpa [h] using hk)
 ·rw [if_neg (by simpa using h)];exact Sm.pure (by simpa [h] using hk)
theorem IntT.array{P:Program}(hu:∀w,Sem.run P (Go.underlying t) w= .ok (.array len e) w)(hz:∀w,Sem.run P (Go.sizeOf e) w= .ok m w)(hag:∀w,Sem.run P (Go.isAgg e) w= .ok g w)(h1:g=false→m=1)(he:IntT P d e m g):IntT P (d+1) t (len*m) true:=fun a b ha hb=>by
 intro M K hk
 show Sm P M (Op.equalIn _ _ (.agg (ints a).toArray) (.agg (ints b).toArray)) K
 unfold Op.equalIn
 refine Sm.bind (Sm.underlying hu ?_)
 simp only
 refine Sm.bind (Sm.sizeOf hz ?_)
 simp only [Std.Legacy.Range.forIn_eq_forIn_range',Std.Legacy.Range.size,Nat.sub_zero,Nat.add_sub_cancel,Nat.div_one]
 refine Sm.bind (Sm.forEq (fun i=>decide ((a.drop (i*m)).take m=(b.drop (i*m)).take m)) _ (fun i hm s M K hk=>?_) _ _ ?_)
 ·have hi:i<len:=by
   obtain⟨j,hj,rfl⟩:=List.mem_range'.1 hm;omega
  have hle:i*m+m≤len*m:=by
   have:(i+1)*m≤len*m:=Nat.mul_le_mul_right m O
   rw [Nat.add_mul] at this;omega
  refine Sm.bind (Sm.partIv hag hz O h1 (Sm.bind (Sm.partIv hag hz O h1 (Sm.bind (he _ _ Zo Zo _ _ ?_)))))
  by_cases h:(a.drop (i*m)).take m=(b.drop (i*m)).take m
  ·rw [if_pos (by simpa using h)] at hk;rw [if_neg (by simpa using h)];exact Sm.pure hk
  ·rw [if_neg (by simpa using h)] at hk;rw [if_pos (by simpa using h)];exact Sm.pure hk
 ·rw [range_all len 0 len O ha hb,Nat.zero_mul,List.drop_zero,List.drop_zero]
  by_cases h:a=b
  ·rw [if_pos (by simpa using h)];exact Sm.pure (by simpa [h] using hk)
  ·rw [if_neg (by simpa using h)];exact Sm.pure (by simpa [h] using hk)
section
variable {P:Program}{main:Bool}{J:Goroutine→Mem→Prop}{b:Frame}(C:Ctx P main J b){cs:List Frame}{n:Nat}{ds:List Deferred}{σ:Slots}{ro:RO}{own:List (Nat×Obj)}{k:List Item}{ops:Array Oper}{i:Nat}{rest:List Nat}
 {d:Nat} {dst:Option Nat} {ty:TypeId} {pos:String} {af:Array Edge} {g:Option (Nat×Bool)}
include C
theorem R.eqAgg{p q:List Int}(ho:ops[i]? =some ⟨some d, .binOp .eql t x y t',ty,pos,af,g⟩)(hg:wantedS ops σ ⟨some d, .binOp .eql t x y t',ty,pos,af,g⟩=some true)
  (hx:ev σ x=some (.agg (ints p).toArray)) (hy:ev σ y=some (.agg (ints q).toArray)) (ht:IntT P 10000 t m true) (hp:p.length=m) (hq:q.length=m) (hd:P.eqGuardType P.depth t=false)
  (h:R J b cs n ops rest k ds ((d, .bool (decide (p=q)))::σ) M):R J b cs n ops (i::rest) k ds σ M:=
 R.v C ho hg rfl (fun a ha K hk=>by
  unfold execOp
  simp only [ha.ev hx,ha.ev hy]
  refine ex_v (Sm.bind ?_)
  unfold eqGuard
  refine Sm.bind (Sm.program (Sm.bind (Sm.program ?_)))
  rw [hd]
  refine Sm.pure ?_
  show Sm P M (binOp .eql t (.agg (ints p).toArray) (.agg (ints q).toArray)) _
  unfold binOp
  simp only
  exact Sm.bind (ht p q hp hq _ _ (Sm.pure hk))) h
theorem R.eqNil{bs:Option Addr}{cap:Nat}(ho:ops[i]? =some ⟨some d, .binOp .eql t x y t',ty,pos,af,g⟩)(hg:wantedS ops σ ⟨some d, .binOp .eql t x y t',ty,pos,af,g⟩=some true)
  (hx:ev σ x=some (.slice bs len cap)) (hy:ev σ y=some (.slice none 0 0)) (hu:∀w,Sem.run P (Go.underlying t) w= .ok (.slice e) w)
  (h:R J b cs n ops rest k ds ((d, .bool bs.isNone)::σ) M):R J b cs n ops (i::rest) k ds σ M:=
 R.v C ho hg rfl (fun a ha K hk=>by
  unfold execOp
  simp only [ha.ev hx,ha.ev hy]
  refine ex_v (Sm.bind ?_)
  unfold eqGuard
  refine Sm.pure ?_
  show Sm P M (binOp .eql t (.slice bs len cap) (.slice none 0 0)) _
  unfold binOp
  simp only
  refine Sm.bind ?_
  unfold Op.equal Op.equalIn
  refine Sm.bind (Sm.underlying hu ?_)
  cases bs<;>exact Sm.pure (Sm.pure hk)) h
end
end Go.Lg
namespace Go.Lg
open Go Go.Conc
variable {M:Mem}{fields:Array Field}{v:Value}{l l':List Value}{bb cap d kk len m off r:Nat}{e et kt t:TypeId}{keys:List (List Int)}{x y:Operand}{ik:IntKind}{z:Int}{key:List Int}{own':List (Nat×Obj)}{bs:Option Addr}
theorem Sm.sliceBound{P:Program}{kk:IntKind}{i:Int}{y:Nat}{c:BoundsCode}{K:Nat→Mem→Prop}(h0:0≤i)(h1:i≤y)(hk:K i.toNat M):Sm P M (Instr.sliceBound (.int kk i) y c) K:=by
 unfold Instr.sliceBound asIntOf
 refine Sm.bind (Sm.pure ?_)
 simp only [h0,h1,and_self,if_true]
 exact Sm.pure hk
theorem Fills.part{P:Program}{i k:Nat}{rest:List (Nat×Value)}{l'' vs:List Value}{fd:Field}(hf:fields[i]? =some fd)(hv:v.cells=vs.toArray)(hs:∀w,Sem.run P (Go.sizeOf fd.type) w= .ok k w)(hn:vs.length=k)(hp:Put fd.offset vs l l')(h:Fills P fields rest l' l''):Fills P fields ((i,v)::rest) l l'':=by
 subst hn;exact .cons hf hs hv hp h
def setObj_(keys:List (List Int)):Obj:= .map ((keys.zipIdx).map fun(x:List Int×Nat)=>({key:= .agg (ints x.1).toArray,val:= .bool true,born:=x.2}:MapEntry)).toArray keys.length
theorem Sm.forU{P:Program}{α:Type}{body:α→Unit→Sem (ForInStep Unit)}:∀ (l:List α),(∀x∈l,∀s M (K:ForInStep Unit→Mem→Prop),K (.yield ()) M→Sm P M (body x s) K)→∀M (K:Unit→Mem→Prop),K () M→Sm P M (forIn l () body) K
 | [],_,M,K,hk=>by rw [List.forIn_nil];exact Sm.pure hk
 |x::l,hb,M,K,hk=>Sm.forIn_cons (hb x List.mem_cons_self _ _ _ (Sm.forU l (fun y hy=>hb y (List.mem_cons_of_mem _ hy)) M K hk))
def CheckT(P:Program)(d:Nat)(t:TypeId)(n:Nat)(g:Bool):Prop:= ∀ (a:List Int),a.length=n→∀e (M:Mem) (K:Unit→Mem→Prop),K () M→Sm P M (Instr.checkKey e d t (iv g a)) K
theorem CheckT.int{P:Program}(hu:∀w,Sem.run P (Go.underlying t) w= .ok (.int .i64) w):CheckT P (d+1) t 1 false:=fun a ha e M K hk=>by
 obtain⟨x,rfl⟩:=List.length_eq_one_iff.1 ha
 show Sm P M (Instr.checkKey e _ _ (.int .i64 x)) K
 unfold Instr.checkKey
 exact Sm.bind (Sm.underlying hu (Sm.pure hk))
theorem CheckT.struct{P:Program}{n:Nat}(hu:∀w,Sem.run P (Go.underlying t) w= .ok (.struct fields) w)(hf:∀f∈fields.toList,(∀w,Sem.run P (Go.isAgg f.type) w= .ok false w)∧(∀w,Sem.run P (Go.sizeOf f.type) w= .ok 1 w)∧CheckT P d f.type 1 false∧f.offset<n):CheckT P (d+1) t n true:=fun a ha e M K hk=>by
 show Sm P M (Instr.checkKey e _ _ (.agg (ints a).toArray)) K
 unfold Instr.checkKey
 refine Sm.bind (Sm.underlying hu ?_)
 simp only
 rw [←Array.forIn_toList]
 refine Sm.bind (Sm.forU _ (fun f hm s M K hk=>?_) _ _ (Sm.pure hk))
 obtain⟨h1,h2,h3,h4⟩:=hf f hm
 refine Sm.ite (fun _=>?_) (fun _=>Sm.pure hk)
 exact Sm.bind (Sm.partIv h1 h2 O (fun _=>rfl) (Sm.bind (h3 _ Zo _ _ _ (Sm.pure hk))))
theorem Sm.findKey_set{P:Program}{t n:Nat}{k:List Int}{K:Option (Nat×Value)→Mem→Prop}(hu:∀w,Sem.run P (Go.underlying t) w= .ok (.struct fields) w)(hq:IntT P 10000 t n true)(hk:k.length=n)(hks:∀x∈keys,x.length=n)
  (h1:k∈keys→∀i,K (some (i, .bool true)) M) (h2:k∉keys→K none M):Sm P M (Instr.findKey t (.agg (ints k).toArray) (((keys.zipIdx).map fun(x:List Int×Nat)=>({key:= .agg (ints x.1).toArray,val:= .bool true,born:=x.2}:MapEntry)).toArray.toList)) K:=by
 unfold Instr.findKey
 refine Sm.bind (Sm.underlying hu ?_)
 rw [List.toList_toArray]
 have ask:∀ (l:List (List Int)) (j i:Nat),(∀x∈l,x.length=n)→(k∈l→∀i,K (some (i, .bool true)) M)→(k∉l→K none M)→Sm P M (Instr.findAsking t (.agg (ints k).toArray) ((l.zipIdx j).map fun(x:List Int×Nat)=>({key:= .agg (ints x.1).toArray,val:= .bool true,born:=x.2}:MapEntry)) i) K:=by
  intro l
  induction l with
  |nil=>intro j i _ _ h2;exact Sm.pure (h2 Zi)
  |cons x l ih=>
   intro j i hl h1 h2
   simp only [List.zipIdx_cons,List.map_cons,Instr.findAsking]
   unfold Op.equal
   refine Sm.bind (hq k x hk (hl x List.mem_cons_self) _ _ ?_)
   by_cases e:k=x
   ·rw [if_pos (by simpa using e)];exact Sm.pure (h1 (by simp [e]) _)
   ·rw [if_neg (by simpa using e)]
    exact ih (j+1) (i+1) (fun y hy=>hl y (List.mem_cons_of_mem _ hy)) (fun h=>h1 (List.mem_cons_of_mem _ h)) (fun h=>h2 (by simp [e,h]))
 cases keys with
 |nil=>exact Sm.pure (h2 Zi)
 |cons x l=>exact ask (x::l) 0 0 hks h1 h2
section
variable {P:Program}{main:Bool}{J:Goroutine→Mem→Prop}{b:Frame}(C:Ctx P main J b){cs:List Frame}{n:Nat}{ds:List Deferred}{σ:Slots}{ro:RO}{own:List (Nat×Obj)}{k:List Item}{ops:Array Oper}{i:Nat}{rest:List Nat}
 {d:Nat} {dst:Option Nat} {ty:TypeId} {pos:String} {af:Array Edge} {g:Option (Nat×Bool)}
include C
theorem R.index(ho:ops[i]? =some ⟨some d, .index t x y,ty,pos,af,g⟩)(hg:wantedS ops σ ⟨some d, .index t x y,ty,pos,af,g⟩=some true)(hx:ev σ x=some (.agg l.toArray))
  (hy:ev σ y=some (.int ik z)) (hu:∀w,Sem.run P (Go.underlying t) w= .ok (.array len e) w) (ha:∀w,Sem.run P (Go.isAgg e) w= .ok false w) (hz:∀w,Sem.run P (Go.sizeOf e) w= .ok kk w) (h0:0≤z) (h1:z<len) (hv:l[z.toNat*kk]? =some v)
  (h:R J b cs n ops rest k ds ((d,v)::σ) M):R J b cs n ops (i::rest) k ds σ M:=
 R.v C ho hg rfl (fun _ hh _ hk=>by unfold execOp;simp only [hh.ev hx,hh.ev hy];exact ex_v (Sm.index_array_one hu ha hz h0 h1 hv hk)) h
theorem R.makeMap(ho:ops[i]? =some ⟨some d, .makeMap t none,ty,pos,af,g⟩)(hg:wantedS ops σ ⟨some d, .makeMap t none,ty,pos,af,g⟩=some true)
  (h:∀p,R J b cs n ops rest k ds ((d, .map (some p))::σ) ⟨ro,(p,setObj_ [])::own⟩):R J b cs n ops (i::rest) k ds σ ⟨ro,own⟩:=
 R.op C ho hg rfl fun a ha=>by
  unfold execOp
  refine ex_v ?_
  show Sm P _ (Instr.makeMap t none) _
  unfold Instr.makeMap
  exact Sm.bind (Sm.newObj fun p _ _=>Sm.pure (h p))
theorem R.lookupSet(ho:ops[i]? =some ⟨some d, .lookup t x y false,ty,pos,af,g⟩)(hg:wantedS ops σ ⟨some d, .lookup t x y false,ty,pos,af,g⟩=some true)
  (hx:ev σ x=some (.map (some r))) (hy:ev σ y=some (.agg (ints key).toArray)) (hu:∀w,Sem.run P (Go.underlying t) w= .ok (.map kt et) w) (hk:∀w,Sem.run P (Go.underlying kt) w= .ok (.struct fields) w) (hz:∀w,Sem.run P (Go.zeroValue et) w= .ok (.bool false) w)
  (hq:IntT P 10000 kt m true) (hc:CheckT P 10000 kt m true) (hkl:key.length=m) (hks:∀x∈keys,x.length=m) (hm:(r,setObj_ keys)∈own)
  (h:R J b cs n ops rest k ds ((d, .bool (decide (key∈keys)))::σ) ⟨ro,own⟩):R J b cs n ops (i::rest) k ds σ ⟨ro,own⟩:=
 R.op C ho hg rfl fun a ha=>by
  unfold execOp
  simp only [ha.ev hx,ha.ev hy]
  refine ex_v ?_
  unfold Instr.lookup
  refine Sm.bind (Sm.underlying hu ?_)
  simp only
  refine Sm.bind (Sm.getObj_own hm U U ?_)
  simp only [setObj_]
  refine Sm.bind (Sm.pure (Sm.bind (hc key hkl _ _ _ (Sm.bind (Sm.findKey_set hk hq hkl hks (fun h1 j=>?_) (fun h2=>?_))))))
  ·refine Sm.bind (Sm.pure (Sm.pure ?_))
   have:decide (key∈keys)=true:=by simpa using h1
   rw [this] at h;exact h
  ·refine Sm.bind (Sm.zeroValue hz (Sm.bind (Sm.pure (Sm.pure ?_))))
   have:decide (key∈keys)=false:=by simpa using h2
   rw [this] at h;exact h
theorem R.insertSet(ho:ops[i]? =some ⟨none, .mapUpdate t x y (.const (.bool true)),ty,pos,af,g⟩)(hg:wantedS ops σ ⟨none, .mapUpdate t x y (.const (.bool true)),ty,pos,af,g⟩=some true)
  (hx:ev σ x=some (.map (some r))) (hy:ev σ y=some (.agg (ints key).toArray)) (hu:∀w,Sem.run P (Go.underlying t) w= .ok (.map kt et) w) (hk:∀w,Sem.run P (Go.underlying kt) w= .ok (.struct fields) w)
  (hq:IntT P 10000 kt m true) (hc:CheckT P 10000 kt m true) (hkl:key.length=m) (hks:∀x∈keys,x.length=m) (hn:key∉keys) (hup:Upd own r (setObj_ keys) (setObj_ (keys++ [key])) own')
  (h:R J b cs n ops rest k ds σ ⟨ro,own'⟩):R J b cs n ops (i::rest) k ds σ ⟨ro,own⟩:=
 R.op C ho hg rfl fun a ha=>by
  unfold execOp
  simp only [ha.ev hx,ha.ev hy]
  refine ex_u ?_
  show Sm P _ (Instr.mapUpdate t (.map (some r)) (.agg (ints key).toArray) (.bool true)) _
  unfold Instr.mapUpdate
  refine Sm.bind (Sm.underlying hu ?_)
  simp only
  refine Sm.bind (Sm.getObj_own hup.mem U U ?_)
  simp only [setObj_]
  refine Sm.bind (hc key hkl _ _ _ (Sm.bind (Sm.findKey_set hk hq hkl hks (fun h1 j=>absurd h1 hn) (fun h2=>?_))))
  simp only
  have e:(Obj.map (((keys.zipIdx).map fun(x:List Int×Nat)=>({key:= .agg (ints x.1).toArray,val:= .bool true,born:=x.2}:MapEntry)).toArray.push {key:= .agg (ints key).toArray,val:= .bool true,born:=keys.length}) (keys.length+1))=setObj_ (keys++ [key]):=by
   simp [setObj_,List.zipIdx_append]
  rw [e]
  exact Sm.setObj_own hup rfl rfl h
theorem R.sliceFrom{lo:Operand}(ho:ops[i]? =some ⟨some d, .slice t x (some lo) none none,ty,pos,af,g⟩)(hg:wantedS ops σ ⟨some d, .slice t x (some lo) none none,ty,pos,af,g⟩=some true)
  (hx:ev σ x=some (.slice bs len cap)) (hl:ev σ lo=some (.int ik z)) (hu:∀w,Sem.run P (Go.underlying t) w= .ok (.slice e) w) (hz:∀w,Sem.run P (Go.sizeOf e) w= .ok kk w) (h0:0≤z) (h1:z≤len)
  (h:R J b cs n ops rest k ds ((d, .slice (if cap=z.toNat then bs else bs.map (·.add (z.toNat*kk))) (len-z.toNat) (cap-z.toNat))::σ) M):R J b cs n ops (i::rest) k ds σ M:=
 R.v C ho hg rfl (fun _ hh _ hk=>by
  unfold execOp
  simp only [hh.ev hx,Option.map_some,Option.map_none,hh.ev hl]
  refine ex_v ?_
  show Sm P M (Instr.sliceAt t (.slice bs len cap) (some (.int ik z)) none none) _
  unfold Instr.sliceAt
  refine Sm.bind (Sm.underlying hu ?_)
  simp only
  unfold Instr.slice
  refine Sm.bind (Sm.underlying hu ?_)
  simp only
  unfold Instr.sliceBounds
  refine Sm.bind (Sm.bind (Sm.pure (Sm.bind (Sm.pure (Sm.bind (Sm.sliceBound h0 h1 (Sm.pure ?_)))))))
  refine Sm.bind (Sm.sizeOf hz (Sm.pure hk))) h
theorem R.sliceTo{hi:Operand}(ho:ops[i]? =some ⟨some d, .slice t x none (some hi) none,ty,pos,af,g⟩)(hg:wantedS ops σ ⟨some d, .slice t x none (some hi) none,ty,pos,af,g⟩=some true)
  (hx:ev σ x=some (.slice bs len cap)) (hl:ev σ hi=some (.int ik z)) (hu:∀w,Sem.run P (Go.underlying t) w= .ok (.slice e) w) (hz:∀w,Sem.run P (Go.sizeOf e) w= .ok kk w) (h0:0≤z) (h1:z≤cap)
  (h:R J b cs n ops rest k ds ((d, .slice bs z.toNat cap)::σ) M):R J b cs n ops (i::rest) k ds σ M:=
 R.v C ho hg rfl (fun _ hh _ hk=>by
  unfold execOp
  simp only [hh.ev hx,Option.map_some,Option.map_none,hh.ev hl]
  refine ex_v ?_
  show Sm P M (Instr.sliceAt t (.slice bs len cap) none (some (.int ik z)) none) _
  unfold Instr.sliceAt
  refine Sm.bind (Sm.underlying hu ?_)
  simp only
  unfold Instr.slice
  refine Sm.bind (Sm.underlying hu ?_)
  simp only
  unfold Instr.sliceBounds
  refine Sm.bind (Sm.bind (Sm.pure (Sm.bind (Sm.sliceBound h0 (by simpa using h1) (Sm.bind (Sm.pure (Sm.pure ?_)))))))
  refine Sm.bind (Sm.sizeOf hz (Sm.pure ?_))
  have e2:(if cap=0 then bs else Option.map (fun x=>x.add (0*kk)) bs)=bs:=by
   split
   ·rfl
   ·cases bs with
    |none=>rfl
    |some a=>simp [Addr.add]
  rw [e2];exact hk) h
theorem R.sliceArr(ho:ops[i]? =some ⟨some d, .slice t x none none none,ty,pos,af,g⟩)(hg:wantedS ops σ ⟨some d, .slice t x none none none,ty,pos,af,g⟩=some true)
  (hx:ev σ x=some (.pointer (some ⟨bb,off,none⟩))) (hu:∀w,Sem.run P (Go.underlying t) w= .ok (.array len e) w) (hz:∀w,Sem.run P (Go.sizeOf e) w= .ok kk w)
  (h:R J b cs n ops rest k ds ((d, .slice (some ⟨bb,off,none⟩) len len)::σ) M):R J b cs n ops (i::rest) k ds σ M:=
 R.v C ho hg rfl (fun _ hh _ hk=>by
  unfold execOp
  simp only [hh.ev hx,Option.map_none]
  refine ex_v ?_
  show Sm P M (Instr.sliceAt t (.pointer (some ⟨bb,off,none⟩)) none none none) _
  unfold Instr.sliceAt
  refine Sm.bind (Sm.underlying hu ?_)
  simp only
  unfold Instr.sureAddr
  refine Sm.bind (Sm.pure ?_)
  unfold Instr.sliceBounds
  refine Sm.bind (Sm.bind (Sm.pure (Sm.bind (Sm.pure (Sm.bind (Sm.pure (Sm.pure ?_)))))))
  refine Sm.bind (Sm.sizeOf hz (Sm.pure ?_))
  have e2:(if len=0 then(⟨bb,off,none⟩:Addr) else Addr.add ⟨bb,off,none⟩ (0*kk))=⟨bb,off,none⟩:=by
   split
   ·rfl
   ·rw [add_addr];simp
  rw [e2];exact hk) h
theorem R.copy{st:TypeId}{tt:TypeId}{w:Value}{xs:List Value}(ho:ops[i]? =some ⟨dst, .call ⟨.builtin .copy, #[x,y], #[t,st]⟩,ty,pos,af,g⟩)(hg:wantedS ops σ ⟨dst, .call ⟨.builtin .copy, #[x,y], #[t,st]⟩,ty,pos,af,g⟩=some true)
  (hx:ev σ x=some (.slice (some ⟨bb,off,none⟩) len cap)) (hy:ev σ y=some w) (hu:∀w,Sem.run P (Go.underlying t) w= .ok (.slice e) w) (hz:∀w,Sem.run P (Go.sizeOf e) w= .ok kk w) (hr:Rd ⟨ro,own⟩ kk w m xs) (hm:m≤len) (h1:ones xs=true)
  (hup:Upd own bb (.cells l.toArray tt (0,0)) (.cells l'.toArray tt (0,0)) own') (hp:Put off xs l l')
  (h:R J b cs n ops rest k ds (putS dst (.int .i64 m) σ) ⟨ro,own'⟩):R J b cs n ops (i::rest) k ds σ ⟨ro,own⟩:=
 R.op C ho hg rfl fun a ha=>by
  unfold execOp
  refine Sm.bind ?_
  unfold resolve
  refine Sm.pure ?_
  unfold invoke builtin Builtin.copy_
  simp only [List.map_toArray,List.map_cons,List.map_nil,ha.ev hx,ha.ev hy,List.getElem?_toArray,List.getElem?_cons_zero,List.getElem?_cons_succ]
  refine Sm.bind (Sm.bind (Sm.underlying hu ?_))
  simp only
  have hlen:∀ {K:Nat→Mem→Prop} {M:Mem},K m M→Sm P M (Builtin.lenOf w) K:=by
   intro K M hK
   cases hr<;>exact Sm.pure hK
  refine Sm.bind (hlen ?_)
  have e:Nat.min m len=m:=Nat.min_eq_left hm
  rw [e]
  refine Sm.bind (Sm.sizeOf hz (Sm.bind (Sm.firstCells hr ?_)))
  refine Sm.bind (Sm.storeCells_own xs 0 hup (by simpa using hp) h1 ?_)
  exact Sm.pure (Sm.pure h)
end
end Go.Lg
namespace Go.Lg
open Go Go.Conc
variable {α:Type}
theorem perm_mid(A B T:List (Nat×Obj)):(A++(B++T)).Perm (B++(A++T)):=by
 rw [←List.append_assoc, ←List.append_assoc];exact List.Perm.append_right _ List.perm_append_comm
section
variable {P:Program}{main:Bool}{J:Goroutine→Mem→Prop}{b:Frame}{cs:List Frame}{n:Nat}{ds:List Deferred}{σ:Slots}{ro:RO}{own own':List (Nat×Obj)}{k:List Item}{ops:Array Oper}{l:List Nat}
theorem X.perm(hJ:Closed P main J)(h:own.Perm own')(hx:X J b cs n k ds σ ⟨ro,own'⟩):X J b cs n k ds σ ⟨ro,own⟩:=X.weak hJ (Weak.perm h) hx
theorem R.perm(hJ:Closed P main J)(h:own.Perm own')(hx:R J b cs n ops l k ds σ ⟨ro,own'⟩):R J b cs n ops l k ds σ ⟨ro,own⟩:=fun hok=>X.weak hJ (Weak.perm h) (hx hok)
theorem X.drop(hJ:Closed P main J)(h:own'.Sublist own)(hx:X J b cs n k ds σ ⟨ro,own'⟩):X J b cs n k ds σ ⟨ro,own⟩:=X.weak hJ (Weak.sub h) hx
theorem R.drop(hJ:Closed P main J)(h:own'.Sublist own)(hx:R J b cs n ops l k ds σ ⟨ro,own'⟩):R J b cs n ops l k ds σ ⟨ro,own⟩:=fun hok=>X.weak hJ (Weak.sub h) (hx hok)
theorem R.weaken{σ':Slots}{M:Mem}(hs:keeps σ σ')(h:R J b cs n ops l k ds σ' M):R J b cs n ops l k ds σ M:=fun hok=>X.weaken hs (h hok)
end
section
variable {P:Program}{main:Bool}{J:Goroutine→Mem→Prop}{ro:RO}{f:FuncId}{vs first cap:List Value}{pre:List (Nat×Obj)}
def BackV(J:Goroutine→Mem→Prop)(c:Frame)(cs:List Frame)(ro:RO)(tail:List (Nat×Obj))(Post:Value→RO→List (Nat×Obj)→Prop):Prop:=
 ∀v ro' pre' own,ro.le ro'→Post v ro' pre'→(pre'++tail).Sublist own→J (G (c.finish v) cs) ⟨ro',own⟩
theorem CallV.intro{Post:Value→RO→List (Nat×Obj)→Prop}(hJ:Closed P main J)(hc:callableB P f=true)(h:∀c cs tail,BackV J c cs ro tail Post→J (G (Frame.enter P f (first++vs++cap).toArray .normal) (c::cs)) ⟨ro,pre++tail⟩):CallV P J (.func (.func f) first.toArray cap.toArray) vs ro pre Post:=by
 intro c cs tail hret
 refine⟨hc, ?_⟩
 have e:(first.toArray:Array Value).toList++vs++(cap.toArray:Array Value).toList=first++vs++cap:=by simp
 rw [e]
 exact h c cs tail fun v ro' pre' own hl hp hs=>hJ.drop hs (hret v ro' pre' hl hp)
end
def Seg{α:Type}(items:List (List Value))(k:Nat)(L:List α)(f:α→Value):Prop:= ∀j (h:j<L.length),items[k+j]? =some [f L[j]]
theorem Seg.split{items:List (List Value)}{k:Nat}{A B:List α}{f:α→Value}(h:Seg items k (A++B) f):Seg items k A f∧Seg items (k+A.length) B f:=by
 refine⟨fun j hj=>?_,fun j hj=>?_⟩
 ·have:=h j Zo
  rw [List.getElem_append_left hj] at this;exact this
 ·have:=h (A.length+j) Zo
  rw [List.getElem_append_right O] at this
  simpa [Nat.add_assoc] using this
theorem Seg.all(L:List α)(f:α→Value):Seg (L.map fun x=> [f x]) 0 L f:=fun j hj=>by simp [hj]
def rz:Int→Nat→List Int
 |_,0=> []
 |n,m+1=>n::rz (n+1) m
end Go.Lg
namespace Go.Lg
open Go Go.Conc
variable {α:Type}{kk p:Nat}
section
variable {e:TypeId}{k:Nat}{tail own:List (Nat×Obj)}{v:Value}{cells:List Value}
theorem Buf.front(A:List (Nat×Obj))(h:Buf e k tail v cells own):∃own2,(A++own).Perm own2∧Buf e k (A++tail) v cells own2:=by
 cases h with
 |nil=>exact⟨A++tail, .refl _, .nil⟩
 |blk c1 c2 c3=>
  rename_i p len cap spare
  exact⟨(p, .cells (cells++spare).toArray e (0,0))::(A++tail),perm_mid A [(p, .cells (cells++spare).toArray e (0,0))] tail, .blk c1 c2 c3⟩
theorem Buf.back(A:List (Nat×Obj))(h:Buf e k (A++tail) v cells own):∃own2,own.Perm (A++own2)∧Buf e k tail v cells own2:=by
 generalize hT:A++tail=T at h
 cases h with
 |nil=>subst hT;exact⟨tail, .refl _, .nil⟩
 |blk c1 c2 c3=>
  subst hT
  rename_i p len cap spare
  exact⟨(p, .cells (cells++spare).toArray e (0,0))::tail,perm_mid [(p, .cells (cells++spare).toArray e (0,0))] A tail, .blk c1 c2 c3⟩
theorem Buf.app(H:List (Nat×Obj))(h:Buf e k tail v cells own):Buf e k (tail++H) v cells (own++H):=by
 cases h with
 |nil=>exact .nil
 |blk c1 c2 c3=>exact .blk c1 c2 c3
theorem Buf.unapp{H:List (Nat×Obj)}(h:Buf e k (tail++H) v cells own):∃own0,own=own0++H∧Buf e k tail v cells own0:=by
 generalize hT:tail++H=T at h
 cases h with
 |nil=>subst hT;exact⟨tail,rfl, .nil⟩
 |blk c1 c2 c3=>subst hT;exact⟨_::tail,rfl, .blk c1 c2 c3⟩
theorem Buf.one(h:Buf e k tail v cells own):oneCell v=true:=by cases h<;>rfl
theorem Buf.cells1(h:Buf e k tail v cells own):v.cells= [v].toArray:=by cases h<;>rfl
theorem Buf.ones1(h:Buf e k tail v cells own):ones [v]=true:=by cases h<;>rfl
theorem Buf.form(h:Buf e k tail v cells own)(hk:0<k):∃bs cap,v= .slice bs (cells.length/k) cap:=by
 cases h with
 |nil=>exact⟨none,0,by simp⟩
 |blk c1 c2 c3=>exact⟨_,_,by rw [c1,Nat.mul_div_cancel _ hk]⟩
theorem Buf.sub(h:Buf e k tail v cells own):tail.Sublist own:=by
 cases h with
 |nil=>exact .refl _
 |blk _ _ _=>exact List.sublist_cons_self _ _
end
theorem Ls.cells1{enc:α→List Value}{k:Nat}{ro:RO}{v:Value}{xs:List α}(h:Ls enc k ro v xs):v.cells= [v].toArray:=by obtain⟨b,c,rfl,_⟩:=h;rfl
theorem Ls.ones1{enc:α→List Value}{k:Nat}{ro:RO}{v:Value}{xs:List α}(h:Ls enc k ro v xs):ones [v]=true:=by obtain⟨b,c,rfl,_⟩:=h;rfl
theorem R.persist{P:Program}{main:Bool}{J:Goroutine→Mem→Prop}{b:Frame}{cs:List Frame}{n:Nat}{ds:List Deferred}{σ:Slots}{ro:RO}{own:List (Nat×Obj)}{k:List Item}{ops:Array Oper}{l:List Nat}{o:Obj}(hJ:Closed P main J)(h:∀ro':RO,ro.le ro'→ro' p=some o→R J b cs n ops l k ds σ ⟨ro',own⟩):R J b cs n ops l k ds σ ⟨ro,(p,o)::own⟩:=
 fun hok=>X.persist hJ fun ro' h1 h2=>h ro' h1 h2 hok
theorem X.finishA{P:Program}{main:Bool}{J:Goroutine→Mem→Prop}{b:Frame}{cs:List Frame}{n:Nat}{ds:List Deferred}{σ:Slots}{ro:RO}{own:List (Nat×Obj)}{enc:α→List Value}{e:TypeId}{v:Value}{xs:List α}{tail:List (Nat×Obj)}{todo:List Item}
  (A:List (Nat×Obj)) (hJ:Closed P main J) (hk:∀x,(enc x).length=kk) (hkp:0<kk) (hb:Buf e kk tail v (xs.flatMap enc) own) (h:∀ro':RO,ro.le ro'→Ls enc kk ro' v xs→X J b cs n todo ds σ ⟨ro',A++tail⟩):X J b cs n todo ds σ ⟨ro,A++own⟩:=by
 obtain⟨own2,hp,hb2⟩:=hb.front A
 exact X.perm hJ hp (X.finish hJ hk hkp hb2 h)
section
variable {P:Program}{main:Bool}{J:Goroutine→Mem→Prop}{b:Frame}(C:Ctx P main J b){cs:List Frame}{n:Nat}{ds:List Deferred}{σ:Slots}{ro:RO}{own:List (Nat×Obj)}{k:List Item}{ops:Array Oper}{i:Nat}{rest:List Nat}
 {d:Nat} {dst:Option Nat} {ty:TypeId} {pos:String} {af:Array Edge} {g:Option (Nat×Bool)}
include C
theorem R.append2{st xt e e':TypeId}{ti:TypeInfo}{m cap:Nat}{z:Value}{xe:TypeDesc}{x y:Operand}{v:Value}{cells xs:List Value}{tail:List (Nat×Obj)}{fq:Nat×Nat}(A:List (Nat×Obj))(ho:ops[i]? =some ⟨some d, .call ⟨.builtin .append, #[x,y], #[st,xt]⟩,ty,pos,af,g⟩)
  (hg:wantedS ops σ ⟨some d, .call ⟨.builtin .append, #[x,y], #[st,xt]⟩,ty,pos,af,g⟩=some true) (hx:ev σ x=some v) (hy:ev σ y=some (.slice (some ⟨p,0,none⟩) m cap)) (hu:∀w,Sem.run P (Go.underlying st) w= .ok (.slice e) w) (hux:∀w,Sem.run P (Go.underlying xt) w= .ok xe w)
  (hxe:∀q,xe≠ .int q) (hi:P.info? e=some ti) (hks:ti.size=kk) (hz:ti.zero=some z) (hzc:z.cells.size=kk) (hby:0<ti.bytes∧ti.bytes≤1000) (hkp:0<kk) (hb:Buf e kk tail v cells own) (hm:xs.length=m*kk) (h1:ones xs=true) (hsz:cells.length+xs.length≤1000000000)
  (h:∀v' own',Buf e kk tail v' (cells++xs) own'→R J b cs n ops rest k ds ((d,v')::σ) ⟨ro,A++own'⟩):R J b cs n ops (i::rest) k ds σ ⟨ro,(p, .cells xs.toArray e' fq)::(A++own)⟩:=by
 obtain⟨own2,hp,hb2⟩:=hb.front A
 refine R.perm C.1 (hp.cons _)<|R.append1 C ho hg hx hy hu hux hxe hi hks hz hzc hby hkp hb2 hm h1 hsz fun v' own' hb'=>?_
 obtain⟨own3,hp3,hb3⟩:=hb'.back A
 exact R.perm C.1 hp3 (h v' own3 hb3)
end
end Go.Lg
namespace Go.Lg
open Go Go.Conc
open Go.ConcR (KK WgAt stA smA rd wr mk Payload)
open Go.ConcN (WgLive)
variable {o:Oper}{v:Value}{xs:List Operand}{vs:List Value}{a:Act}{m:Mark}{ad:Addr}{w:World}{sm st:Int}{b:Frame}{d:Nat}{s t:TypeId}
theorem fr_at(f:FuncId)(kind:CallKind)(a:Act)(todo:List Item):fr (bf f kind) a todo=(bf f kind).at a todo:=rfl
theorem dst_of{n:Nat}{ops:Array Oper}(h:dstsOk n ops.toList=true){i:Nat}(ho:ops[i]? =some o):dstOk n o.dst=true:=by
 cases e:o.dst with
 |none=>rfl
 |some d=>simpa [dstOk] using dsts_of h i d (by rw [ho];exact e)
section
variable {P:Program}{main:Bool}{J:Goroutine→Mem→Prop}{f0:FuncId}{kind:CallKind}{cs:List Frame}{n:Nat}{ds:List Deferred}{σ:Slots}{M:Mem}{k:List Item}{ops:Array Oper}{i:Nat}{rest:List Nat}
 {dst:Option Nat} {ty:TypeId} {pos:String} {af:Array Edge} {g:Option (Nat×Bool)} {f:FuncId} {fn:Func} {args:Array Operand} {ats:Array TypeId}
theorem R.extPure(C:Ctx P main J (bf f0 kind))(ho:ops[i]? =some ⟨dst, .call ⟨.value (.func f),args,ats⟩,ty,pos,af,g⟩)(hg:wantedS ops σ ⟨dst, .call ⟨.value (.func f),args,ats⟩,ty,pos,af,g⟩=some true)
  (hf:P.funcs[f]? =some fn) (hname:(fn.name== "runtime.NumGoroutine")=false) (hb:fn.body.isNone=true) (hn:Extern.findNext fn=none) (he:Extern.find fn=some (fun _=>pure v)) (h:R J (bf f0 kind) cs n ops rest k ds (putS dst v σ) M):R J (bf f0 kind) cs n ops (i::rest) k ds σ M:=fun hok a ha=>
 C.1.ctl rfl (fun w=>stepG_entry_pure v ho (wanted_of ha (dsts_of hok) hg) C.kind rfl hf hname hb hn he) (h hok _ (ha.putS (dst_of hok ho) v))
theorem R.enter(C:Ctx P main J (bf f0 kind))(ho:ops[i]? =some ⟨dst, .call ⟨.value (.func f),xs.toArray,ats⟩,ty,pos,af,g⟩)(hg:wantedS ops σ ⟨dst, .call ⟨.value (.func f),xs.toArray,ats⟩,ty,pos,af,g⟩=some true)
  (hc:callableB P f=true) (hx:evs σ xs=some vs) (h:dstsOk n ops.toList=true→∀a,Holds n ds σ a→J (G (Frame.enter P f vs.toArray .normal) (fr (bf f0 kind) a (.inRegion ops (i::rest)::k)::cs)) M):R J (bf f0 kind) cs n ops (i::rest) k ds σ M:=
 fun hok=>R.op C ho hg rfl (fun a ha=>by
  unfold execOp
  refine Sm.bind ?_
  unfold resolve
  simp only [List.map_toArray,ha.evs hx]
  unfold Deferred.ofValue
  refine Sm.pure ?_
  unfold invoke
  refine Sm.callFunc hc ?_
  have e:(#[]:Array Value)++vs.toArray++(#[]:Array Value)=vs.toArray:=by simp
  intro a' ha'
  show J (G (Frame.enter P f (#[]++vs.toArray++ #[]) .normal) _) M
  rw [e];exact h hok a' ha') hok
theorem R.resume(ha:Holds n ds σ a)(hok:dstsOk n ops.toList=true)(ho:ops[i]? =some o)(h:R J (bf f0 kind) cs n ops rest k ds (putS o.dst v σ) M):J (G ((fr (bf f0 kind) a (.inRegion ops (i::rest)::k)).finish v) cs) M:=by
 rw [fr_finish,ho]
 exact h hok _ (ha.putS (dst_of hok ho) v)
theorem R.defer(C:Ctx P main J (bf f0 kind))(ho:ops[i]? =some ⟨none, .defer ⟨.value (.func f),xs.toArray,ats⟩,ty,pos,af,g⟩)(hg:wantedS ops σ ⟨none, .defer ⟨.value (.func f),xs.toArray,ats⟩,ty,pos,af,g⟩=some true)(hx:evs σ xs=some vs)
  (h:R J (bf f0 kind) cs n ops rest k (dcall f vs.toArray::ds) σ M):R J (bf f0 kind) cs n ops (i::rest) k ds σ M:=fun hok a ha=>by
 have e:(xs.toArray.map a.eval)=vs.toArray:=by rw [List.map_toArray,ha.evs hx]
 have hst:=fun w=>stepG_defer (P:=P) (main:=main) (b:=bf f0 kind) (k:=k) (cs:=cs) (w:=w) (rest:=rest) ho (wanted_of ha (dsts_of hok) hg) C.kind rfl
 rw [e] at hst
 exact C.1.ctl rfl hst (h hok ⟨a.tmps,dcall f vs.toArray::a.defers⟩ ⟨ha.size,by rw [ha.defers],ha.slots⟩)
end
section
variable {P:Program}{main:Bool}{I:World→Prop}{Next:Goroutine→Mem→Prop}{f0:FuncId}{kind:CallKind}{cs:List Frame}{n:Nat}{ds:List Deferred}{σ:Slots}{M:Mem}{k:List Item}{ops:Array Oper}{i:Nat}{rest:List Nat}
 {dst:Option Nat} {ty:TypeId} {pos:String} {af:Array Edge} {g:Option (Nat×Bool)} {f:FuncId} {fn:Func} {args:Array Operand} {ats:Array TypeId}
theorem R.say(hk:kind≠ .early)(hm:∀g,m≠ .extern g)(ho:ops[i]? =some ⟨dst, .call ⟨.value (.func f),args,ats⟩,ty,pos,af,g⟩)(hg:wantedS ops σ ⟨dst, .call ⟨.value (.func f),args,ats⟩,ty,pos,af,g⟩=some true)
  (hf:P.funcs[f]? =some fn) (hname:(fn.name== "runtime.NumGoroutine")=false) (hb:fn.body.isNone=true) (hn:Extern.findNext fn=none) (he:Extern.find fn=some (fun _=>do mark m;pure Extern.Race.none_))
  (h:R (Tr I P main Next) (bf f0 kind) cs n ops rest k ds (putS dst (.tuple #[]) σ) M):R (Tr I P main (Say P I main m Next)) (bf f0 kind) cs n ops (i::rest) k ds σ M:=fun hok a ha=>
 Tr.stop ⟨rfl,_,fun w=>stepG_mark0 m hm ho (wanted_of ha (dsts_of hok) hg) hk rfl hf hname hb hn he,h hok _ (ha.putS (dst_of hok ho) _)⟩
theorem R.sayAt{mk0:Addr→Mark}(hk:kind≠ .early)(hm:∀ad g,mk0 ad≠ .extern g)(ho:ops[i]? =some ⟨dst, .call ⟨.value (.func f),xs.toArray,ats⟩,ty,pos,af,g⟩)(hg:wantedS ops σ ⟨dst, .call ⟨.value (.func f),xs.toArray,ats⟩,ty,pos,af,g⟩=some true)
  (hf:P.funcs[f]? =some fn) (hname:(fn.name== "runtime.NumGoroutine")=false) (hb:fn.body.isNone=true) (hn:Extern.findNext fn=none) (he:Extern.find fn=some (Extern.Race.marked mk0)) (hx:evs σ xs=some (.pointer (some ad)::vs))
  (h:R (Tr I P main Next) (bf f0 kind) cs n ops rest k ds (putS dst (.tuple #[]) σ) M):R (Tr I P main (Say P I main (mk0 ad) Next)) (bf f0 kind) cs n ops (i::rest) k ds σ M:=fun hok a ha=>
 Tr.stop ⟨rfl,_,fun w=>stepG_markAt mk0 hm ho (wanted_of ha (dsts_of hok) hg) hk rfl hf hname hb hn he (by rw [List.map_toArray,ha.evs hx];rfl),h hok _ (ha.putS (dst_of hok ho) _)⟩
theorem X.retSay{c:Frame}{cs:List Frame}{fn0:Func}{rs:List ResultVar}{ro:RO}{own:List (Nat×Obj)}(hf0:P.funcs[f0]? =some fn0)(hrs:fn0.results=rs.toArray)(hr:Res P σ own rs vs)(hm:∀g,m≠ .extern g)
  (hf:P.funcs[f]? =some fn) (hname:(fn.name== "runtime.NumGoroutine")=false) (hb:fn.body.isNone=true) (hn:Extern.findNext fn=none) (he:Extern.find fn=some (fun _=>do mark m;pure Extern.Race.none_))
  (h:Tr I P main Next (G (c.finish (retVal vs)) cs) ⟨ro,own⟩):X (Tr I P main (Say P I main m Next)) (bf f0 .normal) (c::cs) n (.code .ret::k) [dcall f #[]] σ ⟨ro,own⟩:=fun a ha=>by
 refine(Tr.closed (I:=I) (Stop:=Say P I main m Next)).ctl U (fun w=>ret_step (b:=bf f0 .normal) U w) ?_
 have hC:Ctx P main (Tr I P main Next) (bf f0 .normal):=⟨Tr.closed,by simp [bf]⟩
 refine Tr.stop ⟨rfl,G {fr (bf f0 .normal) ⟨a.tmps, []⟩ (.code .ret::k) with mode:= .returning} (c::cs),fun w=>?_,J_leave hC U hf0 hrs ⟨ha.size,rfl,ha.slots⟩ hr h⟩
 exact stepG_unwind_entry (P:=P) (b:=bf f0 .normal) (a:=a) ha.defers hf hname hb hn he (v:=Extern.Race.none_) (w':=w) (evs:= #[⟨.mark m,false,true⟩]) (by simp [Extern.Race.none_]) Zi (by
  intro x hx
  simp only [List.mem_toArray,List.mem_cons,List.not_mem_nil,or_false] at hx
  subst hx
  exact⟨rfl,fun g=>by simpa using hm g⟩)
end
section
variable [Payload] {P:Program}{ty:TypeId}{Wg Ch:Nat}{ok:Nat→List Value→RO→Prop}{j:Nat}{Next:Goroutine→Mem→Prop}{f0:FuncId}{kind:CallKind}{cs:List Frame}{n:Nat}{ds:List Deferred}{σ:Slots}{M:Mem}{k:List Item}{ops:Array Oper}{i:Nat}{rest:List Nat}
 {dst:Option Nat} {ty':TypeId} {pos:String} {af:Array Edge} {g:Option (Nat×Bool)} {f:FuncId} {fn:Func} {args:Array Operand} {ats:Array TypeId} {x y z:Operand}
theorem wgCell(h:WgAt ty Wg w st sm):w.cell? (stA Wg)=some (.int .u64 st)∧w.frozen? (stA Wg)=false:=by
 unfold WgAt Go.ConcR.wgBlock at h
 exact⟨by simp [World.cell?,stA,h],by simp [World.frozen?,stA,h]⟩
theorem wgCellSm(h:WgAt ty Wg w st sm):w.cell? (smA Wg)=some (.int .u32 sm)∧w.frozen? (smA Wg)=false:=by
 unfold WgAt Go.ConcR.wgBlock at h
 exact⟨by simp [World.cell?,smA,h],by simp [World.frozen?,smA,h]⟩
omit [Payload] in
theorem R.nilCheck{J:Goroutine→Mem→Prop}{main:Bool}(C:Ctx P main J b)(ho:ops[i]? =some ⟨some d, .nilCheck x,ty',pos,af,g⟩)(hg:wantedS ops σ ⟨some d, .nilCheck x,ty',pos,af,g⟩=some true)(hx:ev σ x=some (.pointer (some ad)))
  (h:R J b cs n ops rest k ds ((d, .pointer (some ad))::σ) M):R J b cs n ops (i::rest) k ds σ M:=
 R.v C ho hg rfl (fun _ ha _ hk=>by unfold execOp;simp only [ha.ev hx];exact Sm.pure hk) h
omit [Payload] in
theorem R.convInt{J:Goroutine→Mem→Prop}{main:Bool}(C:Ctx P main J b){td:TypeDesc}{k1 k2:IntKind}{m v:Int}(ho:ops[i]? =some ⟨some d, .convert s t x,ty',pos,af,g⟩)(hg:wantedS ops σ ⟨some d, .convert s t x,ty',pos,af,g⟩=some true)(hx:ev σ x=some (.int k1 m))
  (hs:∀w,Sem.run P (Go.underlying s) w= .ok td w) (ht:∀w,Sem.run P (Go.underlying t) w= .ok (.int k2) w) (hv:k2.wrap m=v) (h:R J b cs n ops rest k ds ((d, .int k2 v)::σ) M):R J b cs n ops (i::rest) k ds σ M:=
 R.v C ho hg rfl (fun _ ha _ hk=>by
  unfold execOp;simp only [ha.ev hx]
  refine ex_v ?_
  unfold convert
  refine Sm.bind (Sm.underlying hs (Sm.bind (Sm.underlying ht ?_)))
  unfold Conv.intToInt
  subst hv
  exact Sm.pure hk) h
theorem R.toUnsafe{Stop:Goroutine→Mem→Prop}{main:Bool}(hk:kind≠ .early){u:TypeId}(had:ad=stA Wg∨ad=smA Wg)(ho:ops[i]? =some ⟨some d, .convert s t x,ty',pos,af,g⟩)(hg:wantedS ops σ ⟨some d, .convert s t x,ty',pos,af,g⟩=some true)(hx:ev σ x=some (.pointer (some ad)))
  (hs:P.underlying s=some (.pointer u)) (ht:P.underlying t=some .unsafePointer) (hz:(P.info? u).map (fun i=>decide (i.size=0))=some false) (h:R (Tr (WgLive ty Wg) P main Stop) (bf f0 kind) cs n ops rest k ds ((d, .pointer (some ad))::σ) M):
  R (Tr (WgLive ty Wg) P main Stop) (bf f0 kind) cs n ops (i::rest) k ds σ M:=fun hok a ha=>by
 refine Tr.stepI U fun w hw ⟨st,sm,hl⟩=>?_
 obtain⟨v,hc⟩:∃v,w.cell? ad=some v:=by
  rcases had with rfl|rfl
  ·exact⟨_,(wgCell hl).1⟩
  ·exact⟨_,(wgCellSm hl).1⟩
 have e:execOp a.eval ⟨some d, .convert s t x,ty',pos,af,g⟩=(do pure (.value (←convert s t (.pointer (some ad))))):=by
  unfold execOp;simp only [ha.ev hx]
 have h1:(execOp a.eval ⟨some d, .convert s t x,ty',pos,af,g⟩).run P w= .ok (.value (.pointer (some ad))) w:=by
  rw [e];simp [run_convert_to_unsafe hs ht hz hc]
 have h2:(execOp a.eval ⟨some d, .convert s t x,ty',pos,af,g⟩).events P w #[]= #[]:=by
  rw [e];simp [run_convert_to_unsafe hs ht hz hc,events_convert_to_unsafe hs ht hz hc,Result.evThen]
 have hst:=stepG_value (P:=P) (main:=main) (b:=bf f0 kind) (k:=k) (cs:=cs) (rest:=rest) ho (wanted_of ha (dsts_of hok) hg) hk h1
 have h3:listed P (bf f0 kind).fn a ⟨some d, .convert s t x,ty',pos,af,g⟩ w= #[]:=by
  unfold listed;rw [h2];rfl
 rw [h3] at hst
 exact⟨_,w, #[],M,hst,Good.refl hw,h hok _ (ha.put (by simpa [dstOk] using dst_of hok ho) _)⟩
theorem R.addOne(hk:kind≠ .early)(ho:ops[i]? =some ⟨dst, .call ⟨.value (.func f), #[x,y],ats⟩,ty',pos,af,g⟩)(hg:wantedS ops σ ⟨dst, .call ⟨.value (.func f), #[x,y],ats⟩,ty',pos,af,g⟩=some true)
  (hf:P.funcs[f]? =some fn) (hname:(fn.name== "runtime.NumGoroutine")=false) (hb:fn.body.isNone=true) (hn:Extern.findNext fn=none) (he:Extern.find fn=some (Extern.Atomic.update (Op.intArith .add) .u64 true))
  (hx:ev σ x=some (.pointer (some (stA Wg)))) (hy:ev σ y=some (.int .u64 4294967296))
  (h:∀v:Nat,v<2147483647→(v=0→R (Tr (WgLive ty Wg) P true (AtS4 P ty Wg Ch ok j Next)) (bf f0 kind) cs n ops rest k ds (putS dst (.int .u64 (((v:Int)+1)*4294967296)) σ) M)∧
   (v≠0→R (Tr (WgLive ty Wg) P true (AtS3 P ty Wg Ch ok j Next)) (bf f0 kind) cs n ops rest k ds (putS dst (.int .u64 (((v:Int)+1)*4294967296)) σ) M)):
  R (Tr (WgLive ty Wg) P true (AtS5 P ty Wg Ch ok j Next)) (bf f0 kind) cs n ops (i::rest) k ds σ M:=fun hok a ha=>by
 refine Tr.stop ⟨rfl,fun v hv=>⟨G (fr (bf f0 kind) (a.put dst (.int .u64 (((v:Int)+1)*KK))) (.inRegion ops rest::k)) cs,fun w hw=>?_,fun e=>?_,fun e=>?_⟩⟩
 ·have e:IntKind.u64.wrap ((v:Int)*KK+4294967296)=((v:Int)+1)*KK:=by
   rw [IntWalk.u64_in _ (by simp only [KK];omega)];simp only [KK];omega
  have:=stepG_add_atomic (P:=P) (main:=true) (b:=bf f0 kind) (kk:=k) (cs:=cs) (w:=w) (rest:=rest) ho (wanted_of ha (dsts_of hok) hg) hk rfl hf hname hb hn .u64 he (ha.ev hx) (ha.ev hy) (wgCell hw).1 (wgCell hw).2
  rw [e] at this
  exact this
 ·exact(h v hv).1 e hok _ (ha.putS (dst_of hok ho) _)
 ·exact(h v hv).2 e hok _ (ha.putS (dst_of hok ho) _)
variable {Anch:Goroutine→Mem→Prop}
theorem atW1(hk:kind≠ .early)(hok:dstsOk n ops.toList=true)(ha:Holds n ds σ a)(ho:ops[i]? =some ⟨dst, .call ⟨.value (.func f), #[x],ats⟩,ty',pos,af,g⟩)(hg:wantedS ops σ ⟨dst, .call ⟨.value (.func f), #[x],ats⟩,ty',pos,af,g⟩=some true)
  (hf:P.funcs[f]? =some fn) (hname:(fn.name== "runtime.NumGoroutine")=false) (hb:fn.body.isNone=true) (hn:Extern.findNext fn=none) (he:Extern.find fn=some (Extern.Atomic.loadT (.int .u64)))
  (hx:ev σ x=some (.pointer (some (stA Wg))))
  (h:∀v:Nat,v<2147483648→(v=0→R (Tr (WgLive ty Wg) P false (AtKe P ty Wg Ch)) (bf f0 kind) cs n ops rest k ds (putS dst (.int .u64 ((v:Int)*4294967296)) σ) M)∧(v≠0→R (Tr (WgLive ty Wg) P false (AtW2 P ty Wg Ch Anch v)) (bf f0 kind) cs n ops rest k ds (putS dst (.int .u64 ((v:Int)*4294967296)) σ) M)):
  AtW1 P ty Wg Ch Anch (G (fr (bf f0 kind) a (.inRegion ops (i::rest)::k)) cs) M:=
 ⟨rfl,fun v hv=>⟨_,fun w hw=>stepG_load_atomic (P:=P) (main:=false) (b:=bf f0 kind) (kk:=k) (cs:=cs) (w:=w) (rest:=rest) ho (wanted_of ha (dsts_of hok) hg) hk rfl hf hname hb hn .u64 he (ha.ev hx) (wgCell hw).1,fun e=>(h v hv).1 e hok _ (ha.putS (dst_of hok ho) _),fun e=>(h v hv).2 e hok _ (ha.putS (dst_of hok ho) _)⟩⟩
theorem R.cas{vs:Nat}(hk:kind≠ .early)(ho:ops[i]? =some ⟨dst, .call ⟨.value (.func f), #[x,y,z],ats⟩,ty',pos,af,g⟩)(hg:wantedS ops σ ⟨dst, .call ⟨.value (.func f), #[x,y,z],ats⟩,ty',pos,af,g⟩=some true)
  (hf:P.funcs[f]? =some fn) (hname:(fn.name== "runtime.NumGoroutine")=false) (hb:fn.body.isNone=true) (hn:Extern.findNext fn=none) (he:Extern.find fn=some (Extern.Atomic.casT (.int .u64)))
  (hx:ev σ x=some (.pointer (some (stA Wg)))) (hy:ev σ y=some (.int .u64 ((vs:Int)*4294967296))) (hz:ev σ z=some (.int .u64 ((vs:Int)*4294967296+1)))
  (h1:R (Tr (WgLive ty Wg) P false (AtWr P ty Wg Ch)) (bf f0 kind) cs n ops rest k ds (putS dst (.bool true) σ) M) (h2:R (Tr (WgLive ty Wg) P false Anch) (bf f0 kind) cs n ops rest k ds (putS dst (.bool false) σ) M):
  R (Tr (WgLive ty Wg) P false (AtW2 P ty Wg Ch Anch vs)) (bf f0 kind) cs n ops (i::rest) k ds σ M:=fun hok a ha=>
 Tr.stop ⟨rfl,⟨_,fun w hw=>stepG_cas_hit (P:=P) (main:=false) (b:=bf f0 kind) (kk:=k) (cs:=cs) (w:=w) (rest:=rest) ho (wanted_of ha (dsts_of hok) hg) hk rfl hf hname hb hn .u64 he (ha.ev hx) (ha.ev hy) (ha.ev hz) (wgCell hw).1 (wgCell hw).2,h1 hok _ (ha.putS (dst_of hok ho) _)⟩,
  fun v hv hne=>⟨_,fun w hw=>stepG_cas_miss (P:=P) (main:=false) (b:=bf f0 kind) (kk:=k) (cs:=cs) (w:=w) (rest:=rest) ho (wanted_of ha (dsts_of hok) hg) hk rfl hf hname hb hn .u64 he (ha.ev hx) (ha.ev hy) (ha.ev hz) (wgCell hw).1 (wgCell hw).2 (by simp only [KK];omega),h2 hok _ (ha.putS (dst_of hok ho) _)⟩⟩
theorem R.sema(hk:kind≠ .early)(ho:ops[i]? =some ⟨dst, .call ⟨.value (.func f),xs.toArray,ats⟩,ty',pos,af,g⟩)(hg:wantedS ops σ ⟨dst, .call ⟨.value (.func f),xs.toArray,ats⟩,ty',pos,af,g⟩=some true)
  (hf:P.funcs[f]? =some fn) (hname:(fn.name== "runtime.NumGoroutine")=false) (hb:fn.body.isNone=true) (hn:Extern.findNext fn=none) (he:Extern.find fn=some Extern.Sync.semacquire) (hx:evs σ xs=some (.pointer (some (smA Wg))::vs))
  (h:R (Tr (WgLive ty Wg) P false (AtW4 P ty Wg Ch)) (bf f0 kind) cs n ops rest k ds (putS dst (.tuple #[]) σ) M):R (Tr (WgLive ty Wg) P false (AtW3 P ty Wg Ch)) (bf f0 kind) cs n ops (i::rest) k ds σ M:=fun hok a ha=>by
 have hx':(xs.toArray.map a.eval)[0]? =some (.pointer (some (smA Wg))):=by rw [List.map_toArray,ha.evs hx];rfl
 refine Tr.stop ⟨rfl,rfl,fun w st hw=>stepG_semacquire_wait (P:=P) (main:=false) (b:=bf f0 kind) (kk:=k) (cs:=cs) (w:=w) (rest:=rest) ho (wanted_of ha (dsts_of hok) hg) U hf hname hb hn he hx' (wgCellSm hw).1,_,fun w hw=>?_,h hok _ (ha.putS (dst_of hok ho) _)⟩
 have:=stepG_semacquire (P:=P) (main:=false) (b:=bf f0 kind) (kk:=k) (cs:=cs) (w:=w) (rest:=rest) ho (wanted_of ha (dsts_of hok) hg) hk rfl hf hname hb hn he hx' (wgCellSm hw).1 Dd (wgCellSm hw).2
 exact this
theorem R.loadW4(hk:kind≠ .early)(ho:ops[i]? =some ⟨dst, .call ⟨.value (.func f), #[x],ats⟩,ty',pos,af,g⟩)(hg:wantedS ops σ ⟨dst, .call ⟨.value (.func f), #[x],ats⟩,ty',pos,af,g⟩=some true)
  (hf:P.funcs[f]? =some fn) (hname:(fn.name== "runtime.NumGoroutine")=false) (hb:fn.body.isNone=true) (hn:Extern.findNext fn=none) (he:Extern.find fn=some (Extern.Atomic.loadT (.int .u64)))
  (hx:ev σ x=some (.pointer (some (stA Wg)))) (h:R (Tr (WgLive ty Wg) P false (AtKe P ty Wg Ch)) (bf f0 kind) cs n ops rest k ds (putS dst (.int .u64 0) σ) M):
  R (Tr (WgLive ty Wg) P false (AtW4 P ty Wg Ch)) (bf f0 kind) cs n ops (i::rest) k ds σ M:=fun hok a ha=>
 Tr.stop ⟨rfl,_,fun w hw=>stepG_load_atomic (P:=P) (main:=false) (b:=bf f0 kind) (kk:=k) (cs:=cs) (w:=w) (rest:=rest) ho (wanted_of ha (dsts_of hok) hg) hk rfl hf hname hb hn .u64 he (ha.ev hx) (wgCell hw).1,h hok _ (ha.putS (dst_of hok ho) _)⟩
end
end Go.Lg
namespace Go.Lg.B
open Go Go.Conc Go.Lg Go.Proofs Go.Proofs.Tryz
abbrev wgL:Go.Conc.Lib.WgLink:={add:=161,done:=163,wait:=165,relMerge:=196,disable:=197,enable:=198,inBubble:=199,associate:=200,fatal:=201,uOr:=202,uAdd:=203,raceRead:=204,uLoad:=205,uStore:=206,disassociate:=207,semrelease:=208,acquire:=209,isAssociated:=210,uCas:=211,raceWrite:=212,semacquire:=213,orU64:=237,addU64:=238,loadU64:=239,storeU64:=240,casU64:=241,tWgP:=252,tUP:=218,tAssoc:=254,tWg:=201,tAU:=198,tU64:=196,tUint:=189,tU32:=199,tPU32:=258,tPAU:=297,tPU64:=299,tNoCopy:=193,tANoCopy:=194,tAlign64:=195}
theorem wgLib:Go.Conc.Lib.WgLib prog wgL:=
 ⟨func161,func163,func165,func196,func197,func198,func199,func200,func201,func202,func203,func204,func205,func206,func207,func208,func209,func210,func211,func212,func213,func237,func238,func239,func240,func241,underlying252,runUnderlying252,sizeOf252,isAgg252,zeroValue252,underlying218,runUnderlying218,sizeOf218,isAgg218,zeroValue218,underlying254,runUnderlying254,sizeOf254,isAgg254,zeroValue254,underlying201,runUnderlying201,sizeOf201,isAgg201,zeroValue201,underlying198,runUnderlying198,sizeOf198,isAgg198,zeroValue198,underlying196,runUnderlying196,sizeOf196,isAgg196,zeroValue196,underlying189,runUnderlying189,sizeOf189,isAgg189,zeroValue189,underlying199,runUnderlying199,sizeOf199,isAgg199,zeroValue199,underlying258,runUnderlying258,sizeOf258,isAgg258,zeroValue258,underlying297,runUnderlying297,sizeOf297,isAgg297,zeroValue297,underlying299,runUnderlying299,sizeOf299,isAgg299,zeroValue299,underlying0,runUnderlying0,sizeOf0,isAgg0,zeroValue0,underlying3,runUnderlying3,sizeOf3,isAgg3,zeroValue3,underlying4,runUnderlying4,sizeOf4,isAgg4,zeroValue4,underlying9,runUnderlying9,sizeOf9,isAgg9,zeroValue9,underlying20,runUnderlying20,sizeOf20,isAgg20,zeroValue20,underlying21,runUnderlying21,sizeOf21,isAgg21,zeroValue21,by kernel_rfl,by kernel_rfl⟩
instance : Go.ConcR.Payload := ⟨3⟩
end Go.Lg.B
namespace Go.Lg.B
open Go Go.Conc Go.Lg Go.Proofs Go.Proofs.Tryz
open Go.ConcR (KK WgAt stA smA rd wr mk)
open Go.ConcN (WgLive)
variable {P:Program}{t:TypeId}{v:Nat}{c:Frame}{cs:List Frame}
theorem b_andU{x y v:Int}(hv:bits .and .u64 x y=v):∀M K,K (.int .u64 v) M→Sm P M (binOp .and t (.int .u64 x) (.int .u64 y)) K:=fun M K h=>by
 subst hv
 unfold binOp;simp only [ne_eq,not_true_eq_false,if_false]
 exact(Sm.pure h:Sm P M (Pure.pure (.int .u64 (bits .and .u64 x y)):Sem Value) K)
theorem b_shl32:∀M K,K (.int .u64 4294967296) M→Sm P M (binOp .shl t (.int .u64 1) (.int .u64 32)) K:=fun M K h=>(Sm.pure h:Sm P M (Pure.pure (.int .u64 4294967296):Sem Value) K)
theorem flag0(hv:v<2147483647):bits .and .u64 (((v:Int)+1)*4294967296) 2147483648=0:=by
 have:=Go.ConcN.st_flag (v+1) 0 O O
 simpa using this
theorem wait0(hv:v<2147483647):bits .and .u64 (((v:Int)+1)*4294967296) 2147483647=0:=by
 have:=Go.ConcN.st_waiters (v+1) 0 O O
 simpa using this
variable {ty:TypeId}{Wg Ch:Nat}{ok:Nat→List Value→RO→Prop}{j:Nat}{Next:Goroutine→Mem→Prop}
theorem uadd_t{M:Mem}(h:∀v:Nat,v<2147483647→(v=0→Tr (WgLive ty Wg) prog true (AtS4 prog ty Wg Ch ok j Next) (G (c.finish (.int .u64 (((v:Int)+1)*4294967296))) cs) M)∧(v≠0→Tr (WgLive ty Wg) prog true (AtS3 prog ty Wg Ch ok j Next) (G (c.finish (.int .u64 (((v:Int)+1)*4294967296))) cs) M)):
  Tr (WgLive ty Wg) prog true (AtS5 prog ty Wg Ch ok j Next) (G (Frame.enter prog 203 [.pointer (some ⟨Wg,0,none⟩), .int .u64 4294967296].toArray .normal) (c::cs)) M:=by
 obtain⟨ro,own⟩:=M
 have hJ:Closed prog true (Tr (WgLive ty Wg) prog true (AtS5 prog ty Wg Ch ok j Next)):=Tr.closed
 let main:=true
 let J:=(Tr (WgLive ty Wg) prog true (AtS5 prog ty Wg Ch ok j Next))
 refine enter_X (n:=10) func203 U U (Nl U) ?_
 have C:Ctx prog main J (bf 203 .normal):=⟨hJ,by decide⟩
 refine Xr C U U<|Ad C U U<|Xr C U U<|Rm C U U<|R.nilCheck C U U U<|Rf C 0 U U runUnderlying198 U sizeOf196<|Rm C U U<|R.addOne Dd U U func238 Dd U Kr Kr U U fun v hv=>⟨fun hv0=>?_,fun hv0=>?_⟩
 ·have hJ:Closed prog true (Tr (WgLive ty Wg) prog true (AtS4 prog ty Wg Ch ok j Next)):=Tr.closed
  have C:Ctx prog true _ (bf 203 .normal):=⟨hJ,by decide⟩
  refine Ad C U U<|X.ret C U U func203 U (by exact .tmp U .nil) ?_
  exact(h v hv).1 hv0
 ·have hJ:Closed prog true (Tr (WgLive ty Wg) prog true (AtS3 prog ty Wg Ch ok j Next)):=Tr.closed
  have C:Ctx prog true _ (bf 203 .normal):=⟨hJ,by decide⟩
  refine Ad C U U<|X.ret C U U func203 U (by exact .tmp U .nil) ?_
  exact(h v hv).2 hv0
theorem add_t{ro:RO}{own:List (Nat×Obj)}(h:Tr (WgLive ty Wg) prog true (AtGo prog ty Wg Ch ok j Next) (G (c.finish (.tuple #[])) cs) ⟨ro,own⟩):
  Tr (WgLive ty Wg) prog true (AtS6 prog ty Wg Ch ok j Next) (G (Frame.enter prog 161 [.pointer (some ⟨Wg,0,none⟩), .int .i64 1].toArray .normal) (c::cs)) ⟨ro,own⟩:=by
 have hJ:Closed prog true (Tr (WgLive ty Wg) prog true (AtS6 prog ty Wg Ch ok j Next)):=Tr.closed
 let main:=true
 let J:=(Tr (WgLive ty Wg) prog true (AtS6 prog ty Wg Ch ok j Next))
 refine enter_X (n:=117) func161 U U (Nl U) ?_
 have C:Ctx prog main J (bf 161 .normal):=⟨hJ,by decide⟩
 refine Xs C<|X.cond C.1 U (fun _=>?_) (fun h=>nomatch h)
 refine Xs C<|Xr C U U<|Rm C U U<|R.int C U U U U b_lss<|R.fixv (t:=10) (v':= .bool false) U (by rfl)<|R.done C<|X.cond C.1 U (fun h=>nomatch h) (fun _=>?_)
 refine X.skip C.1<|Xr C U U<|R.say Dd Zi U U func197 Dd U Kr Kr ?_
 have hJ5:Closed prog true (Tr (WgLive ty Wg) prog true (AtS5 prog ty Wg Ch ok j Next)):=Tr.closed
 have C:Ctx prog true _ (bf 161 .normal):=⟨hJ5,by decide⟩
 refine R.done C<|X.region C U U<|R.defer C (xs:= []) (vs:= []) U U U<|R.done C<|Xr C U U<|Ad C U U<|Xs C<|Xr C U U<|R.extPure C (v:= .bool false) U U func199 Dd U Kr Kr<|R.done C<|X.cond C.1 U (fun h=>nomatch h) (fun _=>?_)
 refine X.skip C.1<|Xr C U U<|Rm C U U<|R.nilCheck C U U U<|Rf C 0 U U runUnderlying201 U sizeOf198<|Rm C U U<|R.convInt C U U U runUnderlying3 runUnderlying196 (show IntKind.u64.wrap 1=1 by decide)<|R.shift C U U U U b_shl32<|R.enter C U U Kr U fun hok a ha=>uadd_t fun v hv=>⟨fun hv0=>?_,fun hv0=>?_⟩
 ·refine R.resume (o:=_) ha hok U ?_
  have hJ4:Closed prog true (Tr (WgLive ty Wg) prog true (AtS4 prog ty Wg Ch ok j Next)):=Tr.closed
  have C:Ctx prog true _ (bf 161 .normal):=⟨hJ4,by decide⟩
  refine Ad C U U<|Xs C<|Xr C U U<|Rm C U U<|R.int C U U U U (b_andU (flag0 hv))<|R.int C U U U U b_neq<|R.fixv (t:=46) (v':= .bool false) U (by rfl)<|Rm C U U<|R.pass C U U<|R.pass C U U<|R.pickF C U U U U<|R.done C<|X.cond C.1 U (fun h=>nomatch h) (fun _=>?_)
  refine X.skip C.1<|Xr C U U<|Rm C U U<|R.shift C U U U U (b_shr Dd Dd O)<|R.fixv (t:=53) (v':= .int .u64 ((v:Int)+1)) U (by(congr 1;show((v:Int)+1)*4294967296/4294967296=_;omega))<|R.convInt C U U U runUnderlying196 runUnderlying21 (IntWalk.i32_in _ O)<|Ad C U U<|Xr C U U<|Rm C U U<|R.int C U U U U (b_andU (wait0 hv))<|R.convInt C U U U runUnderlying196 runUnderlying199 (show IntKind.u32.wrap 0=0 by decide)<|Ad C U U<|Xs C<|Xr C U U<|Rm C U U<|Rm C U U<|R.int C U U U U b_gtr<|R.fixv (t:=60) (v':= .bool true) U (by rfl)<|R.pickT C U U U U<|Rm C U U<|Rm C U U<|Rm C U U<|R.convInt C U U U runUnderlying3 runUnderlying21 (show IntKind.i32.wrap 1=1 by decide)<|R.int C U U U U b_eql<|R.fixv (t:=66) (v':= .bool true) U (by(subst hv0;rfl))<|R.pickT C U U U U<|R.done C<|X.cond C.1 U (fun _=>?_) (fun h=>nomatch h)
  refine X.region C U U<|Rm C U U<|R.nilCheck C U U U<|Rf C 1 U U runUnderlying201 U sizeOf199<|R.toUnsafe Dd (.inr U) U U U underlying258 underlying218 Kr<|R.sayAt Dd Zi U U func204 Dd U Kr Kr U ?_
  have hJ3:Closed prog true (Tr (WgLive ty Wg) prog true (AtS3 prog ty Wg Ch ok j Next)):=Tr.closed
  have C:Ctx prog true _ (bf 161 .normal):=⟨hJ3,by decide⟩
  refine R.done C<|Xs C<|Xr C U U<|Rm C U U<|R.int C U U U U b_lss<|R.fixv (t:=74) (v':= .bool false) U (by exact congrArg Value.bool (by first|(simp;done)|(simp;omega)))<|R.done C<|X.cond C.1 U (fun h=>nomatch h) (fun _=>?_)
  refine X.skip C.1<|Xs C<|Xr C U U<|Rm C U U<|R.int C U U U U b_neq<|R.fixv (t:=77) (v':= .bool false) U (by rfl)<|Rm C U U<|R.pass C U U<|R.pass C U U<|R.pickF C U U U U<|Rm C U U<|R.pass C U U<|R.pass C U U<|R.pass C U U<|R.pass C U U<|R.pickF C U U U U<|R.done C<|X.cond C.1 U (fun h=>nomatch h) (fun _=>?_)
  refine X.skip C.1<|Xs C<|Xr C U U<|Rm C U U<|R.int C U U U U b_gtr<|R.fixv (t:=90) (v':= .bool true) U (by exact congrArg Value.bool (by first|(simp;done)|(simp;omega)))<|Rm C U U<|R.pass C U U<|R.pass C U U<|R.pickT C U U U U<|R.done C<|X.cond C.1 U (fun _=>?_) (fun h=>nomatch h)
  exact X.retSay func161 rfl .nil Zi func198 Dd rfl Kr Kr h
 ·refine R.resume (o:=_) ha hok U ?_
  have hJ3:Closed prog true (Tr (WgLive ty Wg) prog true (AtS3 prog ty Wg Ch ok j Next)):=Tr.closed
  have C:Ctx prog true _ (bf 161 .normal):=⟨hJ3,by decide⟩
  refine Ad C U U<|Xs C<|Xr C U U<|Rm C U U<|R.int C U U U U (b_andU (flag0 hv))<|R.int C U U U U b_neq<|R.fixv (t:=46) (v':= .bool false) U (by rfl)<|Rm C U U<|R.pass C U U<|R.pass C U U<|R.pickF C U U U U<|R.done C<|X.cond C.1 U (fun h=>nomatch h) (fun _=>?_)
  refine X.skip C.1<|Xr C U U<|Rm C U U<|R.shift C U U U U (b_shr Dd Dd O)<|R.fixv (t:=53) (v':= .int .u64 ((v:Int)+1)) U (by(congr 1;show((v:Int)+1)*4294967296/4294967296=_;omega))<|R.convInt C U U U runUnderlying196 runUnderlying21 (IntWalk.i32_in _ O)<|Ad C U U<|Xr C U U<|Rm C U U<|R.int C U U U U (b_andU (wait0 hv))<|R.convInt C U U U runUnderlying196 runUnderlying199 (show IntKind.u32.wrap 0=0 by decide)<|Ad C U U<|Xs C<|Xr C U U<|Rm C U U<|Rm C U U<|R.int C U U U U b_gtr<|R.fixv (t:=60) (v':= .bool true) U (by rfl)<|R.pickT C U U U U<|Rm C U U<|Rm C U U<|Rm C U U<|R.convInt C U U U runUnderlying3 runUnderlying21 (show IntKind.i32.wrap 1=1 by decide)<|R.int C U U U U b_eql<|R.fixv (t:=66) (v':= .bool false) U (by exact congrArg Value.bool (by first|(simp;done)|(simp;omega)))<|R.pickT C U U U U<|R.done C<|X.cond C.1 U (fun h=>nomatch h) (fun _=>?_)
  refine X.skip C.1<|Xs C<|Xr C U U<|Rm C U U<|R.int C U U U U b_lss<|R.fixv (t:=74) (v':= .bool false) U (by exact congrArg Value.bool (by first|(simp;done)|(simp;omega)))<|R.done C<|X.cond C.1 U (fun h=>nomatch h) (fun _=>?_)
  refine X.skip C.1<|Xs C<|Xr C U U<|Rm C U U<|R.int C U U U U b_neq<|R.fixv (t:=77) (v':= .bool false) U (by rfl)<|Rm C U U<|R.pass C U U<|R.pass C U U<|R.pickF C U U U U<|Rm C U U<|R.pass C U U<|R.pass C U U<|R.pass C U U<|R.pass C U U<|R.pickF C U U U U<|R.done C<|X.cond C.1 U (fun h=>nomatch h) (fun _=>?_)
  refine X.skip C.1<|Xs C<|Xr C U U<|Rm C U U<|R.int C U U U U b_gtr<|R.fixv (t:=90) (v':= .bool true) U (by exact congrArg Value.bool (by first|(simp;done)|(simp;omega)))<|Rm C U U<|R.pass C U U<|R.pass C U U<|R.pickT C U U U U<|R.done C<|X.cond C.1 U (fun _=>?_) (fun h=>nomatch h)
  exact X.retSay func161 rfl .nil Zi func198 Dd rfl Kr Kr h
end Go.Lg.B
namespace Go.Lg.B
open Go Go.Conc Go.Lg Go.Proofs Go.Proofs.Tryz
open Go.ConcR (KK WgAt stA smA rd wr mk)
open Go.ConcN (WgLive)
variable {v:Nat}{c:Frame}{cs:List Frame}{ro:RO}{own:List (Nat×Obj)}{M:Mem}
def cL:Code→Code
 | .seq x _=>x
 |c=>c
def cR:Code→Code
 | .seq _ y=>y
 |c=>c
def cB:Code→Code
 | .block _ c=>c
 | .loop c=>c
 |c=>c
def cO:Code→Array Oper
 | .region _ o _=>o
 |_=> #[]
noncomputable def b205:Code:=Tryz.f205.body.getD .skip
noncomputable def b165:Code:=Tryz.f165.body.getD .skip
noncomputable def waitLb:Code:=cB (cB (cR b165))
theorem flagV(hv:v<2147483648):bits .and .u64 ((v:Int)*4294967296) 2147483648=0:=by
 have:=Go.ConcN.st_flag v 0 O O
 simpa using this
theorem waitV(hv:v<2147483648):bits .and .u64 ((v:Int)*4294967296) 2147483647=0:=by
 have:=Go.ConcN.st_waiters v 0 O O
 simpa using this
theorem b_addU{P:Program}{t:TypeId}{x y:Int}(h0:0≤x+y)(h1:x+y≤18446744073709551615):∀M K,K (.int .u64 (x+y)) M→Sm P M (binOp .add t (.int .u64 x) (.int .u64 y)) K:=fun M K h=>by
 unfold binOp;simp only [ne_eq,not_true_eq_false,if_false,Op.intArith,IntWalk.u64_in _ ⟨h0,h1⟩];exact Sm.pure h
variable {ty:TypeId}{Wg Ch:Nat}
def Anch(Wg:Nat)(c:Frame)(cs:List Frame)(M0:Mem)(g:Goroutine)(M:Mem):Prop:=
 M=M0∧∃a1 a2,Holds 7 [] [(5, .pointer (some ⟨Wg,0,none⟩))] a1∧Holds 84 [] [(0, .pointer (some ⟨Wg,0,none⟩))] a2∧
  g=G (fr (bf 205 .normal) a1 [.inRegion (cO (cL (cR b205))) [3,4], .code .ret]) (fr (bf 165 .normal) a2 [.inRegion (cO (cL (cB waitLb))) [3,4], .code (cR (cB waitLb)), .inBlock 1, .inLoop waitLb, .inBlock 0]::c::cs)
theorem anch_run{M0:Mem}:∀g M,Anch Wg c cs M0 g M→g.status= .running:=by
 rintro g M ⟨_,a1,a2,_,_,rfl⟩;rfl
theorem to_anch:X (Tr (WgLive ty Wg) prog false (Anch Wg c cs ⟨ro,own⟩)) (bf 165 .normal) (c::cs) 84 [.code waitLb, .inLoop waitLb, .inBlock 0] [] [(0, .pointer (some ⟨Wg,0,none⟩))] ⟨ro,own⟩:=by
 have hJ:Closed prog false (Tr (WgLive ty Wg) prog false (Anch Wg c cs ⟨ro,own⟩)):=Tr.closed
 have C:Ctx prog false _ (bf 165 .normal):=⟨hJ,by decide⟩
 refine X.block C.1<|Xr C U U<|Rm C U U<|R.nilCheck C U U U<|Rf C 0 U U runUnderlying201 U sizeOf198<|R.weaken (σ':= [(0, .pointer (some ⟨Wg,0,none⟩)),(10, .pointer (some ⟨Wg,0,none⟩))]) ⟨U,U,trivial⟩<|R.enter C U U Kr U fun hok a ha=>enter_X (n:=7) func205 U U (Nl U) ?_
 have C:Ctx prog false _ (bf 205 .normal):=⟨hJ,by decide⟩
 refine Xr C U U<|Ad C U U<|Xr C U U<|Rm C U U<|R.nilCheck C U U U<|Rf C 0 U U runUnderlying198 U sizeOf196<|R.weaken (σ':= [(5, .pointer (some ⟨Wg,0,none⟩))]) ⟨U,trivial⟩ ?_
 intro hok1 a1 ha1
 exact Tr.stop ⟨rfl,a1,a,ha1,ha.weaken (keeps_look ⟨U,trivial⟩),rfl⟩
theorem ucas_t{vs:Nat}{An:Goroutine→Mem→Prop}(h1:Tr (WgLive ty Wg) prog false (AtWr prog ty Wg Ch) (G (c.finish (.bool true)) cs) M)(h2:Tr (WgLive ty Wg) prog false An (G (c.finish (.bool false)) cs) M):
  Tr (WgLive ty Wg) prog false (AtW2 prog ty Wg Ch An vs) (G (Frame.enter prog 211 [.pointer (some ⟨Wg,0,none⟩), .int .u64 ((vs:Int)*4294967296), .int .u64 ((vs:Int)*4294967296+1)].toArray .normal) (c::cs)) M:=by
 obtain⟨ro,own⟩:=M
 have hJ:Closed prog false (Tr (WgLive ty Wg) prog false (AtW2 prog ty Wg Ch An vs)):=Tr.closed
 let main:=false
 let J:=(Tr (WgLive ty Wg) prog false (AtW2 prog ty Wg Ch An vs))
 refine enter_X (n:=13) func211 U U (Nl U) ?_
 have C:Ctx prog main J (bf 211 .normal):=⟨hJ,by decide⟩
 refine Xr C U U<|Ad C U U<|Xr C U U<|Rm C U U<|R.nilCheck C U U U<|Rf C 0 U U runUnderlying198 U sizeOf196<|Rm C U U<|Rm C U U<|R.cas Dd U U func241 Dd U Kr Kr U U U ?_ ?_
 ·have hJ:Closed prog false (Tr (WgLive ty Wg) prog false (AtWr prog ty Wg Ch)):=Tr.closed
  have C:Ctx prog false _ (bf 211 .normal):=⟨hJ,by decide⟩
  refine Ad C U U<|X.ret C U U func211 U (by exact .tmp U .nil) ?_
  exact h1
 ·have hJ:Closed prog false (Tr (WgLive ty Wg) prog false An):=Tr.closed
  have C:Ctx prog false _ (bf 211 .normal):=⟨hJ,by decide⟩
  refine Ad C U U<|X.ret C U U func211 U (by exact .tmp U .nil) ?_
  exact h2
theorem uload4_t(h1:Tr (WgLive ty Wg) prog false (AtKe prog ty Wg Ch) (G (c.finish (.int .u64 0)) cs) M):
  Tr (WgLive ty Wg) prog false (AtW4 prog ty Wg Ch) (G (Frame.enter prog 205 [.pointer (some ⟨Wg,0,none⟩)].toArray .normal) (c::cs)) M:=by
 obtain⟨ro,own⟩:=M
 have hJ:Closed prog false (Tr (WgLive ty Wg) prog false (AtW4 prog ty Wg Ch)):=Tr.closed
 let main:=false
 let J:=(Tr (WgLive ty Wg) prog false (AtW4 prog ty Wg Ch))
 refine enter_X (n:=7) func205 U U (Nl U) ?_
 have C:Ctx prog main J (bf 205 .normal):=⟨hJ,by decide⟩
 refine Xr C U U<|Ad C U U<|Xr C U U<|Rm C U U<|R.nilCheck C U U U<|Rf C 0 U U runUnderlying198 U sizeOf196<|R.loadW4 Dd U U func239 Dd U Kr Kr U ?_
 have hJ:Closed prog false (Tr (WgLive ty Wg) prog false (AtKe prog ty Wg Ch)):=Tr.closed
 have C:Ctx prog false _ (bf 205 .normal):=⟨hJ,by decide⟩
 refine Ad C U U<|X.ret C U U func205 U (by exact .tmp U .nil) ?_
 exact h1
theorem anch_w1(hcl:Tr (WgLive ty Wg) prog false (AtCl prog Ch) (G (c.finish (.tuple #[])) cs) ⟨ro,own⟩):∀g M,Anch Wg c cs ⟨ro,own⟩ g M→AtW1 prog ty Wg Ch (Anch Wg c cs ⟨ro,own⟩) g M:=by
 rintro g M ⟨rfl,a1,a2,ha1,ha2,rfl⟩
 have hok5:dstsOk 7 (cO (cL (cR b205))).toList=true:=by kernel_rfl
 have hok1:dstsOk 84 (cO (cL (cB waitLb))).toList=true:=by kernel_rfl
 refine atW1 Dd hok5 ha1 U U func239 Dd U Kr Kr U fun v hv=>⟨fun hv0=>?_,fun hv0=>?_⟩
 ·have hJ:Closed prog false (Tr (WgLive ty Wg) prog false (AtKe prog ty Wg Ch)):=Tr.closed
  have C:Ctx prog false _ (bf 205 .normal):=⟨hJ,by decide⟩
  refine Ad C U U<|X.ret C U U func205 U (by exact .tmp U .nil)<|R.resume (o:=_) ha2 hok1 U ?_
  have C:Ctx prog false _ (bf 165 .normal):=⟨hJ,by decide⟩
  refine Ad C U U<|Xr C U U<|Rm C U U<|R.shift C U U U U (b_shr Dd Dd O)<|R.fixv (t:=13) (v':= .int .u64 (v:Int)) U (by(congr 1;show(v:Int)*4294967296/4294967296=_;omega))<|R.convInt C U U U runUnderlying196 runUnderlying21 (IntWalk.i32_in _ O)<|Ad C U U<|Xr C U U<|Rm C U U<|R.int C U U U U (b_andU (waitV hv))<|R.convInt C U U U runUnderlying196 runUnderlying199 (show IntKind.u32.wrap 0=0 by decide)<|Ad C U U<|Xs C<|Xr C U U<|Rm C U U<|R.int C U U U U b_eql<|R.fixv (t:=19) (v':= .bool true) U (by(subst hv0;rfl))<|R.done C<|X.cond C.1 U (fun _=>?_) (fun h=>nomatch h)
  refine Xs C<|X.cond C.1 U (fun _=>?_) (fun h=>nomatch h)
  refine Xr C U U<|R.say Dd Zi U U func198 Dd U Kr Kr ?_
  have hJq:Closed prog false (Tr (WgLive ty Wg) prog false (AtAq prog ty Wg Ch)):=Tr.closed
  have C:Ctx prog false _ (bf 165 .normal):=⟨hJq,by decide⟩
  refine R.done C<|X.region C U U<|Rm C U U<|R.toUnsafe Dd (.inl U) U U U underlying252 underlying218 Kr<|R.sayAt Dd Zi U U func209 Dd U Kr Kr U ?_
  have hJc:Closed prog false (Tr (WgLive ty Wg) prog false (AtCl prog Ch)):=Tr.closed
  have C:Ctx prog false _ (bf 165 .normal):=⟨hJc,by decide⟩
  refine R.done C<|Xs C<|Xr C U U<|Rm C U U<|R.int C U U U U b_eql<|R.fixv (t:=25) (v':= .bool true) U (by rfl)<|Rm C U U<|Rm C U U<|R.int C U U U U (b_andU (flagV hv))<|R.int C U U U U b_neq<|R.fixv (t:=29) (v':= .bool false) U (by rfl)<|R.pickT C U U U U<|Rm C U U<|R.pass C U U<|R.pass C U U<|R.pickF C U U U U<|R.done C<|X.cond C.1 U (fun h=>nomatch h) (fun _=>?_)
  refine X.skip C.1<|X.ret C U U func165 U (by exact .nil) ?_
  exact hcl
 ·have hJ:Closed prog false (Tr (WgLive ty Wg) prog false (AtW2 prog ty Wg Ch (Anch Wg c cs ⟨ro,own⟩) v)):=Tr.closed
  have C:Ctx prog false _ (bf 205 .normal):=⟨hJ,by decide⟩
  refine Ad C U U<|X.ret C U U func205 U (by exact .tmp U .nil)<|R.resume (o:=_) ha2 hok1 U ?_
  have C:Ctx prog false _ (bf 165 .normal):=⟨hJ,by decide⟩
  refine Ad C U U<|Xr C U U<|Rm C U U<|R.shift C U U U U (b_shr Dd Dd O)<|R.fixv (t:=13) (v':= .int .u64 (v:Int)) U (by(congr 1;show(v:Int)*4294967296/4294967296=_;omega))<|R.convInt C U U U runUnderlying196 runUnderlying21 (IntWalk.i32_in _ O)<|Ad C U U<|Xr C U U<|Rm C U U<|R.int C U U U U (b_andU (waitV hv))<|R.convInt C U U U runUnderlying196 runUnderlying199 (show IntKind.u32.wrap 0=0 by decide)<|Ad C U U<|Xs C<|Xr C U U<|Rm C U U<|R.int C U U U U b_eql<|R.fixv (t:=19) (v':= .bool false) U (by exact congrArg Value.bool Zo)<|R.done C<|X.cond C.1 U (fun h=>nomatch h) (fun _=>?_)
  refine X.skip C.1<|Xr C U U<|Rm C U U<|R.nilCheck C U U U<|Rf C 0 U U runUnderlying201 U sizeOf198<|Rm C U U<|Rm C U U<|R.int C U U U U (b_addU O O)<|R.enter C U U Kr U fun hok a ha=>ucas_t (vs:=v) ?_ ?_
  ·refine R.resume (o:=_) ha hok U ?_
   have hJ:Closed prog false (Tr (WgLive ty Wg) prog false (AtWr prog ty Wg Ch)):=Tr.closed
   have C:Ctx prog false _ (bf 165 .normal):=⟨hJ,by decide⟩
   refine R.done C<|X.cond C.1 U (fun _=>?_) (fun h=>nomatch h)
   refine Xs C<|Xr C U U<|Rm C U U<|Rm C U U<|R.int C U U U U b_eql<|R.fixv (t:=51) (v':= .bool true) U (by rfl)<|R.pickT C U U U U<|R.done C<|X.cond C.1 U (fun _=>?_) (fun h=>nomatch h)
   refine X.region C U U<|Rm C U U<|R.nilCheck C U U U<|Rf C 1 U U runUnderlying201 U sizeOf199<|R.toUnsafe Dd (.inr U) U U U underlying258 underlying218 Kr<|R.sayAt Dd Zi U U func212 Dd U Kr Kr U ?_
   have hJ:Closed prog false (Tr (WgLive ty Wg) prog false (AtW3 prog ty Wg Ch)):=Tr.closed
   have C:Ctx prog false _ (bf 165 .normal):=⟨hJ,by decide⟩
   refine R.done C<|Xr C U U<|Ad C U U<|Xs C<|Xr C U U<|Rm C U U<|R.int C U U U U (b_andU (flagV hv))<|R.int C U U U U b_neq<|R.fixv (t:=60) (v':= .bool false) U (by rfl)<|Rm C U U<|R.pass C U U<|R.pickF C U U U U<|R.done C<|X.cond C.1 U (fun h=>nomatch h) (fun _=>?_)
   refine X.skip C.1<|Xr C U U<|Rm C U U<|R.nilCheck C U U U<|Rf C 1 U U runUnderlying201 U sizeOf199<|Rm C U U<|R.sema Dd U U func213 Dd U Kr Kr U ?_
   have hJ:Closed prog false (Tr (WgLive ty Wg) prog false (AtW4 prog ty Wg Ch)):=Tr.closed
   have C:Ctx prog false _ (bf 165 .normal):=⟨hJ,by decide⟩
   refine R.done C<|Xr C U U<|Rm C U U<|R.nilCheck C U U U<|Rf C 0 U U runUnderlying201 U sizeOf198<|R.enter C U U Kr U fun hok2 a3 ha3=>uload4_t<|R.resume (o:=_) ha3 hok2 U ?_
   have hJ:Closed prog false (Tr (WgLive ty Wg) prog false (AtKe prog ty Wg Ch)):=Tr.closed
   have C:Ctx prog false _ (bf 165 .normal):=⟨hJ,by decide⟩
   refine R.int C U U U U b_neq<|R.fixv (t:=77) (v':= .bool false) U (by rfl)<|Ad C U U<|Xs C<|X.cond C.1 U (fun _=>?_) (fun h=>nomatch h)
   refine Xr C U U<|R.say Dd Zi U U func198 Dd U Kr Kr ?_
   have hJq:Closed prog false (Tr (WgLive ty Wg) prog false (AtAq prog ty Wg Ch)):=Tr.closed
   have C:Ctx prog false _ (bf 165 .normal):=⟨hJq,by decide⟩
   refine R.done C<|X.region C U U<|Rm C U U<|R.toUnsafe Dd (.inl U) U U U underlying252 underlying218 Kr<|R.sayAt Dd Zi U U func209 Dd U Kr Kr U ?_
   have hJc:Closed prog false (Tr (WgLive ty Wg) prog false (AtCl prog Ch)):=Tr.closed
   have C:Ctx prog false _ (bf 165 .normal):=⟨hJc,by decide⟩
   refine R.done C<|Xs C<|Xr C U U<|Rm C U U<|R.done C<|X.cond C.1 U (fun h=>nomatch h) (fun _=>?_)
   refine X.skip C.1<|X.ret C U U func165 U (by exact .nil) ?_
   exact hcl
  ·refine R.resume (o:=_) ha hok U ?_
   have hJ:Closed prog false (Tr (WgLive ty Wg) prog false (Anch Wg c cs ⟨ro,own⟩)):=Tr.closed
   have C:Ctx prog false _ (bf 165 .normal):=⟨hJ,by decide⟩
   refine R.done C<|X.cond C.1 U (fun h=>nomatch h) (fun _=>?_)
   refine X.skip C.1<|X.inBlock C.1<|X.inLoop hJ<|X.weaken ?_ to_anch
   exact⟨U,trivial⟩
theorem wait_t:Tr (WgLive ty Wg) prog false (AtKd prog ty Wg (Anch Wg c cs ⟨ro,own⟩)) (G (Frame.enter prog 165 [.pointer (some ⟨Wg,0,none⟩)].toArray .normal) (c::cs)) ⟨ro,own⟩:=by
 have hJ:Closed prog false (Tr (WgLive ty Wg) prog false (AtKd prog ty Wg (Anch Wg c cs ⟨ro,own⟩))):=Tr.closed
 let main:=false
 let J:=(Tr (WgLive ty Wg) prog false (AtKd prog ty Wg (Anch Wg c cs ⟨ro,own⟩)))
 refine enter_X (n:=84) func165 U U (Nl U) ?_
 have C:Ctx prog main J (bf 165 .normal):=⟨hJ,by decide⟩
 refine Xs C<|X.cond C.1 U (fun _=>?_) (fun h=>nomatch h)
 refine X.region C U U<|R.say Dd Zi U U func197 Dd U Kr Kr ?_
 have hJ2:Closed prog false (Tr (WgLive ty Wg) prog false (Anch Wg c cs ⟨ro,own⟩)):=Tr.closed
 have C:Ctx prog false _ (bf 165 .normal):=⟨hJ2,by decide⟩
 refine R.done C<|X.block C.1<|X.loop hJ2<|X.weaken ?_ to_anch
 exact⟨U,trivial⟩
end Go.Lg.B
namespace Go.Lg
open Go Go.Conc
open Go.ConcR (KK WgAt stA smA rd wr mk Payload)
open Go.ConcN (WgLive)
variable {f:FuncId}{fn:Func}{e t:TypeId}{dir:ChanDir}{a:Act}{cap:List Value}{v:Value}
def botF(P:Program):Frame:={ (default:Frame) with fn:=P.funcs.size,defers:= [],mode:= .panicking [goexitEntry] }
section
variable {P:Program}
theorem born_X{J:Goroutine→Mem→Prop}{c:Code}{caps:List Value}{n:Nat}{M:Mem}(hJ:Closed P false J)(hf:P.funcs[f]? =some fn)(hname:(fn.name== "runtime.NumGoroutine")=false) (hb:fn.body=some c) (hn:fn.ntmps=n) (hl:caps.length≤n)
  (h:X J (bf f .deferred) [botF P] n [.code c] [] (argSlots 0 caps) M):J (born P ⟨.fn (.func f) caps.toArray, #[]⟩) M:=by
 refine hJ.ctl (g':=G (Frame.enter P f caps.toArray .deferred) [botF P]) U (fun w=>?_) (enter_X hf hb hn hl h)
 have hname':¬fn.name= "runtime.NumGoroutine" :=by simpa using hname
 simp [born,stepG,unwind,callDeferred,invoke,callFunc,hf,hname',hb,seen,GStep.after,G,botF]
theorem quits_born{T:Array Value}{todo:List Item}(hf:P.funcs[f]? =some fn)(hr:fn.results= #[]):QuitsD P 2 0 (G {fr (bf f .deferred) ⟨T, []⟩ todo with mode:= .returning} [botF P]):=by
 refine QuitsD.ctl (g':=G (botF P) []) U (fun w=>?_) ?_
 ·simp [G,stepG,unwind,doReturn,results,fr,bf,hf,hr,seen,GStep.after,goexitEntry,botF]
 refine QuitsD.ctl (g':={G (botF P) [] with status:= .finished}) U (fun w=>?_) ⟨rfl,rfl⟩
 simp [G,stepG,unwind,botF,goexitEntry,Frame.catches]
 rfl
end
section
variable [Payload] {P:Program}{ty:TypeId}{Wg Ch:Nat}{okk:List Value→RO→Prop}{sent:List Value}
def Wtr(P:Program)(ty:TypeId)(Wg Ch:Nat)(okk:List Value→RO→Prop)(sent:List Value)(g:Goroutine)(M:Mem):Prop:= ∃r,WT P ty Wg Ch okk r sent g M
theorem Wtr.closed:Closed P false (Wtr P ty Wg Ch okk sent) where
 step g M hs h:=by
  have h':∀w,∃r,Sat M w→∃g' w' es M',stepG P false g w= .go g' w' es∧Good M w w' es M'∧WT P ty Wg Ch okk r sent g' M':=fun w=>
   Classical.byCases (fun hw:Sat M w=>let⟨g',w',es,M',h1,h2,r,h3⟩:=h w hw;⟨r,fun _=>⟨g',w',es,M',h1,h2,h3⟩⟩) (fun hn=>⟨.fin,fun hw=>absurd hw hn⟩)
  exact⟨.step fun w=>Classical.choose (h' w),hs,fun w hw=>Classical.choose_spec (h' w) hw⟩
 ghost g M h:=by
  have h':∀w,∃r,Sat M w→∃M',Good M w w #[] M'∧WT P ty Wg Ch okk r sent g M':=fun w=>
   Classical.byCases (fun hw:Sat M w=>let⟨M',h2,r,h3⟩:=h w hw;⟨r,fun _=>⟨M',h2,h3⟩⟩) (fun hn=>⟨.fin,fun hw=>absurd hw hn⟩)
  exact⟨.ghost fun w=>Classical.choose (h' w),fun w hw=>Classical.choose_spec (h' w) hw⟩
end
section
variable {P:Program}{main:Bool}{J:Goroutine→Mem→Prop}{b:Frame}{cs:List Frame}{n:Nat}{ds:List Deferred}{σ₀ σ:Slots}{M:Mem}{k:List Item}{ops:Array Oper}{i:Nat}{L:List Nat}{Ql:List Pn}
def lastB(ops:Array Oper)(i:Nat):Bool:=(List.range ops.size).all fun j=>Nat.beq j i||((masks ops).getD i 0).testBit j
theorem D.last(hok:drawOk ops=true)(hc:(onlyB ops L [i] && !allB ops L)=true)(hl:lastB ops i=true)(h:∀σr,Ag ops i σ σr→R J b cs n ops [i] k ds σr M):D J b cs n ops σ₀ L Ql k ds σ M:=fun Qp I f1 f2 X σr l Rl hlin=>by
 simp only [Bool.and_eq_true,Bool.not_eq_true'] at hc
 have hD:=Draw.of hok
 refine run_pending hD I (fun p hp=>hp.elim (fun h=>f1 p h M) (QFs.mem f2 p)) (fun X σr Rl hX=>?_) (fun i' X σr l Rl hi hn hd hlin=>?_) l X σr Rl hlin
 ·exfalso
  have:allB ops L=true:=List.all_eq_true.2 fun i hi=>memB_mem.2 (Rl.sub i (hX i (List.mem_range.1 hi)))
  rw [this] at hc;exact absurd hc.2 Zi
 ·have hdL:∀j∈depsAt ops i',j∈L:=fun j hj=>Rl.sub j (hd j hj)
  have hic:=onlyB_of hc.1 hi hn hdL
  simp only [List.mem_singleton] at hic
  subst hic
  have hall:∀j,j<ops.size→j∈i'::X:=fun j hj=>by
   have:=List.all_eq_true.1 hl j (List.mem_range.2 hj)
   simp only [Bool.or_eq_true] at this
   rcases this with h|h
   ·exact List.mem_cons.2 (.inl (Nat.eq_of_beq_eq_true h))
   ·exact List.mem_cons_of_mem _ ((masks_below h).mem Rl.down hd)
  have he:l= []:=by
   cases hlin with
   |nil=>rfl
   |cons h1 h2 _ _=>exact absurd (hall _ h1) h2
  subst he
  exact h σr (Rl.ag' hD I hn hd)
end
section
variable {P:Program}{main:Bool}{J:Goroutine→Mem→Prop}{f0:FuncId}{kind:CallKind}{cs:List Frame}{n:Nat}{ds:List Deferred}{σ:Slots}{ro:RO}{own c o:List (Nat×Obj)}{k:List Item}{ops:Array Oper}{i:Nat}{rest:List Nat}
 {dst:Option Nat} {ty':TypeId} {pos:String} {af:Array Edge} {g:Option (Nat×Bool)} {f:FuncId} {x:Operand} {ats:Array TypeId}
theorem R.makeChan{b:Frame}(C:Ctx P main J b){d:Nat}{inf:TypeInfo}(ho:ops[i]? =some ⟨some d, .makeChan t x,ty',pos,af,g⟩)(hg:wantedS ops σ ⟨some d, .makeChan t x,ty',pos,af,g⟩=some true)(hx:ev σ x=some (.int .i64 0))
  (ht:∀w,Sem.run P (Go.underlying t) w= .ok (.chan dir e) w) (hi:P.info? e=some inf)
  (h:∀p,R J b cs n ops rest k ds ((d, .chan (some p))::σ) ⟨ro,(p, .chan 0 #[] false 0 0 false)::own⟩):R J b cs n ops (i::rest) k ds σ ⟨ro,own⟩:=
 R.op C ho hg rfl fun a ha=>by
  unfold execOp;simp only [ha.ev hx]
  refine ex_v ?_
  unfold Instr.makeChan
  refine Sm.bind<|Sm.pure<|Sm.bind (Sm.underlying ht ?_)
  refine Sm.bind (Sm.typeInfo (k:=inf) (fun w=>by simp [typeInfo,hi]) ?_)
  have hz:¬((0:Int)<0∨(0:Int)>IntKind.i64.max∨(inf.bytes:Int)*0>2^48-112):=by
   rw [show IntKind.i64.max=9223372036854775807 by decide];simp
  rw [if_neg hz]
  exact Sm.bind (Sm.newObj fun p _ _=>Sm.pure (h p))
theorem stepG_goF{b:Frame}{w:World}{cap:Array Value}(ho:ops[i]? =some ⟨dst, .go ⟨.value x, #[],ats⟩,ty',pos,af,g⟩)(hw:Region.wanted ⟨dst, .go ⟨.value x, #[],ats⟩,ty',pos,af,g⟩ (yielded ops a.tmps)=true)(hk:b.kind≠ .early)(hx:a.eval x= .func (.func f) #[] cap):
  stepG P main (G (b.at a (.inRegion ops (i::rest)::k)) cs) w= .spawn (G (b.at (a.put dst undef) (.inRegion ops rest::k)) cs) (born P ⟨.fn (.func f) cap, #[]⟩) w #[]:=by
 have hr:(execOp a.eval ⟨dst, .go ⟨.value x, #[],ats⟩,ty',pos,af,g⟩).run P w= .ok (.spawn ⟨.fn (.func f) cap, #[]⟩) w:=by
  unfold execOp
  simp [resolve,Deferred.ofValue,hx]
 have he:(execOp a.eval ⟨dst, .go ⟨.value x, #[],ats⟩,ty',pos,af,g⟩).events P w #[]= #[]:=by
  unfold execOp
  simp [resolve,Deferred.ofValue,hx]
 have h:=stepG_spawn (P:=P) (main:=main) (b:=b) (k:=k) (cs:=cs) (rest:=rest) (f:= .func f) (c:=cap) ho hw hk hr rfl
 rw [listed_none he] at h
 exact h
end
section
variable [Payload] {P:Program}{ty:TypeId}{Wg Ch N:Nat}{ok:Nat→List Value→RO→Prop}{okk:List Value→RO→Prop}{sent:List Value}{j:Nat}{Next:Goroutine→Mem→Prop}{Anch:Goroutine→Mem→Prop}{At:List Value→Goroutine→Mem→Prop}{J:Goroutine→Mem→Prop}{f0:FuncId}{kind:CallKind}{cs:List Frame}{n:Nat}{ds:List Deferred}{σ:Slots}{ro:RO}{own c o:List (Nat×Obj)}{k:List Item}{ops:Array Oper}{i:Nat}{rest:List Nat}
 {dst:Option Nat} {ty':TypeId} {pos:String} {af:Array Edge} {g:Option (Nat×Bool)} {f:FuncId} {x y:Operand} {ats:Array TypeId}
theorem R.goW(hk:kind≠ .early)(ho:ops[i]? =some ⟨dst, .go ⟨.value x, #[],ats⟩,ty',pos,af,g⟩)(hg:wantedS ops σ ⟨dst, .go ⟨.value x, #[],ats⟩,ty',pos,af,g⟩=some true)(hx:ev σ x=some (.func (.func f) #[] cap.toArray))(hown:own.Perm (c++o))
  (hc:Wtr P ty Wg Ch (ok j) [] (born P ⟨.fn (.func f) cap.toArray, #[]⟩) ⟨ro,c⟩) (h:R (Tr (WgLive ty Wg) P true Next) (bf f0 kind) cs n ops rest k ds (putS dst undef σ) ⟨ro,o⟩):R (Tr (WgLive ty Wg) P true (AtGo P ty Wg Ch ok j Next)) (bf f0 kind) cs n ops (i::rest) k ds σ ⟨ro,own⟩:=by
 refine R.perm (main:=true) Tr.closed hown fun hok a ha=>Tr.stop ⟨rfl,_,_,ro,c,o,rfl,fun w=>stepG_goF ho (wanted_of ha (dsts_of hok) hg) hk (ha.ev hx),rfl,hc,h hok _ (ha.putS (dst_of hok ho) _)⟩
omit [Payload] in
theorem R.goC(hk:kind≠ .early)(ho:ops[i]? =some ⟨dst, .go ⟨.value x, #[],ats⟩,ty',pos,af,g⟩)(hg:wantedS ops σ ⟨dst, .go ⟨.value x, #[],ats⟩,ty',pos,af,g⟩=some true)(hx:ev σ x=some (.func (.func f) #[] cap.toArray))(hown:own.Perm (c++o))
  (hc:Tr (WgLive ty Wg) P false (AtKd P ty Wg Anch) (born P ⟨.fn (.func f) cap.toArray, #[]⟩) ⟨ro,c⟩) (h:R (Tr (WgLive ty Wg) P true (At [])) (bf f0 kind) cs n ops rest k ds (putS dst undef σ) ⟨ro,o⟩):R (Tr (WgLive ty Wg) P true (AtGoC P ty Wg Anch At)) (bf f0 kind) cs n ops (i::rest) k ds σ ⟨ro,own⟩:=by
 refine R.perm (main:=true) Tr.closed hown fun hok a ha=>Tr.stop ⟨rfl,_,_,ro,c,o,rfl,fun w=>stepG_goF ho (wanted_of ha (dsts_of hok) hg) hk (ha.ev hx),rfl,hc,h hok _ (ha.putS (dst_of hok ho) _)⟩
theorem R.send{M:Mem}(hk:kind≠ .early)(ho:ops[i]? =some ⟨dst, .send x y,ty',pos,af,g⟩)(hg:wantedS ops σ ⟨dst, .send x y,ty',pos,af,g⟩=some true)(hx:ev σ x=some (.chan (some Ch)))(hy:ev σ y=some v)(hv:oneCell v=true)
  (h:R (Wtr P ty Wg Ch okk [v]) (bf f0 kind) cs n ops rest k ds (putS dst undef σ) M):R (Wtr P ty Wg Ch okk []) (bf f0 kind) cs n ops (i::rest) k ds σ M:=fun hok a ha=>by
 obtain⟨r,hr⟩:=h hok _ (ha.putS (dst_of hok ho) undef)
 refine⟨.send r,rfl,rfl,v, .tuple #[],hv,fun w=>?_, ?_⟩
 ·have h1:(execOp a.eval ⟨dst, .send x y,ty',pos,af,g⟩).run P w= .ok (.comm #[scase Ch v (.tuple #[])] true .send) w:=by
   unfold execOp
   simp [ha.ev hx,ha.ev hy,scase]
  have h2:(execOp a.eval ⟨dst, .send x y,ty',pos,af,g⟩).events P w #[]= #[]:=by
   unfold execOp
   simp
  have:=stepG_comm (P:=P) (main:=false) (b:=bf f0 kind) (k:=k) (cs:=cs) (rest:=rest) ho (wanted_of ha (dsts_of hok) hg) hk h1
  rw [listed_none h2] at this
  exact this
 ·have e:Go.Conc.served (G (fr (bf f0 kind) a (.inRegion ops (i::rest)::k)) cs) undef=G (fr (bf f0 kind) (a.put dst undef) (.inRegion ops rest::k)) cs:=by
   have:=Frame.finish_at (b:=bf f0 kind) (a:=a) (ops:=ops) (i:=i) (rest:=rest) (k:=k) undef
   rw [ho] at this
   simp only [Go.Conc.served,G,fr_at]
   rw [this]
   rfl
  rw [e]
  exact hr
omit [Payload] in
theorem recvAt{z:Value}{rs:List Value}(hk:kind≠ .early)(hok:dstsOk n ops.toList=true)(ha:Holds n ds σ a)(ho:ops[i]? =some ⟨dst, .recv t x true,ty',pos,af,g⟩)(hg:wantedS ops σ ⟨dst, .recv t x true,ty',pos,af,g⟩=some true)(hx:ev σ x=some (.chan (some Ch)))
  (ht:∀w,Sem.run P (Go.underlying t) w= .ok (.chan dir e) w) (hz:∀w,Sem.run P (Go.zeroValue e) w= .ok z w)
  (h1:∀v,rs.length<N→oneCell v=true→R (Tr (WgLive ty Wg) P true (At (rs++ [v]))) (bf f0 kind) cs n ops rest k ds (putS dst (.tuple #[v, .bool true]) σ) ⟨ro,own⟩)
  (h2:∀ro',ro.le ro'→AllSent N ok rs ro'→R J (bf f0 kind) cs n ops rest k ds (putS dst (.tuple #[z, .bool false]) σ) ⟨ro',own⟩):
  Recv P ty Wg Ch N ok J At rs (G (fr (bf f0 kind) a (.inRegion ops (i::rest)::k)) cs) ⟨ro,own⟩:=by
 have e:∀v,Go.Conc.served (G (fr (bf f0 kind) a (.inRegion ops (i::rest)::k)) cs) v=G (fr (bf f0 kind) (a.put dst v) (.inRegion ops rest::k)) cs:=fun v=>by
  have:=Frame.finish_at (b:=bf f0 kind) (a:=a) (ops:=ops) (i:=i) (rest:=rest) (k:=k) v
  rw [ho] at this
  simp only [Go.Conc.served,G,fr_at]
  rw [this]
  rfl
 refine⟨rfl,z,fun w=>?_,fun v hrl hv=>?_,fun ro' hl hs=>?_⟩
 ·have k1:(execOp a.eval ⟨dst, .recv t x true,ty',pos,af,g⟩).run P w= .ok (.comm #[rcase Ch z] true (.recv true)) w:=by
   unfold execOp
   simp [ht w,hz w,ha.ev hx,rcase]
  have k2:(execOp a.eval ⟨dst, .recv t x true,ty',pos,af,g⟩).events P w #[]= #[]:=by
   unfold execOp
   simp [ht w,events_underlying,Result.evThen]
  have:=stepG_comm (P:=P) (main:=true) (b:=bf f0 kind) (k:=k) (cs:=cs) (rest:=rest) ho (wanted_of ha (dsts_of hok) hg) hk k1
  rw [listed_none k2] at this
  exact this
 ·rw [e];exact h1 v hrl hv hok _ (ha.putS (dst_of hok ho) _)
 ·rw [e];exact h2 ro' hl hs hok _ (ha.putS (dst_of hok ho) _)
theorem R.closeQ(hq:(P.funcs[f0]?).any (·.norace)=false)(hf:P.funcs[f0]? =some fn)(hr:fn.results= #[])(hmw:∀a,mayWake P (G (fr (bf f0 .deferred) a (.inRegion ops [i]:: [])) [botF P])=true)(ho:ops[i]? =some ⟨dst, .call ⟨.builtin .close, #[x],ats⟩,ty',pos,af,g⟩)(hg:wantedS ops σ ⟨dst, .call ⟨.builtin .close, #[x],ats⟩,ty',pos,af,g⟩=some true)(hx:ev σ x=some (.chan (some Ch))):
  R (Tr (WgLive ty Wg) P false (AtCl P Ch)) (bf f0 .deferred) [botF P] n ops [i] [] [] σ ⟨ro,own⟩:=fun hok a ha=>
 Tr.stop ⟨rfl,hmw a,_,rfl,fun w s r tm hc=>stepG_close (P:=P) (main:=false) (b:=bf f0 .deferred) (kk:= []) (cs:= [botF P]) (w:=w) (rest:= []) ho (wanted_of ha (dsts_of hok) hg) (by simp [bf]) rfl (ha.ev hx) hc hq,4,by
  have hd:(a.put dst (.tuple #[])).defers= []:=by rw [←ha.defers];cases dst<;>rfl
  obtain⟨T,hT⟩:∃T,a.put dst (.tuple #[])=⟨T, []⟩:=⟨(a.put dst (.tuple #[])).tmps,by cases hh:a.put dst (.tuple #[]);simp only [hh] at hd;subst hd;rfl⟩
  rw [hT]
  refine QuitsD.ctl (g':=G (fr (bf f0 .deferred) ⟨T, []⟩ []) [botF P]) U (fun w=>?_) ?_
  ·exact stepG_region_end
  refine QuitsD.ctl (g':=G {fr (bf f0 .deferred) ⟨T, []⟩ [] with mode:= .returning} [botF P]) U (fun w=>end_step U w) ?_
  exact quits_born hf hr⟩
theorem X.doneW{L:Go.Conc.Lib.WgLink}(H:Go.Conc.Lib.WgLib P L)(hf:P.funcs[f0]? =some fn)(hr:fn.results= #[]){C:Nat}(hok:okk sent ro):
  X (Wtr P L.tWg Wg Ch okk sent) (bf f0 .deferred) [botF P] n [] [dcall L.done #[.pointer (some ⟨Wg,0,none⟩)]] σ ⟨ro, [(C, .cells #[v] Payload.ety (0,0))]⟩:=fun a ha=>by
 refine(Wtr.closed (okk:=okk)).ctl U (fun w=>end_step U w)<|(Wtr.closed (okk:=okk)).ctl U (fun w=>stepG_unwind_enter (P:=P) (b:=bf f0 .deferred) (a:=a) (todo:= []) (cs:= [botF P]) ha.defers H.f_done (Go.ConcR.Gen.nm_done L) U)<|⟨.fin,hok,C,v, #[v],23,rfl,fun w hs hl=> .r0 ?_⟩
 exact Go.ConcN.Gen.doneN H rfl (quits_born hf hr) w ⟨hl,by
  have:=hs.own C (.cells #[v] Payload.ety (0,0)) Zi
  simp [Go.ConcN.Has,World.cell?,this]⟩
end
end Go.Lg
