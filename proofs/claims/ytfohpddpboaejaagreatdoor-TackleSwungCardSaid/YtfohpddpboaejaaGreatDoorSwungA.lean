/-
  It is proved that the given function answers true for every input, whatever is scheduled: the statement Swung of the seat. Conditions: none but those of the given statement itself.
-/
import Derived.Test.YtfohpddpboaejaaGreatDoorKF
import Derived.Test.YtfohpddpboaejaaGreatDoorProg
import Derived.WideShapes
import Derived.ChangeShapes
import Derived.Conc.Holds
set_option maxRecDepth 100000
set_option maxHeartbeats 2000000
set_option linter.all false
namespace Go.Lg
open Go
theorem Bv{a c:Bool}(h:a=c):Value.bool a=Value.bool c:=congrArg _ h
end Go.Lg
namespace Go.Lg.B
open Go Go.Conc Go.Lg Go.Proofs Go.Proofs.Tryz
def nothing:Bk:=⟨0, [], [], [], []⟩
def newB(b:Bk)(h:Int):Bk:=if h=0 then b else nothing
theorem noBk_v(ro:RO):BkV ro noBk nothing:=⟨_,_,_,_,rfl, .nil,⟨[], .nil,rfl,fun z hz=>by cases hz⟩, .nil, .nil⟩
theorem NewV.bk{ro:RO}{b:Bk}{h:Int}{w:Value}(hn:NewV ro b h w):∃v,BkV ro v (newB b h)∧w= .tuple [v, .int .i64 h].toArray:=by
 rcases hn with⟨h0,rfl⟩|⟨rfl,v,hv,rfl⟩
 ·exact⟨_,by rw [newB,if_neg h0];exact noBk_v ro,rfl⟩
 ·exact⟨v,hv,rfl⟩
theorem fewer_borne{b:Bk}{i:Int}(h:0≤i∧i<b.ps.length)(y:Rc):Fewer b (b.borne i.toNat ((b.part i).r.meet y)):=
 ⟨rfl,rfl,rfl,List.length_modify ..,borne_sheaves b _ _,by rw [cases_borne h.1 h.2];exact List.filter_sublist⟩
structure Up(b c:Bk):Prop where
 hb:checkBook b=0
 hc:checkBook c=0
 tb:b.ts= []
 tc:c.ts= []
 w:b.w≤c.w
 gs:c.gs=b.gs
 sh:∀x,c.sheaves x=b.sheaves x
 np:c.ps.length=b.ps.length
 nc:c.cs.length=b.cs.length
 down:∀t∈cases c,∃t'∈cases b,(∀j:Nat,j<b.ps.length→nth t'.1 j≤nth t.1 j)∧∀j:Nat,j<b.cs.length→nth t.2 j≤nth t'.2 j
 up:∀t∈cases b,∃t'∈cases c,(∀j:Nat,j<b.ps.length→nth t.1 j≤nth t'.1 j)∧∀j:Nat,j<b.cs.length→nth t'.2 j≤nth t.2 j
def spanL(l:List Int)(more least most:Int):Rc:=⟨max least (min most (l.getD 0 0+more)),max least (min most (l.getD (l.length-1) 0+more))⟩
theorem asc_ends:∀ {l:List Int},l.Pairwise (· < ·)→∀x∈l,l.getD 0 0≤x∧x≤l.getD (l.length-1) 0
 | [],_,x,hx=>by cases hx
 | [y],_,x,hx=>by
  rw [List.mem_singleton] at hx;subst hx
  exact⟨Int.le_refl _,Int.le_refl _⟩
 |y::z::l,h,x,hx=>by
  rw [List.pairwise_cons] at h
  have ih:=asc_ends h.2
  have e:(y::z::l).getD ((y::z::l).length-1) 0=(z::l).getD ((z::l).length-1) 0:=by
   show(y::z::l).getD (l.length+1) 0=(z::l).getD l.length 0
   rfl
  rw [e]
  show y≤x∧_
  rcases List.mem_cons.1 hx with rfl|hx
  ·have:=h.1 z Zi
   have:=ih z Zi
   omega
  ·have:=h.1 x hx
   have:=ih x hx
   omega
theorem ends_mem{l:List Int}(hne:l≠ []):l.getD 0 0∈l∧l.getD (l.length-1) 0∈l:=by
 have hp:=List.length_pos_iff.2 hne
 rw [List.getD_eq_getElem?_getD,List.getElem?_eq_getElem hp,List.getD_eq_getElem?_getD,List.getElem?_eq_getElem (show l.length-1<l.length by omega)]
 exact⟨List.getElem_mem _,List.getElem_mem _⟩
theorem span_narrow{l:List Int}{more least a c:Int}(ha:l.Pairwise (· < ·))(hne:l≠ [])(hin:∀x∈l,a≤x∧x≤c)(hw:c-a<3)(h0:0≤least∧least≤99):isNarrow (spanL l more least 99) least=true:=by
 obtain⟨m1,m2⟩:=ends_mem hne
 have h1:=hin _ m1
 have h2:=hin _ m2
 have h3:=asc_ends ha _ m1
 refine isNarrow_iff.2 ?_
 simp only [spanL]
 omega
theorem span_in{l m:List Int}{more least most:Int}(ha:l.Pairwise (· < ·))(hne:m≠ [])(hin:∀x∈m,x∈l):(spanL l more least most).lo≤(spanL m more least most).lo∧(spanL m more least most).hi≤(spanL l more least most).hi:=by
 obtain⟨m1,m2⟩:=ends_mem hne
 have h1:=asc_ends ha _ (hin _ m1)
 have h2:=asc_ends ha _ (hin _ m2)
 simp only [spanL]
 omega
theorem modify_twice{α:Type}(l:List α)(i:Nat)(f g:α→α):(l.modify i f).modify i g=l.modify i fun x=>g (f x):=by
 refine List.ext_getElem? fun j=>?_
 simp only [List.getElem?_modify]
 by_cases e:i=j
 ·subst e;cases l[i]? <;>simp
 ·cases l[j]? <;>simp [e]
theorem borne_r{b:Bk}{i:Int}(h:0≤i∧i<b.ps.length)(r:Rc):((b.borne i.toNat r).part i).r=r:=by
 have hk:i.toNat<b.ps.length:=O
 simp [Bk.part,Bk.borne,List.getD_eq_getElem?_getD,List.getElem?_modify,hk]
theorem borne_again{b:Bk}{i:Int}(h:0≤i∧i<b.ps.length){r y:Rc}(h1:r.lo≤y.lo)(h2:y.hi≤r.hi):(b.borne i.toNat r).borne i.toNat (((b.borne i.toNat r).part i).r.meet y)=b.borne i.toNat y:=by
 have e:r.meet y=y:=by
  unfold Rc.meet
  rw [Int.max_eq_right h1,Int.min_eq_right h2]
 rw [borne_r h,e]
 unfold Bk.borne
 simp only
 rw [modify_twice]
theorem fewer_borne2{b:Bk}{i:Int}(h:0≤i∧i<b.ps.length){r y:Rc}(h1:r.lo≤y.lo)(h2:y.hi≤r.hi):Fewer (b.borne i.toNat r) (b.borne i.toNat y):=by
 have:=fewer_borne (b:=b.borne i.toNat r) (i:=i) (by unfold Bk.borne;simpa using h) y
 rwa [borne_again h h1 h2] at this
section
variable {main:Bool}{J:Goroutine→Mem→Prop}(hJ:Closed prog main J)
include hJ
theorem spanned_c{l:List Int}{v:Value}{ro:RO}(hl:LsI ro v l)(hne:l≠ [])(hb:∀x∈l, -1000≤x∧x≤1000)(hn:l.length≤1000){more least most:Int}(h1:0≤more∧more≤1000):CallP prog J (fnv 83) [v, .int .i64 more, .int .i64 least, .int .i64 most] ro (spanL l more least most).val:=by
 have hp:=List.length_pos_iff.2 hne
 obtain⟨p,off,cap,ll,t,fq,rfl,hrop,hsub⟩:=hl.at ic_len hp
 have hlast:l.length-1<l.length:=O
 have g0:=ic_at hsub hp
 have g1:=ic_at hsub hlast
 have b0:=hb _ (List.getElem_mem hp)
 have b1:=hb _ (List.getElem_mem hlast)
 have e0:l.getD 0 0=l[0]:=by simp [List.getD_eq_getElem?_getD,hp]
 have e1:l.getD (l.length-1) 0=l[l.length-1]:=by simp [List.getD_eq_getElem?_getD,hlast]
 have er:spanL l more least most=⟨max least (min most (l[0]+more)),max least (min most (l[l.length-1]+more))⟩:=by rw [spanL,e0,e1]
 rw [er]
 generalize l[0]=x at g0 b0
 generalize l[l.length-1]=y at g1 b1
 have ei:(((l.length:Int) -1)).toNat=l.length-1:=O
 refine CallP.intro hJ Kr fun c cs tail hret=>enter_X (n:=31) func83 U U (Nl U) ?_
 have C:Ctx prog main J (bf 83 .normal):=⟨hJ,by decide⟩
 refine Xr C U U<|R.alloc C U U zeroValue45 U fun p8=>R.done C<|Xs C<|Xd C fun hok=>Dm C 0 hok U U U<|Dm C 1 hok U U U<|Dm C 2 hok U U U<|Dx C 3 hok U U U runUnderlying58 sizeOf3<|Dl 4 hok (fun _ _ A h=>R.loadOneRo C U (A.w U U) (A.x U U) isAgg3 hrop (by simpa using g0) h)<|Dm C 5 hok U U U<|Di C 6 hok U U U U U (b_add O O)<|Dp 7 hok (fun _ _ _ A h=>R.min2 C U (A.w U U) (A.x U U) (A.x U U) h)<|Dp 8 hok (fun _ _ _ A h=>R.max2 C U (A.w U U) (A.x U U) (A.x U U) h)<|Dm C 9 hok U U U<|Dm C 10 hok U U U<|Dm C 11 hok U U U<|Dm C 12 hok U U U<|Ds C 13 hok U U runUnderlying58<|Di C 14 hok U U U U U (b_sub O O)<|Dx C 15 hok U U U runUnderlying58 sizeOf3<|Dl 16 hok (fun _ _ A h=>R.loadOneRo C U (A.w U U) (A.x U U) isAgg3 hrop (by rw [ei];exact g1) h)<|Dm C 17 hok U U U<|Di C 18 hok U U U U U (b_add O O)<|Dp 19 hok (fun _ _ _ A h=>R.min2 C U (A.w U U) (A.x U U) (A.x U U) h)<|Dp 20 hok (fun _ _ _ A h=>R.max2 C U (A.w U U) (A.x U U) (A.x U U) h)<|De 21 (some 30) [false,false] hok (fun _ _ A hk=>?_)
 refine R.callP C U (A.w U U) (A.x U U) (A.s U U) (reach_c hJ _ _ _) (hk _ _ ⟨QFs.nil, ?_⟩)
 refine De 22 none [] hok (fun _ _ A hk=>?_)
 refine R.store C U (A.w U U) (A.x U U) (A.x U U) sizeOf45 U U U V Ph2 (hk undef _ ⟨QFs.nil, ?_⟩)
 refine D.done C hok Kr<|X.ret C U U func83 U (by exact(.agg U isAgg45 sizeOf45 V Tk2 .nil))<|Hp hret ?_
 rfl
end
theorem borne2_c{Q:Machine→Outcome→World→Trace→Prop}{b:Bk}{vb vl vm:Value}{l m:List Int}{ro:RO}(he:Env ro)(hvb:BkV ro vb b)(hch:checkBook b=0)(htn:b.ts= [])(hl:LsI ro vl l)(hm:LsI ro vm m)(nl:l≠ [])(nm:m≠ [])(hs:∀y∈m,y∈l)(al:l.Pairwise (· < ·))(am:m.Pairwise (· < ·)){l0 l1:Int}(hw:l1-l0<3)(ha: -1000≤l0∧l1≤1000)(hin:∀y∈l,l0≤y∧y≤l1)
  {i g k n:Int} (hi:0≤i∧i<b.ps.length) (hg:0≤g∧g<b.gs.length) (hkb:0≤k∧k<b.cs.length) (hn:1≤n∧n≤99):
  CallR prog (JM prog Q) (fnv 20) [vb, .int .i64 i,vl,vm, .int .i64 g, .int .i64 k, .int .i64 n] ro (fun w _=>w= .bool true):=by
 have hJ:Closed prog true (JM prog Q):=JM.closed
 let main:=true
 let J:=JM prog Q
 have hb:=good_of hch
 have hnp:1≤b.ps.length∧b.ps.length≤4:=hb.np
 have hlen:l.length≤3:=asc_len (lo:=l0) (m:=3) al fun x hx=>by have:=hin x hx;omega
 have hinm:∀y∈m,l0≤y∧y≤l1:=fun y hy=>hin y (hs y hy)
 have hlem:m.length≤3:=asc_len (lo:=l0) (m:=3) am fun x hx=>by have:=hinm x hx;omega
 have hpl:=List.length_pos_iff.2 nl
 have hpm:=List.length_pos_iff.2 nm
 have hins:insideL m l=true:=by
  unfold insideL;rw [List.all_eq_true];intro x hx;rw [List.contains_iff_mem];exact hs x hx
 have n1:=span_narrow (more:=20) (least:=0) al nl hin hw O
 have n2:=span_narrow (more:=20) (least:=0) am nm hinm hw O
 have hsp:=span_in (more:=20) (least:=0) (most:=99) al nm hs
 have bl:∀x∈l, -1000≤x∧x≤1000:=fun x hx=>by have:=hin x hx;omega
 have bm:∀x∈m, -1000≤x∧x≤1000:=fun x hx=>bl x (hs x hx)
 have c1:=check_borne hch i.toNat n1
 have c2:=check_borne hch i.toNat n2
 have hfw:=fewer_borne2 hi hsp.1 hsp.2
 have nd:cases (b.borne i.toNat (spanL m 20 0 99))≠ []:=bare_cases (good_of c2) htn
 have hvb0:=hvb
 obtain⟨vp,vg,vc,vt,rfl,hp,hgg,hc,htt⟩:=hvb
 obtain⟨pb,pc,rfl⟩:=hp.form
 obtain⟨gb,gc,rfl⟩:=hgg.form
 obtain⟨cb,cc,rfl⟩:=hc.form
 obtain⟨tb,tc,rfl⟩:=htt.form
 have hl0:=hl
 have hm0:=hm
 obtain⟨lb,lc,rfl⟩:=hl.form
 obtain⟨mb,mc,rfl⟩:=hm.form
 refine CallR.intro hJ Kr fun c cs tail hret=>enter_X (n:=58) func20 U U (Nl U) ?_
 have C:Ctx prog main J (bf 20 .normal):=⟨hJ,by decide⟩
 refine Xr C U U<|R.box C U U U U fun p7=>Ad C U U<|Xs C<|Xr C U U<|Rm C U U<|Rn C U U runUnderlying58<|R.int C U U U U b_eql<|R.fixv (t:=19) (v':= .bool false) U (Bv (by rw [beq_eq_false_iff_ne];omega)) ?_;refine Rm C U U<|Rm C U U<|Rn C U U runUnderlying58<|R.int C U U U U b_eql<|R.fixv (t:=23) (v':= .bool false) U (Bv (by rw [beq_eq_false_iff_ne];omega)) ?_;refine R.pickF C U U U U<|Rm C U U<|Rm C U U<|Rm C U U<|R.callP C U U U U (inside2R_c hJ hm0 hl0 O O)<|R.not C U U U<|R.fixv (t:=29) (v':= .bool false) U (by(rw [hins];rfl))<|R.pickF C U U U U<|R.done C<|X.cond C.1 U (fun h=>nomatch h) (fun _=>?_)
 refine X.skip C.1<|Xs C<|X.afterI (ι:=Nat×RO×Value×Value×Value×Value) (fun s=>ro.le s.2.1∧BkP s.2.1 (b.borne i.toNat (spanL l 20 0 99)) s.2.2.1 s.2.2.2.1 s.2.2.2.2.1 s.2.2.2.2.2) (fun s=> [(15, .pointer (some ⟨s.1,0,none⟩)),(1, .int .i64 i),(3, .slice mb m.length mc),(4, .int .i64 g),(5, .int .i64 k),(6, .int .i64 n),(7, .pointer (some ⟨p7,0,none⟩))])
  (fun s=>⟨s.2.1,(s.1, .cells [.int .i64 b.w,s.2.2.1,s.2.2.2.1,s.2.2.2.2.1,s.2.2.2.2.2].toArray 27 (0,0))::(p7, .cells [.int .i64 b.w, .slice pb b.ps.length pc, .slice gb b.gs.length gc, .slice cb b.cs.length cc, .slice tb b.ts.length tc].toArray 27 (0,0))::tail⟩) (fun s hsx=>?_) (fun hcont=>?_)
 rotate_left
 ·have _:=hpl
  refine Xd C fun hok=>D5 C 0 hok U U isAgg27 sizeOf27 V Tk5<|Dm C 1 hok U U U<|Dm C 2 hok U U U<|D.eP2 (i:=3) (i':=5) (dst:=(some 34)) (dst':=(some 15)) [true] [true] hok U U Kr Kr Kr (fun _ _ A hk=>?_) (fun _ _ A hk=>?_)
  ·
   refine R.callP C U (A.w U U) (A.x U U) (A.s U U) (spanned_c hJ hl0 nl bl O O) (hk _ _ ⟨(QFs.cons (QF.of U (fun _ _ A h=>R.loadAgg C U (A.w U U) (A.x U U) isAgg27 sizeOf27 V Tk5 h)) QFs.nil), ?_⟩)
   refine D.eP2 (i:=4) (i':=5) (dst:=(some 35)) (dst':=(some 15)) [false] [true] hok U U Kr Kr Kr (fun _ _ A hk=>?_) (fun _ _ A hk=>?_)
   ·
    refine R.callR C U (A.w U U) (A.x U U) (A.s U U) (borneR_c hJ hvb0 (show b.ps.length≤1000 by omega) hi (spanL l 20 0 99)) fun v5 ro5 hl5 hq5=>hk _ _ ⟨QFs.nil, ?_⟩
    refine De 5 (some 15) [] hok (fun _ _ A hk=>?_)
    obtain⟨_,_,_,_,rfl,hnb⟩:=hq5
    obtain⟨_,_,rfl⟩:=hnb.1.form
    obtain⟨_,_,rfl⟩:=hnb.2.1.form
    obtain⟨_,_,rfl⟩:=hnb.2.2.1.form
    obtain⟨_,_,rfl⟩:=hnb.2.2.2.form
    refine R.alloc C U (A.w U U) zeroValue27 U fun p15=>hk _ _ ⟨QFs.nil, ?_⟩
    refine De 6 none [] hok (fun _ _ A hk=>?_)
    refine R.store C U (A.w U U) (A.x U U) (A.x U U) sizeOf27 U U U V Ph5 (hk undef _ ⟨QFs.nil, ?_⟩)
    refine D.done C hok Kr<|X.weaken ?_ (hcont (p15,ro5,_,_,_,_) ⟨hl5,hnb⟩)
    exact⟨U,U,U,U,U,U,U,trivial⟩
   ·
    refine R.alloc C U (A.w U U) zeroValue27 U fun p15=>hk _ _ ⟨(QFs.cons (QF.of U (fun _ _ A h=>R.loadAgg C U (A.w U U) (A.x U U) isAgg27 sizeOf27 V Tk5 h)) QFs.nil), ?_⟩
    refine De 4 (some 35) [false] hok (fun _ _ A hk=>?_)
    refine R.callR C U (A.w U U) (A.x U U) (A.s U U) (borneR_c hJ hvb0 (show b.ps.length≤1000 by omega) hi (spanL l 20 0 99)) fun v5 ro5 hl5 hq5=>hk _ _ ⟨QFs.nil, ?_⟩
    refine De 6 none [] hok (fun _ _ A hk=>?_)
    obtain⟨_,_,_,_,rfl,hnb⟩:=hq5
    obtain⟨_,_,rfl⟩:=hnb.1.form
    obtain⟨_,_,rfl⟩:=hnb.2.1.form
    obtain⟨_,_,rfl⟩:=hnb.2.2.1.form
    obtain⟨_,_,rfl⟩:=hnb.2.2.2.form
    refine R.store C U (A.w U U) (A.x U U) (A.x U U) sizeOf27 U U U V Ph5 (hk undef _ ⟨QFs.nil, ?_⟩)
    refine D.done C hok Kr<|X.weaken ?_ (hcont (p15,ro5,_,_,_,_) ⟨hl5,hnb⟩)
    exact⟨U,U,U,U,U,U,U,trivial⟩
  ·
   refine R.alloc C U (A.w U U) zeroValue27 U fun p15=>hk _ _ ⟨(QFs.cons (QF.of U (fun _ _ A h=>R.loadAgg C U (A.w U U) (A.x U U) isAgg27 sizeOf27 V Tk5 h)) QFs.nil), ?_⟩
   refine De 3 (some 34) [true] hok (fun _ _ A hk=>?_)
   refine R.callP C U (A.w U U) (A.x U U) (A.s U U) (spanned_c hJ hl0 nl bl O O) (hk _ _ ⟨(QFs.cons (QF.of U (fun _ _ A h=>R.loadAgg C U (A.w U U) (A.x U U) isAgg27 sizeOf27 V Tk5 h)) QFs.nil), ?_⟩)
   refine De 4 (some 35) [false] hok (fun _ _ A hk=>?_)
   refine R.callR C U (A.w U U) (A.x U U) (A.s U U) (borneR_c hJ hvb0 (show b.ps.length≤1000 by omega) hi (spanL l 20 0 99)) fun v5 ro5 hl5 hq5=>hk _ _ ⟨QFs.nil, ?_⟩
   refine De 6 none [] hok (fun _ _ A hk=>?_)
   obtain⟨_,_,_,_,rfl,hnb⟩:=hq5
   obtain⟨_,_,rfl⟩:=hnb.1.form
   obtain⟨_,_,rfl⟩:=hnb.2.1.form
   obtain⟨_,_,rfl⟩:=hnb.2.2.1.form
   obtain⟨_,_,rfl⟩:=hnb.2.2.2.form
   refine R.store C U (A.w U U) (A.x U U) (A.x U U) sizeOf27 U U U V Ph5 (hk undef _ ⟨QFs.nil, ?_⟩)
   refine D.done C hok Kr<|X.weaken ?_ (hcont (p15,ro5,_,_,_,_) ⟨hl5,hnb⟩)
   exact⟨U,U,U,U,U,U,U,trivial⟩
 obtain⟨p15,ro5,zp,zg,zc,zt⟩:=s
 obtain⟨hl5,hnb⟩:=hsx
 simp only at hl5 hnb⊢
 obtain⟨pb5,pc5,rfl⟩:=hnb.1.form
 obtain⟨gb5,gc5,rfl⟩:=hnb.2.1.form
 obtain⟨cb5,cc5,rfl⟩:=hnb.2.2.1.form
 obtain⟨tb5,tc5,rfl⟩:=hnb.2.2.2.form
 have hv5:BkV ro5 (.agg [.int .i64 b.w, .slice pb5 (b.borne i.toNat (spanL l 20 0 99)).ps.length pc5, .slice gb5 (b.borne i.toNat (spanL l 20 0 99)).gs.length gc5, .slice cb5 (b.borne i.toNat (spanL l 20 0 99)).cs.length cc5, .slice tb5 (b.borne i.toNat (spanL l 20 0 99)).ts.length tc5].toArray) (b.borne i.toNat (spanL l 20 0 99)):=⟨_,_,_,_,rfl,hnb⟩
 have hvb5:=hvb0.mono hl5
 have hm5:=hm0.mono hl5
 refine Xs C<|X.afterI (ι:=Nat×RO×Value×Value×Value×Value) (fun s=>ro5.le s.2.1∧BkP s.2.1 (b.borne i.toNat (spanL m 20 0 99)) s.2.2.1 s.2.2.2.1 s.2.2.2.2.1 s.2.2.2.2.2) (fun s=> [(16, .pointer (some ⟨s.1,0,none⟩)),(15, .pointer (some ⟨p15,0,none⟩)),(1, .int .i64 i),(4, .int .i64 g),(5, .int .i64 k),(6, .int .i64 n)])
  (fun s=>⟨s.2.1,(s.1, .cells [.int .i64 b.w,s.2.2.1,s.2.2.2.1,s.2.2.2.2.1,s.2.2.2.2.2].toArray 27 (0,0))::(p15, .cells [.int .i64 b.w, .slice pb5 (b.borne i.toNat (spanL l 20 0 99)).ps.length pc5, .slice gb5 (b.borne i.toNat (spanL l 20 0 99)).gs.length gc5, .slice cb5 (b.borne i.toNat (spanL l 20 0 99)).cs.length cc5, .slice tb5 (b.borne i.toNat (spanL l 20 0 99)).ts.length tc5].toArray 27 (0,0))::(p7, .cells [.int .i64 b.w, .slice pb b.ps.length pc, .slice gb b.gs.length gc, .slice cb b.cs.length cc, .slice tb b.ts.length tc].toArray 27 (0,0))::tail⟩) (fun s hsx=>?_) (fun hcont=>?_)
 rotate_left
 ·have _:=hpl
  refine Xd C fun hok=>D5 C 0 hok U U isAgg27 sizeOf27 V Tk5<|Dm C 1 hok U U U<|Dm C 2 hok U U U<|D.eP2 (i:=3) (i':=5) (dst:=(some 39)) (dst':=(some 16)) [true] [true] hok U U Kr Kr Kr (fun _ _ A hk=>?_) (fun _ _ A hk=>?_)
  ·
   refine R.callP C U (A.w U U) (A.x U U) (A.s U U) (spanned_c hJ hm5 nm bm O O) (hk _ _ ⟨(QFs.cons (QF.of U (fun _ _ A h=>R.loadAgg C U (A.w U U) (A.x U U) isAgg27 sizeOf27 V Tk5 h)) QFs.nil), ?_⟩)
   refine D.eP2 (i:=4) (i':=5) (dst:=(some 40)) (dst':=(some 16)) [false] [true] hok U U Kr Kr Kr (fun _ _ A hk=>?_) (fun _ _ A hk=>?_)
   ·
    refine R.callR C U (A.w U U) (A.x U U) (A.s U U) (borneR_c hJ hvb5 (show b.ps.length≤1000 by omega) hi (spanL m 20 0 99)) fun v6 ro6 hl6 hq6=>hk _ _ ⟨QFs.nil, ?_⟩
    refine De 5 (some 16) [] hok (fun _ _ A hk=>?_)
    obtain⟨_,_,_,_,rfl,hnb6⟩:=hq6
    obtain⟨_,_,rfl⟩:=hnb6.1.form
    obtain⟨_,_,rfl⟩:=hnb6.2.1.form
    obtain⟨_,_,rfl⟩:=hnb6.2.2.1.form
    obtain⟨_,_,rfl⟩:=hnb6.2.2.2.form
    refine R.alloc C U (A.w U U) zeroValue27 U fun p16=>hk _ _ ⟨QFs.nil, ?_⟩
    refine De 6 none [] hok (fun _ _ A hk=>?_)
    refine R.store C U (A.w U U) (A.x U U) (A.x U U) sizeOf27 U U U V Ph5 (hk undef _ ⟨QFs.nil, ?_⟩)
    refine D.done C hok Kr<|X.weaken ?_ (hcont (p16,ro6,_,_,_,_) ⟨hl6,hnb6⟩)
    exact⟨U,U,U,U,U,U,trivial⟩
   ·
    refine R.alloc C U (A.w U U) zeroValue27 U fun p16=>hk _ _ ⟨(QFs.cons (QF.of U (fun _ _ A h=>R.loadAgg C U (A.w U U) (A.x U U) isAgg27 sizeOf27 V Tk5 h)) QFs.nil), ?_⟩
    refine De 4 (some 40) [false] hok (fun _ _ A hk=>?_)
    refine R.callR C U (A.w U U) (A.x U U) (A.s U U) (borneR_c hJ hvb5 (show b.ps.length≤1000 by omega) hi (spanL m 20 0 99)) fun v6 ro6 hl6 hq6=>hk _ _ ⟨QFs.nil, ?_⟩
    refine De 6 none [] hok (fun _ _ A hk=>?_)
    obtain⟨_,_,_,_,rfl,hnb6⟩:=hq6
    obtain⟨_,_,rfl⟩:=hnb6.1.form
    obtain⟨_,_,rfl⟩:=hnb6.2.1.form
    obtain⟨_,_,rfl⟩:=hnb6.2.2.1.form
    obtain⟨_,_,rfl⟩:=hnb6.2.2.2.form
    refine R.store C U (A.w U U) (A.x U U) (A.x U U) sizeOf27 U U U V Ph5 (hk undef _ ⟨QFs.nil, ?_⟩)
    refine D.done C hok Kr<|X.weaken ?_ (hcont (p16,ro6,_,_,_,_) ⟨hl6,hnb6⟩)
    exact⟨U,U,U,U,U,U,trivial⟩
  ·
   refine R.alloc C U (A.w U U) zeroValue27 U fun p16=>hk _ _ ⟨(QFs.cons (QF.of U (fun _ _ A h=>R.loadAgg C U (A.w U U) (A.x U U) isAgg27 sizeOf27 V Tk5 h)) QFs.nil), ?_⟩
   refine De 3 (some 39) [true] hok (fun _ _ A hk=>?_)
   refine R.callP C U (A.w U U) (A.x U U) (A.s U U) (spanned_c hJ hm5 nm bm O O) (hk _ _ ⟨(QFs.cons (QF.of U (fun _ _ A h=>R.loadAgg C U (A.w U U) (A.x U U) isAgg27 sizeOf27 V Tk5 h)) QFs.nil), ?_⟩)
   refine De 4 (some 40) [false] hok (fun _ _ A hk=>?_)
   refine R.callR C U (A.w U U) (A.x U U) (A.s U U) (borneR_c hJ hvb5 (show b.ps.length≤1000 by omega) hi (spanL m 20 0 99)) fun v6 ro6 hl6 hq6=>hk _ _ ⟨QFs.nil, ?_⟩
   refine De 6 none [] hok (fun _ _ A hk=>?_)
   obtain⟨_,_,_,_,rfl,hnb6⟩:=hq6
   obtain⟨_,_,rfl⟩:=hnb6.1.form
   obtain⟨_,_,rfl⟩:=hnb6.2.1.form
   obtain⟨_,_,rfl⟩:=hnb6.2.2.1.form
   obtain⟨_,_,rfl⟩:=hnb6.2.2.2.form
   refine R.store C U (A.w U U) (A.x U U) (A.x U U) sizeOf27 U U U V Ph5 (hk undef _ ⟨QFs.nil, ?_⟩)
   refine D.done C hok Kr<|X.weaken ?_ (hcont (p16,ro6,_,_,_,_) ⟨hl6,hnb6⟩)
   exact⟨U,U,U,U,U,U,trivial⟩
 obtain⟨p16,ro6,yp,yg,yc,yt⟩:=s
 obtain⟨hl6,hnb6⟩:=hsx
 simp only at hl6 hnb6⊢
 obtain⟨_,_,rfl⟩:=hnb6.1.form
 obtain⟨_,_,rfl⟩:=hnb6.2.1.form
 obtain⟨_,_,rfl⟩:=hnb6.2.2.1.form
 obtain⟨_,_,rfl⟩:=hnb6.2.2.2.form
 have hv6:BkV ro6 _ (b.borne i.toNat (spanL m 20 0 99)):=⟨_,_,_,_,rfl,hnb6⟩
 have hv56:=hv5.mono hl6
 have k6:=RO.le_trans hl5 hl6
 refine Xr C U U<|R5 C U U isAgg27 sizeOf27 V Tk5<|R.callP C U U U U (checkBookR_c hJ hv56 (short_of (not_great c1)))<|R.int C U U U U b_eql<|R.fixv (t:=43) (v':= .bool true) U (by(rw [c1];rfl))<|Rm C U U<|R5 C U U isAgg27 sizeOf27 V Tk5<|R.callP C U U U U (checkBookR_c hJ hv6 (short_of (not_great c2)))<|R.int C U U U U b_eql<|R.fixv (t:=47) (v':= .bool true) U (by(rw [c2];rfl))<|R.pickT C U U U U<|Rm C U U<|R5 C U U isAgg27 sizeOf27 V Tk5<|R5 C U U isAgg27 sizeOf27 V Tk5<|Rm C U U<|Rm C U U<|Rm C U U<|Rm C U U<|R.callR C U U U U (betterR_c (he.mono k6) hv56 hv6 c1 c2 nd hfw (by unfold Bk.borne;simpa using hi) hg hkb hn) fun v7 ro7 hl7 hq7=>R.pickT C U U U U<|Ad C U U<|Xt C func20<|Hr hret (RO.le_trans k6 hl7) ?_
 exact hq7
end Go.Lg.B
namespace Go.Lg.N
open Go Go.Conc Go.Lg Go.Proofs Go.Lg.B Go.Proofs.Tryz
theorem b_shlN{P:Program}{t:TypeId}{k':IntKind}{n:Int}(h0:0≤n)(h1:n≤62):∀M K,K (.int .i64 ((2^n.toNat:Nat):Int)) M→Sm P M (binOp .shl t (.int .i64 1) (.int k' n)) K:=fun M K h=>by
 have hb:(2:Nat)^n.toNat≤4611686018427387904:=Nat.le_trans (Nat.pow_le_pow_right O (show n.toNat≤62 by omega)) Dd
 have e:((2^n.toNat:Nat):Int)=1*2^n.toNat:=by simp
 rw [e] at h
 have h2:(1:Int)*2^n.toNat≤4611686018427387904:=by rw [←e];exact Int.ofNat_le.2 hb
 have h3:0≤(1:Int)*2^n.toNat:=by rw [←e];exact Int.natCast_nonneg _
 exact b_shl h0 O O O M K h
theorem b_shrN{P:Program}{t:TypeId}{k':IntKind}{a:Nat}{n:Int}(h0:0≤n)(h1:n≤62):∀M K,K (.int .i64 ((a>>>n.toNat:Nat):Int)) M→Sm P M (binOp .shr t (.int .i64 (a:Int)) (.int k' n)) K:=fun M K h=>by
 have e:((a>>>n.toNat:Nat):Int)=(a:Int) /2^n.toNat:=by rw [Nat.shiftRight_eq_div_pow];simp
 rw [e] at h
 exact b_shr h0 (by simp [IntKind.bits];omega) O M K h
theorem b_and1{P:Program}{t:TypeId}{a:Nat}(ha:a<2^63):∀M K,K (.int .i64 ((a &&& 1:Nat):Int)) M→Sm P M (binOp .and t (.int .i64 (a:Int)) (.int .i64 1)) K:=fun M K h=>b_and (c:=1) ha O M K h
theorem bit_one(a n:Nat):(((a>>>n &&& 1:Nat):Int)==1)=a.testBit n:=by
 rw [Nat.testBit_eq_decide_div_mod_eq,Nat.shiftRight_eq_div_pow,Nat.and_one_is_mod]
 generalize a/2^n%2=x
 by_cases h:x=1
 ·simp [h]
 ·simp only [h,decide_false,beq_eq_false_iff_ne,ne_eq];omega
theorem eqT3:IntT prog 9997 3 1 false:=IntT.int runUnderlying3
theorem eqT157:IntT prog 10000 157 2 true:=IntT.struct runUnderlying157 Kr (.cons Dd rfl sizeOf3 isAgg3 (fun _=>rfl) (IntT.int runUnderlying3) (.cons Dd rfl sizeOf3 isAgg3 (fun _=>rfl) (IntT.int runUnderlying3) .nil))
structure Rc where
 lo:Int
 hi:Int
 deriving DecidableEq
def Rc.cells(s:Rc):List Value:= [.int .i64 s.lo, .int .i64 s.hi]
abbrev Rc.val(s:Rc):Value:= .agg s.cells.toArray
structure Sq where
 e:Int
 n:Int
 deriving DecidableEq
def Sq.cells(s:Sq):List Value:= [.int .i64 s.e, .int .i64 s.n]
abbrev Sq.val(s:Sq):Value:= .agg s.cells.toArray
structure Wt where
 s:Sq
 b:Int
 k:Int
 sure:Bool
 deriving DecidableEq
def Wt.cells(w:Wt):List Value:= [.int .i64 w.s.e, .int .i64 w.s.n, .int .i64 w.b, .int .i64 w.k, .bool w.sure]
abbrev Wt.val(w:Wt):Value:= .agg w.cells.toArray
structure Aim where
 s:Sq
 x:Int
 y:Int
 z:Int
 deriving DecidableEq
def Aim.cells(a:Aim):List Value:= [.int .i64 a.s.e, .int .i64 a.s.n, .int .i64 a.x, .int .i64 a.y, .int .i64 a.z]
abbrev Aim.val(a:Aim):Value:= .agg a.cells.toArray
def Aim.off(a:Aim)(k:Int):Int:=if k=0 then a.x else if k=1 then a.y else a.z
def Aim.set(a:Aim)(k:Int)(v:Int):Aim:=if k=0 then {a with x:=v} else if k=1 then {a with y:=v} else {a with z:=v}
theorem Aim.get(a:Aim){k:Int}(h0:0≤k)(h1:k<3):a.cells[2+k.toNat*1]? =some (.int .i64 (a.off k)):=by
 have:k=0∨k=1∨k=2:=O
 rcases this with rfl|rfl|rfl<;>rfl
theorem Aim.putOff(a:Aim){k:Int}(v:Int)(h0:0≤k)(h1:k<3):Put (2+k.toNat*1) [.int .i64 v] a.cells (a.set k v).cells:=by
 have:k=0∨k=1∨k=2:=O
 rcases this with rfl|rfl|rfl
 ·exact .skip (.skip (.here .nil))
 ·exact .skip (.skip (.skip (.here .nil)))
 ·exact .skip (.skip (.skip (.skip (.here .nil))))
structure Lot where
 a:Aim
 m:Nat
 deriving DecidableEq
def Lot.cells(c:Lot):List Value:= [.int .i64 c.a.s.e, .int .i64 c.a.s.n, .int .i64 c.a.x, .int .i64 c.a.y, .int .i64 c.a.z, .int .i64 (c.m:Int)]
abbrev Lot.val(c:Lot):Value:= .agg c.cells.toArray
structure Bk where
 w:Int
 h:Int
 f:Int
 cs:List Rc
 ws:List Wt
 deriving DecidableEq
def BkV(ro:RO)(v:Value)(b:Bk):Prop:= ∃vc vw,v= .agg [.int .i64 b.w, .int .i64 b.h, .int .i64 b.f,vc,vw].toArray∧Ls Rc.cells 2 ro vc b.cs∧Ls Wt.cells 5 ro vw b.ws
theorem BkV.mono{ro ro':RO}{v:Value}{b:Bk}(h:BkV ro v b)(hl:ro.le ro'):BkV ro' v b:=let⟨vc,vw,e,h1,h2⟩:=h;⟨vc,vw,e,h1.mono hl,h2.mono hl⟩
theorem Rc.len(x:Rc):x.cells.length=2:=rfl
theorem Wt.len(x:Wt):x.cells.length=5:=rfl
theorem Lot.len(x:Lot):x.cells.length=6:=rfl
theorem Sq.len(x:Sq):x.cells.length=2:=rfl
variable {main:Bool}{J:Goroutine→Mem→Prop}(hJ:Closed prog main J)
include hJ
def between(n l m:Int):Bool:=decide (l≤n) && decide (n≤m)
theorem between_c(n l m:Int)(ro:RO):CallP prog J (fnv 170) [.int .i64 n, .int .i64 l, .int .i64 m] ro (.bool (between n l m)):=by
 refine CallP.intro hJ Kr fun c cs tail hret=>enter_X (n:=15) func170 U U (Nl U) ?_
 have C:Ctx prog main J (bf 170 .normal):=⟨hJ,by decide⟩
 refine Xr C U U<|Ad C U U<|Xr C U U<|Rm C U U<|Rm C U U<|R.int C U U U U b_leq<|Rm C U U<|R.fix (t:=10) U (fun q1=>?_) (fun q1=>?_)
 ·refine Rm C U U<|Rm C U U<|R.int C U U U U b_leq<|R.pickT C U U U U<|Ad C U U<|Xt C func170<|Hp hret ?_
  first|(simp_all [between,retVal];done)|(simp_all [between,retVal];omega)
 ·refine R.pass C U U<|R.pass C U U<|R.pass C U U<|R.pickF C U U U U<|Ad C U U<|Xt C func170<|Hp hret ?_
  first|(simp_all [between,retVal];done)|(simp_all [between,retVal];omega)
def isReach(x:Rc)(l m:Int):Bool:=decide (l≤x.lo) && decide (x.lo≤x.hi) && decide (x.hi≤m)
theorem isReach_c(x:Rc)(l m:Int)(ro:RO):CallP prog J (fnv 75) [x.val, .int .i64 l, .int .i64 m] ro (.bool (isReach x l m)):=by
 refine CallP.intro hJ Kr fun c cs tail hret=>enter_X (n:=24) func75 U U (Nl U) ?_
 have C:Ctx prog main J (bf 75 .normal):=⟨hJ,by decide⟩
 refine Xr C U U<|R.box C U U U U fun p3=>Ad C U U<|Xr C U U<|Rm C U U<|Rf C 0 U U runUnderlying45 U sizeOf3<|Rl C U U isAgg3 V U<|R.int C U U U U b_leq<|Rm C U U<|R.fix (t:=11) U (fun q1=>?_) (fun q1=>?_)
 ·refine Rf C 0 U U runUnderlying45 U sizeOf3<|Rl C U U isAgg3 V U<|Rf C 1 U U runUnderlying45 U sizeOf3<|Rl C U U isAgg3 V U<|R.int C U U U U b_leq<|R.pickT C U U U U<|Rm C U U<|R.fix (t:=18) U (fun q2=>?_) (fun q2=>?_)
  ·refine Rf C 1 U U runUnderlying45 U sizeOf3<|Rl C U U isAgg3 V U<|Rm C U U<|R.int C U U U U b_leq<|R.pickT C U U U U<|Ad C U U<|Xt C func75<|Hp hret ?_
   first|(simp_all [isReach,retVal];done)|(simp_all [isReach,retVal];omega)
  ·refine R.pass C U U<|R.pass C U U<|R.pass C U U<|R.pass C U U<|R.pickF C U U U U<|Ad C U U<|Xt C func75<|Hp hret ?_
   first|(simp_all [isReach,retVal];done)|(simp_all [isReach,retVal];omega)
 ·refine R.pass C U U<|R.pass C U U<|R.pass C U U<|R.pass C U U<|R.pass C U U<|R.pickF C U U U U<|Rm C U U<|R.pass C U U<|R.pass C U U<|R.pass C U U<|R.pass C U U<|R.pickF C U U U U<|Ad C U U<|Xt C func75<|Hp hret ?_
  first|(simp_all [isReach,retVal];done)|(simp_all [isReach,retVal];omega)
def isPlace(s:Sq):Bool:=between s.e (-20) 20 && between s.n (-20) 20
theorem isPlace_c(s:Sq)(ro:RO):CallP prog J (fnv 364) [s.val] ro (.bool (isPlace s)):=by
 refine CallP.intro hJ Kr fun c cs tail hret=>enter_X (n:=11) func364 U U (Nl U) ?_
 have C:Ctx prog main J (bf 364 .normal):=⟨hJ,by decide⟩
 refine Xr C U U<|R.box C U U U U fun p1=>Ad C U U<|Xr C U U<|Rf C 0 U U runUnderlying157 U sizeOf3<|Rl C U U isAgg3 V U<|R.callP C U U U U (between_c hJ _ _ _ _)<|Rm C U U<|R.fix (t:=6) U (fun q1=>?_) (fun q1=>?_)
 ·refine Rf C 1 U U runUnderlying157 U sizeOf3<|Rl C U U isAgg3 V U<|R.callP C U U U U (between_c hJ _ _ _ _)<|R.pickT C U U U U<|Ad C U U<|Xt C func364<|Hp hret ?_
  simp_all [isPlace,retVal]
 ·refine R.pass C U U<|R.pass C U U<|R.pass C U U<|R.pickF C U U U U<|Ad C U U<|Xt C func364<|Hp hret ?_
  simp_all [isPlace,retVal]
def aside(r u:Bool):Int:=if r && u then 1 else if r then 3 else if u then 7 else 5
theorem aside_c(r u:Bool)(ro:RO):CallP prog J (fnv 325) [.bool r, .bool u] ro (.int .i64 (aside r u)):=by
 refine CallP.intro hJ Kr fun c cs tail hret=>enter_X (n:=14) func325 U U (Nl U) ?_
 have C:Ctx prog main J (bf 325 .normal):=⟨hJ,by decide⟩
 refine Xr C U U<|Ad C U U<|Xs C<|X.block C.1<|Xr C U U<|Rm C U U<|Rm C U U<|R.fix (t:=7) U (fun q1=>?_) (fun q1=>?_)
 ·refine Rm C U U<|R.pickT C U U U U<|Ad C U U<|X.cond C.1 U (fun q2=>?_) (fun q2=>?_)
  ·refine Xr C U U<|Ad C U U<|Xt C func325<|Hp hret ?_
   simp_all [aside,retVal]
  ·refine Xr C U U<|Rm C U U<|Ad C U U<|X.cond C.1 U (fun q3=>?_) (fun q3=>?_)
   ·refine Xr C U U<|Ad C U U<|Xt C func325<|Hp hret ?_
    simp_all [aside,retVal]
   ·refine Xr C U U<|Rm C U U<|Ad C U U<|X.cond C.1 U (fun q4=>?_) (fun q4=>?_)
    ·refine Xr C U U<|Ad C U U<|Xt C func325<|Hp hret ?_
     simp_all [aside,retVal]
    ·refine X.skip C.1<|X.inBlock C.1<|Xr C U U<|Ad C U U<|Xt C func325<|Hp hret ?_
     simp_all [aside,retVal]
 ·refine R.pass C U U<|R.pickF C U U U U<|Ad C U U<|X.cond C.1 U (fun h=>nomatch h) (fun _=>?_)
  refine Xr C U U<|Rm C U U<|Ad C U U<|X.cond C.1 U (fun q5=>?_) (fun q5=>?_)
  ·refine Xr C U U<|Ad C U U<|Xt C func325<|Hp hret ?_
   simp_all [aside,retVal]
  ·refine Xr C U U<|Rm C U U<|Ad C U U<|X.cond C.1 U (fun q6=>?_) (fun q6=>?_)
   ·refine Xr C U U<|Ad C U U<|Xt C func325<|Hp hret ?_
    simp_all [aside,retVal]
   ·refine X.skip C.1<|X.inBlock C.1<|Xr C U U<|Ad C U U<|Xt C func325<|Hp hret ?_
    simp_all [aside,retVal]
def Sq.ok(s:Sq):Prop:= -1000≤s.e∧s.e≤1000∧ -1000≤s.n∧s.n≤1000
def bearing(a z:Sq):Int:=
 if 12*min (max (z.e-a.e) (-(z.e-a.e))) (max (z.n-a.n) (-(z.n-a.n)))>5*max (max (z.e-a.e) (-(z.e-a.e))) (max (z.n-a.n) (-(z.n-a.n))) then aside (decide (z.e-a.e>0)) (decide (z.n-a.n>0))
 else if max (z.e-a.e) (-(z.e-a.e))>max (z.n-a.n) (-(z.n-a.n))∧z.e-a.e>0 then 2
 else if max (z.e-a.e) (-(z.e-a.e))>max (z.n-a.n) (-(z.n-a.n)) then 6
 else if z.n-a.n>0 then 0 else 4
theorem bearing_c(a z:Sq)(ha:a.ok)(hz:z.ok)(ro:RO):CallP prog J (fnv 321) [a.val,z.val] ro (.int .i64 (bearing a z)):=by
 obtain⟨a1,a2,a3,a4⟩:=ha
 obtain⟨z1,z2,z3,z4⟩:=hz
 refine CallP.intro hJ Kr fun c cs tail hret=>enter_X (n:=57) func321 U U (Nl U) ?_
 have C:Ctx prog main J (bf 321 .normal):=⟨hJ,by decide⟩
 refine Xr C U U<|R.box C U U U U fun p2=>R.box C U U U U fun p3=>Ad C U U<|Xs C<|Xd C fun hok=>Df (off':=0) C 0 hok U U U runUnderlying157 U sizeOf3 U<|D1 C 1 hok U U isAgg3 V U<|Df (off':=0) C 2 hok U U U runUnderlying157 U sizeOf3 U<|D1 C 3 hok U U isAgg3 V U<|Di C 4 hok U U U U U (b_sub O O)<|Df (off':=1) C 5 hok U U U runUnderlying157 U sizeOf3 U<|D1 C 6 hok U U isAgg3 V U<|Df (off':=1) C 7 hok U U U runUnderlying157 U sizeOf3 U<|D1 C 8 hok U U isAgg3 V U<|Di C 9 hok U U U U U (b_sub O O)<|Da C 10 hok U U<|Da C 11 hok U U<|D.done C hok Kr<|Xr C U U<|Rm C U U<|Rm C U U<|R.neg C U U U O O<|R.max2 C U U U U<|Rm C U U<|Rm C U U<|R.neg C U U U O O<|R.max2 C U U U U<|R.asg C U U U<|Ad C U U<|Xs C<|X.block C.1<|Xr C U U<|Rm C U U<|Rm C U U<|R.min2 C U U U U<|R.int C U U U U (b_mul O O)<|Rm C U U<|Rm C U U<|R.max2 C U U U U ?_;refine R.int C U U U U (b_mul O O)<|R.int C U U U U b_gtr<|Ad C U U<|X.cond C.1 U (fun q1=>?_) (fun q1=>?_)
 ·refine Xr C U U<|Rm C U U<|R.int C U U U U b_gtr<|Rm C U U<|R.int C U U U U b_gtr<|R.callP C U U U U (aside_c hJ _ _ _)<|Ad C U U<|Xt C func321<|Hp hret ?_
  (simp only [decide_eq_true_eq,decide_eq_false_iff_not] at*;simp only [bearing,retVal];repeat' split)<;>first|rfl|(exfalso;omega)
 ·refine Xr C U U<|Rm C U U<|Rm C U U<|R.int C U U U U b_gtr<|Rm C U U<|R.fix (t:=46) U (fun q2=>?_) (fun q2=>?_)
  ·refine Rm C U U<|R.int C U U U U b_gtr<|R.pickT C U U U U<|Ad C U U<|X.cond C.1 U (fun q3=>?_) (fun q3=>?_)
   ·refine Xr C U U<|Ad C U U<|Xt C func321<|Hp hret ?_
    (simp only [decide_eq_true_eq,decide_eq_false_iff_not] at*;simp only [bearing,retVal];repeat' split)<;>first|rfl|(exfalso;omega)
   ·refine Xr C U U<|Rm C U U<|Rm C U U<|R.int C U U U U b_gtr<|Ad C U U<|X.cond C.1 U (fun q4=>?_) (fun q4=>?_)
    ·refine Xr C U U<|Ad C U U<|Xt C func321<|Hp hret ?_
     (simp only [decide_eq_true_eq,decide_eq_false_iff_not] at*;simp only [bearing,retVal];repeat' split)<;>first|rfl|(exfalso;omega)
    ·refine Xr C U U<|Rm C U U<|R.int C U U U U b_gtr<|Ad C U U<|X.cond C.1 U (fun q5=>?_) (fun q5=>?_)
     ·refine Xr C U U<|Ad C U U<|Xt C func321<|Hp hret ?_
      (simp only [decide_eq_true_eq,decide_eq_false_iff_not] at*;simp only [bearing,retVal];repeat' split)<;>first|rfl|(exfalso;omega)
     ·refine X.skip C.1<|X.inBlock C.1<|Xr C U U<|Ad C U U<|Xt C func321<|Hp hret ?_
      (simp only [decide_eq_true_eq,decide_eq_false_iff_not] at*;simp only [bearing,retVal];repeat' split)<;>first|rfl|(exfalso;omega)
  ·refine R.pass C U U<|R.pass C U U<|R.pickF C U U U U<|Ad C U U<|X.cond C.1 U (fun h=>nomatch h) (fun _=>?_)
   refine Xr C U U<|Rm C U U<|Rm C U U<|R.int C U U U U b_gtr<|Ad C U U<|X.cond C.1 U (fun q6=>?_) (fun q6=>?_)
   ·refine Xr C U U<|Ad C U U<|Xt C func321<|Hp hret ?_
    (simp only [decide_eq_true_eq,decide_eq_false_iff_not] at*;simp only [bearing,retVal];repeat' split)<;>first|rfl|(exfalso;omega)
   ·refine Xr C U U<|Rm C U U<|R.int C U U U U b_gtr<|Ad C U U<|X.cond C.1 U (fun q7=>?_) (fun q7=>?_)
    ·refine Xr C U U<|Ad C U U<|Xt C func321<|Hp hret ?_
     (simp only [decide_eq_true_eq,decide_eq_false_iff_not] at*;simp only [bearing,retVal];repeat' split)<;>first|rfl|(exfalso;omega)
    ·refine X.skip C.1<|X.inBlock C.1<|Xr C U U<|Ad C U U<|Xt C func321<|Hp hret ?_
     (simp only [decide_eq_true_eq,decide_eq_false_iff_not] at*;simp only [bearing,retVal];repeat' split)<;>first|rfl|(exfalso;omega)
omit hJ in
theorem aside_range(r u:Bool):0≤aside r u∧aside r u≤7:=by cases r<;>cases u<;>simp [aside]
omit hJ in
theorem bearing_range(a z:Sq):0≤bearing a z∧bearing a z≤7:=by
 unfold bearing
 have:=aside_range (decide (z.e-a.e>0)) (decide (z.n-a.n>0))
 split
 ·exact this
 ·split
  ·omega
  ·split
   ·omega
   ·split<;>omega
omit hJ in
theorem isPlace_ok{s:Sq}(h:isPlace s=true):s.ok:=by
 simp only [isPlace,between,Bool.and_eq_true,decide_eq_true_eq] at h
 unfold Sq.ok;omega
def there(is:Bool):Int:=if is then 0 else 6
theorem there_c(is:Bool)(ro:RO):CallP prog J (fnv 169) [.bool is] ro (.int .i64 (there is)):=by
 refine CallP.intro hJ Kr fun c cs tail hret=>enter_X (n:=5) func169 U U (Nl U) ?_
 have C:Ctx prog main J (bf 169 .normal):=⟨hJ,by decide⟩
 refine Xr C U U<|Ad C U U<|Xs C<|Xr C U U<|Rm C U U<|R.not C U U U<|R.done C<|X.cond C.1 U (fun q1=>?_) (fun q1=>?_)
 ·refine Xr C U U<|Ad C U U<|Xt C func169<|Hp hret ?_
  simp_all [there,retVal]
 ·refine X.skip C.1<|Xr C U U<|Ad C U U<|Xt C func169<|Hp hret ?_
  simp_all [there,retVal]
def Bk.small(b:Bk):Prop:= -1000≤b.w∧b.w≤1000∧ -1000≤b.h∧b.h≤1000∧b.cs.length≤1000∧b.ws.length≤1000
def Bk.compass(b:Bk)(k:Int):Int:=there (between k 0 (b.cs.length-1))
def Bk.witness(b:Bk)(k:Int):Int:=there (between k 0 (b.ws.length-1))
theorem compass_c{b:Bk}{v:Value}{ro:RO}(hv:BkV ro v b)(hb:b.small)(k:Int):CallP prog J (fnv 74) [v, .int .i64 k] ro (.int .i64 (b.compass k)):=by
 obtain⟨vc,vw,rfl,hc,hw⟩:=hv
 obtain⟨h1,h2,h3,h4,h5,h6⟩:=hb
 obtain⟨b1,c1,rfl⟩:=hc.form
 refine CallP.intro hJ Kr fun c cs tail hret=>enter_X (n:=13) func74 U U (Nl U) ?_
 have C:Ctx prog main J (bf 74 .normal):=⟨hJ,by decide⟩
 refine Xr C U U<|R.box C U U U U fun p2=>Ad C U U<|Xr C U U<|Rm C U U<|Rf C 0 U U runUnderlying146 U sizeOf54<|Rf C 3 U U runUnderlying54 U sizeOf29<|Rl C U U isAgg29 V U<|Rn C U U runUnderlying29<|R.int C U U U U (b_sub O O)<|R.callP C U U U U (between_c hJ _ _ _ _)<|R.callP C U U U U (there_c hJ _ _)<|Ad C U U<|Xt C func74<|Hp hret ?_
 simp_all [Bk.compass,retVal]
def Bk.chart(b:Bk):Int:=if !between b.w 2 7|| !between b.h 2 7|| !between b.f 0 2 then 1 else 0
theorem chart_c{b:Bk}{v:Value}{ro:RO}(hv:BkV ro v b):CallP prog J (fnv 361) [v] ro (.int .i64 b.chart):=by
 obtain⟨vc,vw,rfl,hc,hw⟩:=hv
 refine CallP.intro hJ Kr fun c cs tail hret=>enter_X (n:=22) func361 U U (Nl U) ?_
 have C:Ctx prog main J (bf 361 .normal):=⟨hJ,by decide⟩
 refine Xr C U U<|R.box C U U U U fun p1=>Ad C U U<|Xs C<|Xr C U U<|Rf C 0 U U runUnderlying146 U sizeOf54<|Rf C 0 U U runUnderlying54 U sizeOf3<|Rl C U U isAgg3 V U<|R.callP C U U U U (between_c hJ _ _ _ _)<|R.not C U U U<|Rm C U U<|R.fix (t:=8) U (fun q1=>?_) (fun q1=>?_)
 ·refine R.pass C U U<|R.pass C U U<|R.pass C U U<|R.pass C U U<|R.pass C U U<|R.pickT C U U U U<|Rm C U U<|R.pass C U U<|R.pass C U U<|R.pass C U U<|R.pass C U U<|R.pass C U U<|R.pickT C U U U U<|R.done C<|X.cond C.1 U (fun _=>?_) (fun h=>nomatch h)
  refine Xr C U U<|Ad C U U<|Xt C func361<|Hp hret ?_
  simp_all [Bk.chart,retVal]
 ·refine Rf C 0 U U runUnderlying146 U sizeOf54<|Rf C 1 U U runUnderlying54 U sizeOf3<|Rl C U U isAgg3 V U<|R.callP C U U U U (between_c hJ _ _ _ _)<|R.not C U U U<|R.pickF C U U U U<|Rm C U U<|R.fix (t:=15) U (fun q2=>?_) (fun q2=>?_)
  ·refine R.pass C U U<|R.pass C U U<|R.pass C U U<|R.pass C U U<|R.pass C U U<|R.pickT C U U U U<|R.done C<|X.cond C.1 U (fun _=>?_) (fun h=>nomatch h)
   refine Xr C U U<|Ad C U U<|Xt C func361<|Hp hret ?_
   simp_all [Bk.chart,retVal]
  ·refine Rf C 0 U U runUnderlying146 U sizeOf54<|Rf C 2 U U runUnderlying54 U sizeOf3<|Rl C U U isAgg3 V U<|R.callP C U U U U (between_c hJ _ _ _ _)<|R.not C U U U<|R.pickF C U U U U<|R.done C<|X.cond C.1 U (fun q3=>?_) (fun q3=>?_)
   ·refine Xr C U U<|Ad C U U<|Xt C func361<|Hp hret ?_
    simp_all [Bk.chart,retVal]
   ·refine X.skip C.1<|Xr C U U<|Ad C U U<|Xt C func361<|Hp hret ?_
    simp_all [Bk.chart,retVal]
def right(w:Wt)(a:Aim):Bool:=decide (w.s=a.s)||((bearing w.s a.s+a.off w.k+8)%8==w.b)
theorem right_c{b:Bk}{v:Value}{ro:RO}(_hv:BkV ro v b)(w:Wt)(a:Aim)(hw:w.s.ok)(ha:a.s.ok)(h0:0≤w.k)(h1:w.k<3)(ho: -3≤a.off w.k∧a.off w.k≤3):CallP prog J (fnv 301) [v,w.val,a.val] ro (.bool (right w a)):=by
 obtain⟨vc,vw,rfl,_,_⟩:=_hv
 have hr:=bearing_range w.s a.s
 refine CallP.intro hJ Kr fun c cs tail hret=>enter_X (n:=30) func301 U U (Nl U) ?_
 have C:Ctx prog main J (bf 301 .normal):=⟨hJ,by decide⟩
 refine Xr C U U<|R.box C U U U U fun p3=>R.box C U U U U fun p4=>R.box C U U U U fun p5=>Ad C U U<|Xs C<|Xd C fun hok=>Df (off':=0) C 0 hok U U U runUnderlying290 U sizeOf157 U<|D5 C 1 hok U U isAgg157 sizeOf157 V Tk2<|Df (off':=0) C 2 hok U U U runUnderlying160 U sizeOf157 U<|D5 C 3 hok U U isAgg157 sizeOf157 V Tk2<|Dp 4 hok (fun _ _ _ A h=>R.eqAgg (p:= [w.s.e,w.s.n]) (q:= [a.s.e,a.s.n]) C U (A.w U U) (A.x U U) (A.x U U) eqT157 U U Kr h)<|Dm C 5 hok U U U<|D.fix (t:=12) U (fun q1=>?_) (fun q1=>?_)
 ·refine Du C 6 hok U<|Du C 7 hok U<|Du C 8 hok U<|Du C 9 hok U<|Du C 10 hok U<|Du C 11 hok U<|Du C 12 hok U<|Du C 13 hok U<|Du C 14 hok U<|Du C 15 hok U<|Du C 16 hok U<|Du C 17 hok U<|Du C 18 hok U<|Du C 19 hok U<|Du C 20 hok U<|Du C 21 hok U<|Dp 22 hok (fun _ _ _ A h=>R.pickT C U (A.w U U) (A.x U U) (A.x U U) h)<|Da C 23 hok U U<|D.done C hok Kr<|Xt C func301<|Hp hret ?_
  (obtain⟨⟨ae,an⟩,ax,ay,az⟩:=a;obtain⟨⟨we,wn⟩,wb,wk,wsu⟩:=w;simp_all [right,retVal])
 ·refine Df (off':=0) C 6 hok U U U runUnderlying290 U sizeOf157 U<|D5 C 7 hok U U isAgg157 sizeOf157 V Tk2<|Df (off':=0) C 8 hok U U U runUnderlying160 U sizeOf157 U<|D5 C 9 hok U U isAgg157 sizeOf157 V Tk2<|Df (off':=3) C 11 hok U U U runUnderlying290 U sizeOf3 U<|D1 C 12 hok U U isAgg3 V U<|Df (off':=2) C 13 hok U U U runUnderlying160 U sizeOf158 U<|Dp 14 hok (fun _ _ _ A h=>R.indexAddrA C U (A.w U U) (A.x U U) (A.x U U) runUnderlying158 sizeOf3 h0 h1 h)<|D1 C 15 hok U U isAgg3 V (Aim.get a h0 h1)<|Df (off':=2) C 19 hok U U U runUnderlying290 U sizeOf3 U<|D1 C 20 hok U U isAgg3 V U<|De 10 (some 17) [true,true,true,false,false,false,false] hok (fun _ _ A hk=>?_)
  refine R.callP C U (A.w U U) (A.x U U) (A.s U U) (bearing_c hJ _ _ hw ha _) (hk _ _ ⟨(QFs.cons (QF.of U (fun _ _ A h=>R.loadOne C U (A.w U U) (A.x U U) isAgg3 V U h)) (QFs.cons (QF.of U (fun _ _ A h=>R.loadOne C U (A.w U U) (A.x U U) isAgg3 V (Aim.get a h0 h1) h)) (QFs.cons (QF.of U (fun _ _ A h=>R.loadOne C U (A.w U U) (A.x U U) isAgg3 V U h)) QFs.nil))), ?_⟩)
  refine Di C 16 hok U U U U U (b_add O O)<|Di C 17 hok U U U U U (b_add O O)<|Di C 18 hok U U U U U (b_remP O O)<|Di C 21 hok U U U U U b_eql<|Dp 22 hok (fun _ _ _ A h=>R.pickF C U (A.w U U) (A.x U U) (A.x U U) h)<|Da C 23 hok U U<|D.done C hok Kr<|Xt C func301<|Hp hret ?_
  (obtain⟨⟨ae,an⟩,ax,ay,az⟩:=a;obtain⟨⟨we,wn⟩,wb,wk,wsu⟩:=w;simp_all [right,retVal])
theorem nothing_c{ro:RO}(b:Bk){v:Value}(hv:BkV ro v b):CallP prog J (fnv 171) [v] ro (.int .i64 0):=by
 obtain⟨vc,vw,rfl,hc,hw⟩:=hv
 refine CallP.intro hJ Kr fun c cs tail hret=>enter_X (n:=3) func171 U U (Nl U) ?_
 have C:Ctx prog main J (bf 171 .normal):=⟨hJ,by decide⟩
 refine Xr C U U<|R.box C U U U U fun p1=>Ad C U U<|Xr C U U<|Ad C U U<|Xt C func171<|Hp hret ?_
 rfl
end Go.Lg.N
namespace Go.Lg.N
open Go Go.Conc Go.Lg Go.Proofs Go.Lg.B Go.Proofs.Tryz
def maskOf(p:Nat→Bool):Nat→Nat
 |0=>0
 |n+1=>if p n then maskOf p n|||2^n else maskOf p n
theorem maskOf_lt(p:Nat→Bool):∀n,maskOf p n<2^n
 |0=>by simp [maskOf]
 |n+1=>by
  have:=maskOf_lt p n
  have h2:2^n<2^ (n+1):=Nat.pow_lt_pow_right O O
  simp only [maskOf]
  split
  ·exact Nat.or_lt_two_pow O h2
  ·omega
theorem pow62{n:Nat}(h:n≤62):2^n<2^63:=Nat.pow_lt_pow_right O O
theorem maskOf_lt63(p:Nat→Bool){n:Nat}(h:n≤62):maskOf p n<2^63:=Nat.lt_trans (maskOf_lt p n) (pow62 h)
instance : Inhabited Sq := ⟨⟨0, 0⟩⟩
instance : Inhabited Wt := ⟨⟨default, 0, 0, false⟩⟩
instance : Inhabited Rc := ⟨⟨0, 0⟩⟩
def Wt.fine(w:Wt)(n:Nat):Bool:=isPlace w.s && between w.b 0 7 && (decide (0≤w.k) && decide (w.k<n))
def Rc.fine(x:Rc):Bool:=isReach x (-3) 3 && decide (x.hi-x.lo<3)
structure Bk.good(b:Bk):Prop where
 w:2≤b.w∧b.w≤7
 h:2≤b.h∧b.h≤7
 f:0≤b.f∧b.f≤2
 nc:1≤b.cs.length∧b.cs.length≤3
 cs:∀x∈b.cs,x.fine=true
 nw:b.ws.length≤5
 ws:∀x∈b.ws,x.fine b.cs.length=true
theorem Bk.good.small{b:Bk}(h:b.good):b.small:=by
 obtain⟨h1,h2,h3,h4,_,h5,_⟩:=h
 unfold Bk.small;omega
structure Aim.good(a:Aim):Prop where
 s:a.s.ok
 o:∀k, -3≤a.off k∧a.off k≤3
theorem Wt.fine.ok{w:Wt}{n:Nat}(h:w.fine n=true):w.s.ok∧(0≤w.b∧w.b≤7)∧0≤w.k∧w.k<n:=by
 simp only [Wt.fine,Bool.and_eq_true,between,decide_eq_true_eq] at h
 exact⟨isPlace_ok h.1.1,h.1.2,h.2⟩
def Bk.wt(b:Bk)(i:Nat):Wt:=b.ws.getD i default
theorem Bk.wt_get{b:Bk}{i:Nat}(h:i<b.ws.length):b.ws[i]=b.wt i:=by simp [Bk.wt,h]
def odd(b:Bk)(a:Aim):Nat:=maskOf (fun i=> !right (b.wt i) a) b.ws.length
def sureM(b:Bk):Nat:=maskOf (fun i=>(b.wt i).sure) b.ws.length
def bitsUpto(m:Nat):Nat→List Int
 |0=> []
 |n+1=>if m.testBit n then bitsUpto m n++ [(n:Int)] else bitsUpto m n
def listOf(m:Nat):List Int:=bitsUpto m 5
theorem bitsUpto_len(m:Nat):∀n,(bitsUpto m n).length≤n
 |0=>by simp [bitsUpto]
 |n+1=>by
  have:=bitsUpto_len m n
  simp only [bitsUpto];split<;>simp<;>omega
variable {main:Bool}{J:Goroutine→Mem→Prop}(hJ:Closed prog main J)
include hJ
theorem odd_c{b:Bk}{v:Value}{ro:RO}(hv:BkV ro v b)(hb:b.good)(a:Aim)(ha:a.good):CallP prog J (fnv 235) [v,a.val] ro (.int .i64 (odd b a:Int)):=by
 have hvv:=hv
 obtain⟨vc,vw,rfl,hc,hw⟩:=hv
 obtain⟨b1,c1,rfl⟩:=hw.form
 have hn:=hb.nw
 refine CallP.intro hJ Kr fun c cs tail hret=>enter_X (n:=28) func235 U U (Nl U) ?_
 have C:Ctx prog main J (bf 235 .normal):=⟨hJ,by decide⟩
 refine Xr C U U<|R.box C U U U U fun p2=>R.box C U U U U fun p3=>Ad C U U<|Xr C U U<|Ad C U U<|Xs C<|Xr C U U<|Rf C 0 U U runUnderlying146 U sizeOf54<|Rf C 4 U U runUnderlying54 U sizeOf52<|Rl C U U isAgg52 V U<|Rn C U U runUnderlying52<|Rm C U U<|R.done C<|X.block C.1<|X.loopI (ι:=Nat) C.1 (fun i=>i≤b.ws.length) (fun i=> [(5, .int .i64 (maskOf (fun i=> !right (b.wt i) a) i:Int)),(10, .slice b1 b.ws.length c1),(11, .int .i64 (b.ws.length:Int)),(12, .int .i64 (i:Int)),(3, .pointer (some ⟨p3,0,none⟩)),(2, .pointer (some ⟨p2,0,none⟩))])
  (fun _=>⟨ro,(p3, .cells a.cells.toArray 160 (0,0))::(p2, .cells [.int .i64 b.w, .int .i64 b.h, .int .i64 b.f,vc, .slice b1 b.ws.length c1].toArray 146 (0,0))::tail⟩) (fun i=>b.ws.length-i) 0 (Nat.zero_le _) rfl ⟨U,U,U,U,U,U,trivial⟩ fun i hi hnext=>?_
 refine Xr C U U<|R.int C U U U U b_lss<|R.done C<|Xs C<|Xk C U (fun hlt=>?_) (fun hlt=>?_)
 ·have hi':i<b.ws.length:=O
  obtain⟨p,off,cap,l,t,fq,hsl,hrop,hsub⟩:=hw.at Wt.len O
  cases hsl
  have hok:=Wt.fine.ok (hb.ws _ (List.getElem_mem hi'))
  have hk3:(b.ws[i]).k<3:=by have:=hb.nc;omega
  refine X.skip C.1<|Xs C<|X.block C.1<|Xr C U U<|Rm C U U<|Rx C U U U runUnderlying52 sizeOf290<|R.loadAggRo C U U U isAgg290 sizeOf290 hrop (hsub i hi')<|R.alloc C U U zeroValue290 U fun p7=>R.asg C U U U<|R.store C U U U U sizeOf290 U U U V Ph5<|R.done C<|Xr C U U<|R5 C U U isAgg146 sizeOf146 V Tk5<|R5 C U U isAgg290 sizeOf290 V Tk5<|R5 C U U isAgg160 sizeOf160 V Tk5<|R.callP C U U U U (right_c hJ hvv _ a hok.1 ha.s hok.2.2.1 hk3 (ha.o _))<|R.not C U U U<|R.done C<|X.cond C.1 U (fun hr=>?_) (fun hr=>?_)
  ·refine X.region C U U<|Rm C U U<|Rm C U U<|R.shift C U U U U (b_shlN O O)<|R.int C U U U U (b_or (maskOf_lt63 _ O) (pow62 O))<|Ad C U U<|X.inBlock C.1<|X.region C U U<|Ra C U U U<|Rm C U U<|R.done C<|X.weak C.1 (Weak.sub (List.sublist_cons_self _ _)) (X.weaken ?_ (hnext (i+1) O O))
   rw [Bk.wt_get hi'] at hr
   exact⟨by simp [look,maskOf,hr,putS],rfl,rfl,by simp [look],rfl,rfl,trivial⟩
  ·refine X.skip C.1<|X.inBlock C.1<|X.region C U U<|Ra C U U U<|Rm C U U<|R.done C<|X.weak C.1 (Weak.sub (List.sublist_cons_self _ _)) (X.weaken ?_ (hnext (i+1) O O))
   rw [Bk.wt_get hi'] at hr
   exact⟨by simp [look,maskOf,hr,putS],rfl,rfl,by simp [look],rfl,rfl,trivial⟩
 ·obtain rfl:i=b.ws.length:=by omega
  refine X.exit C.1 U<|Xr C U U<|Rm C U U<|Ad C U U<|Xt C func235<|Hp hret ?_
  rfl
theorem sure_c{b:Bk}{v:Value}{ro:RO}(hv:BkV ro v b)(hn:b.ws.length≤5):CallP prog J (fnv 233) [v] ro (.int .i64 (sureM b:Int)):=by
 obtain⟨vc,vw,rfl,hc,hw⟩:=hv
 obtain⟨b1,c1,rfl⟩:=hw.form
 refine CallP.intro hJ Kr fun c cs tail hret=>enter_X (n:=23) func233 U U (Nl U) ?_
 have C:Ctx prog main J (bf 233 .normal):=⟨hJ,by decide⟩
 refine Xr C U U<|R.box C U U U U fun p1=>Ad C U U<|Xr C U U<|Ad C U U<|Xs C<|Xr C U U<|Rf C 0 U U runUnderlying146 U sizeOf54<|Rf C 4 U U runUnderlying54 U sizeOf52<|Rl C U U isAgg52 V U<|Rn C U U runUnderlying52<|Rm C U U<|R.done C<|X.block C.1<|X.loopI (ι:=Nat) C.1 (fun i=>i≤b.ws.length) (fun i=> [(3, .int .i64 (maskOf (fun i=>(b.wt i).sure) i:Int)),(8, .slice b1 b.ws.length c1),(9, .int .i64 (b.ws.length:Int)),(10, .int .i64 (i:Int)),(1, .pointer (some ⟨p1,0,none⟩))])
  (fun _=>⟨ro,(p1, .cells [.int .i64 b.w, .int .i64 b.h, .int .i64 b.f,vc, .slice b1 b.ws.length c1].toArray 146 (0,0))::tail⟩) (fun i=>b.ws.length-i) 0 (Nat.zero_le _) rfl ⟨U,U,U,U,U,trivial⟩ fun i hi hnext=>?_
 refine Xr C U U<|R.int C U U U U b_lss<|R.done C<|Xs C<|Xk C U (fun hlt=>?_) (fun hlt=>?_)
 ·have hi':i<b.ws.length:=O
  obtain⟨p,off,cap,l,t,fq,hsl,hrop,hsub⟩:=hw.at Wt.len O
  cases hsl
  refine X.skip C.1<|Xs C<|X.block C.1<|Xr C U U<|Rm C U U<|Rx C U U U runUnderlying52 sizeOf290<|R.loadAggRo C U U U isAgg290 sizeOf290 hrop (hsub i hi')<|R.alloc C U U zeroValue290 U fun p5=>R.asg C U U U<|R.store C U U U U sizeOf290 U U U V Ph5<|R.done C<|Xr C U U<|Rf C 4 U U runUnderlying290 U sizeOf4<|Rl C U U isAgg4 V U<|R.done C<|X.cond C.1 U (fun hr=>?_) (fun hr=>?_)
  ·refine X.region C U U<|Rm C U U<|Rm C U U<|R.shift C U U U U (b_shlN O O)<|R.int C U U U U (b_or (maskOf_lt63 _ O) (pow62 O))<|Ad C U U<|X.inBlock C.1<|X.region C U U<|Ra C U U U<|Rm C U U<|R.done C<|X.weak C.1 (Weak.sub (List.sublist_cons_self _ _)) (X.weaken ?_ (hnext (i+1) O O))
   rw [Bk.wt_get hi'] at hr
   exact⟨by simp [look,maskOf,hr,putS],rfl,rfl,by simp [look],rfl,trivial⟩
  ·refine X.skip C.1<|X.inBlock C.1<|X.region C U U<|Ra C U U U<|Rm C U U<|R.done C<|X.weak C.1 (Weak.sub (List.sublist_cons_self _ _)) (X.weaken ?_ (hnext (i+1) O O))
   rw [Bk.wt_get hi'] at hr
   exact⟨by simp [look,maskOf,hr,putS],rfl,rfl,by simp [look],rfl,trivial⟩
 ·obtain rfl:i=b.ws.length:=by omega
  refine X.exit C.1 U<|Xr C U U<|Rm C U U<|Ad C U U<|Xt C func233<|Hp hret ?_
  rfl
theorem list_c{m:Nat}{ro:RO}(hm:m<2^63):CallR prog J (fnv 236) [.int .i64 (m:Int)] ro (fun v ro'=>LsI ro' v (listOf m)):=by
 refine CallR.intro hJ Kr fun c cs tail hret=>enter_X (n:=19) func236 U U (Nl U) ?_
 have C:Ctx prog main J (bf 236 .normal):=⟨hJ,by decide⟩
 refine Xr C U U<|Ad C U U<|Xr C U U<|Ad C U U<|Xs C<|Xr C U U<|Rm C U U<|R.done C<|X.block C.1<|X.loopI (ι:=Nat×Value×List (Nat×Obj)) C.1 (fun s=>s.1≤5∧Buf 3 1 tail s.2.1 ((bitsUpto m s.1).flatMap ic) s.2.2) (fun s=> [(0, .int .i64 (m:Int)),(3,s.2.1),(5, .int .i64 (s.1:Int))])
  (fun s=>⟨ro,s.2.2⟩) (fun s=>5-s.1) (0, .slice none 0 0,tail) ⟨by simp, .nil⟩ rfl ⟨U,U,U,trivial⟩ fun s hs hnext=>?_
 obtain⟨i,v0,own0⟩:=s
 obtain⟨hi,hb⟩:=hs
 simp only at hi hb hnext⊢
 refine Xr C U U<|R.int C U U U U b_lss<|R.done C<|Xs C<|Xk C U (fun hlt=>?_) (fun hlt=>?_)
 ·have hi':i<5:=O
  refine X.skip C.1<|Xs C<|X.block C.1<|Xr C U U<|Rm C U U<|Ad C U U<|Xr C U U<|Rm C U U<|Rm C U U<|R.shift C U U U U (b_shrN O O)<|R.int C U U U U (b_and1 (Nat.lt_of_le_of_lt (Nat.shiftRight_le _ _) hm))<|R.int C U U U U b_eql<|R.done C<|X.cond C.1 U (fun hr=>?_) (fun hr=>?_)
  ·have hbl:=bitsUpto_len m i
   have hfl:=flat_len (bitsUpto m i)
   refine X.region C U U<|Rm C U U<|Rm C U U<|R.buildSlice C (vs:=_) U U (show pvals _ _=some (numbered 0 [_]) from rfl) U runUnderlying58 sizeOf3 zeroValue3 Dd (Cat.one U U) fun p15=>R.append1 (kk:=1) C U U U U runUnderlying58 runUnderlying58 (fun _=>nofun) (show prog.info? 3=some Tryz.t3 by kernel_rfl) U U U Dd Dd hb U U (by simp only [List.length_append,List.length_cons,List.length_nil];omega) fun v' own' hb'=>Ad C U U<|X.inBlock C.1<|X.region C U U<|Ra C U U U<|Rm C U U<|R.done C ?_
   rw [Int.toNat_natCast,bit_one] at hr
   refine X.weaken (σ':= [(0, .int .i64 (m:Int)),(3,v'),(5, .int .i64 ((i+1:Nat):Int))]) ⟨rfl,rfl,by simp [look],trivial⟩ (hnext (i+1,v',own') ⟨hi', ?_⟩ Zo)
   simpa [bitsUpto,hr,ic] using hb'
  ·refine X.skip C.1<|X.inBlock C.1<|X.region C U U<|Ra C U U U<|Rm C U U<|R.done C ?_
   rw [Int.toNat_natCast,bit_one] at hr
   refine X.weaken (σ':= [(0, .int .i64 (m:Int)),(3,v0),(5, .int .i64 ((i+1:Nat):Int))]) ⟨rfl,rfl,by simp [look],trivial⟩ (hnext (i+1,v0,own0) ⟨hi', ?_⟩ Zo)
   simpa [bitsUpto,hr] using hb
 ·obtain rfl:i=5:=by omega
  refine X.exit C.1 U<|Xr C U U<|Rm C U U<|Ad C U U<|X.finish C.1 ic_len Dd hb fun ro' hl hls=>Xt C func236<|Hr hret hl ?_
  exact hls
end Go.Lg.N
namespace Go.Lg.N
open Go Go.Conc Go.Lg Go.Proofs Go.Lg.B Go.Proofs.Tryz
def csH:List Rc→Int
 | []=>0
 |x::l=>if !x.fine then 1 else csH l
def Bk.compassesH(b:Bk):Int:=if !between b.cs.length 1 3 then 2 else csH b.cs
def wtsH(n:Nat):List Wt→Int
 | []=>0
 |w::l=>if !isPlace w.s|| !between w.b 0 7 then 1 else if there (between w.k 0 (n-1))≠0 then 6 else wtsH n l
def Bk.witnessesH(b:Bk):Int:=if b.ws.length>5 then 2 else wtsH b.cs.length b.ws
def checkChart(b:Bk):Int:=if b.chart≠0 then b.chart else if b.compassesH≠0 then b.compassesH else b.witnessesH
def Bk.short(b:Bk):Prop:=b.cs.length≤1000∧b.ws.length≤1000
theorem csH_zero:∀ {l:List Rc},csH l=0↔ ∀x∈l,x.fine=true
 | []=>by simp [csH]
 |x::l=>by
  have:=csH_zero (l:=l)
  simp only [csH]
  cases h:x.fine<;>simp [h,this]
theorem wtsH_zero{n:Nat}:∀ {l:List Wt},wtsH n l=0↔ ∀x∈l,x.fine n=true
 | []=>by simp [wtsH]
 |x::l=>by
  have ih:=wtsH_zero (n:=n) (l:=l)
  simp only [wtsH]
  have hk:(there (between x.k 0 (n-1))≠0)↔ ¬((decide (0≤x.k) && decide (x.k<n))=true):=by
   simp only [there,between]
   by_cases h1:0≤x.k<;>by_cases h2:x.k<n<;>simp [h1,h2]<;>omega
  by_cases h1:isPlace x.s=true<;>by_cases h2:between x.b 0 7=true<;>by_cases h3:(decide (0≤x.k) && decide (x.k<n))=true<;>simp [h1,h2,hk,h3,ih,Wt.fine]<;>simp_all<;>(intro a1 a2;omega)
theorem chart_zero{b:Bk}:b.chart=0↔(2≤b.w∧b.w≤7)∧(2≤b.h∧b.h≤7)∧(0≤b.f∧b.f≤2):=by
 simp only [Bk.chart,between,Bool.or_eq_true,Bool.not_eq_true',Bool.and_eq_false_iff,decide_eq_false_iff_not]
 constructor
 ·intro h
  split at h
  ·cases h
  ·omega
 ·intro h
  rw [if_neg O]
theorem good_iff{b:Bk}:checkChart b=0↔b.good:=by
 have hc:=chart_zero (b:=b)
 have h2:b.compassesH=0↔(1≤b.cs.length∧b.cs.length≤3)∧∀x∈b.cs,x.fine=true:=by
  rw [←csH_zero]
  simp only [Bk.compassesH,between]
  by_cases h:(1≤b.cs.length∧b.cs.length≤3)
  ·have:(decide ((1:Int)≤b.cs.length) && decide ((b.cs.length:Int)≤3))=true:=by simp;omega
   simp [this,h]
  ·have:(decide ((1:Int)≤b.cs.length) && decide ((b.cs.length:Int)≤3))=false:=by simp;omega
   simp [this,h]
 have h3:b.witnessesH=0↔b.ws.length≤5∧∀x∈b.ws,x.fine b.cs.length=true:=by
  rw [←wtsH_zero]
  simp only [Bk.witnessesH]
  split
  ·simp;omega
  ·simp;omega
 unfold checkChart
 constructor
 ·intro h
  split at h
  ·contradiction
  ·split at h
   ·contradiction
   ·rename_i e1 e2
    simp only [ne_eq,Decidable.not_not] at e1 e2
    obtain⟨a1,a2,a3⟩:=hc.1 e1
    obtain⟨b1,b2⟩:=h2.1 e2
    obtain⟨c1,c2⟩:=h3.1 h
    exact⟨a1,a2,a3,b1,b2,c1,c2⟩
 ·rintro⟨a1,a2,a3,b1,b2,c1,c2⟩
  rw [if_neg (by simpa using hc.2 ⟨a1,a2,a3⟩),if_neg (by simpa using h2.2 ⟨b1,b2⟩),h3.2 ⟨c1,c2⟩]
def Env(ro:RO):Prop:= ∃t fq,ro 1=some (.cells [fnv 361,fnv 362,fnv 363].toArray t fq)
theorem Env.mono{ro ro':RO}(h:Env ro)(hl:ro.le ro'):Env ro':=let⟨t,fq,e⟩:=h;⟨t,fq,hl _ _ e⟩
theorem isReach_bd{x:Rc}(h:isReach x (-3) 3=true): -3≤x.lo∧x.lo≤x.hi∧x.hi≤3:=by
 simpa [isReach,and_assoc] using h
variable {main:Bool}{J:Goroutine→Mem→Prop}(hJ:Closed prog main J)
include hJ
theorem compasses_c{b:Bk}{v:Value}{ro:RO}(hv:BkV ro v b)(hs:b.short):CallP prog J (fnv 362) [v] ro (.int .i64 b.compassesH):=by
 obtain⟨vc,vw,rfl,hc,hw⟩:=hv
 obtain⟨b1,c1,rfl⟩:=hc.form
 obtain⟨hs1,hs2⟩:=hs
 refine CallP.intro hJ Kr fun c cs tail hret=>enter_X (n:=31) func362 U U (Nl U) ?_
 have C:Ctx prog main J (bf 362 .normal):=⟨hJ,by decide⟩
 refine Xr C U U<|R.box C U U U U fun p1=>Ad C U U<|Xs C<|Xr C U U<|Rf C 0 U U runUnderlying146 U sizeOf54<|Rf C 3 U U runUnderlying54 U sizeOf29<|Rl C U U isAgg29 V U<|Rn C U U runUnderlying29<|R.callP C U U U U (between_c hJ _ _ _ _)<|R.not C U U U<|R.done C<|X.cond C.1 U (fun hn=>?_) (fun hn=>?_)
 ·refine Xr C U U<|Ad C U U<|Xt C func362<|Hp hret ?_
  simp_all [Bk.compassesH,retVal]
 ·refine X.skip C.1<|Xs C<|Xr C U U<|Rf C 0 U U runUnderlying146 U sizeOf54<|Rf C 3 U U runUnderlying54 U sizeOf29<|Rl C U U isAgg29 V U<|Rn C U U runUnderlying29<|Rm C U U<|R.done C<|X.block C.1<|X.loopI (ι:=Nat) C.1 (fun i=>i≤b.cs.length∧csH (b.cs.drop i)=csH b.cs) (fun i=> [(13, .slice b1 b.cs.length c1),(14, .int .i64 (b.cs.length:Int)),(15, .int .i64 (i:Int)),(1, .pointer (some ⟨p1,0,none⟩))])
   (fun _=>⟨ro,(p1, .cells [.int .i64 b.w, .int .i64 b.h, .int .i64 b.f, .slice b1 b.cs.length c1,vw].toArray 146 (0,0))::tail⟩) (fun i=>b.cs.length-i) 0 ⟨Nat.zero_le _,rfl⟩ rfl ⟨U,U,U,U,trivial⟩ fun i hi hnext=>?_
  obtain⟨hi,hr⟩:=hi
  refine Xr C U U<|R.int C U U U U b_lss<|R.done C<|Xs C<|Xk C U (fun hlt=>?_) (fun hlt=>?_)
  ·have hi':i<b.cs.length:=O
   obtain⟨p,off,cap,l,t,fq,hsl,hrop,hsub⟩:=hc.at Rc.len O
   cases hsl
   rw [List.drop_eq_getElem_cons hi'] at hr
   simp only [csH] at hr
   refine X.skip C.1<|Xs C<|X.block C.1<|Xr C U U<|Rx C U U U runUnderlying29 sizeOf45<|R.loadAggRo C U U U isAgg45 sizeOf45 hrop (hsub i hi')<|R.alloc C U U zeroValue45 U fun p4=>R.store C U U U U sizeOf45 U U U V Ph2<|R.done C<|Xr C U U<|R5 C U U isAgg45 sizeOf45 V Tk2<|R.callP C U U U U (isReach_c hJ _ _ _ _)<|R.not C U U U<|Rm C U U<|R.fix (t:=22) U (fun hg=>?_) (fun hg=>?_)
   ·refine R.pass C U U<|R.pass C U U<|R.pass C U U<|R.pass C U U<|R.pass C U U<|R.pass C U U<|R.pickT C U U U U<|R.done C<|X.cond C.1 U (fun _=>?_) (fun h=>nomatch h)
    refine Xr C U U<|Ad C U U<|Xt C func362<|Hp hret ?_
    have hf:(b.cs[i]).fine=false:=by simp at hg;simp [Rc.fine,hg]
    simp [hf] at hr
    simp_all [Bk.compassesH,retVal]
   ·have hbd:=isReach_bd (x:=b.cs[i]) (by simpa using hg)
    refine Rf C 1 U U runUnderlying45 U sizeOf3<|Rl C U U isAgg3 V U<|Rf C 0 U U runUnderlying45 U sizeOf3<|Rl C U U isAgg3 V U<|R.int C U U U U (b_sub O O)<|R.int C U U U U b_geq<|R.pickF C U U U U<|R.done C<|X.cond C.1 U (fun hd=>?_) (fun hd=>?_)
    ·refine Xr C U U<|Ad C U U<|Xt C func362<|Hp hret ?_
     have hf:(b.cs[i]).fine=false:=by simp at hd;simp [Rc.fine];intro _;omega
     simp [hf] at hr
     simp_all [Bk.compassesH,retVal]
    ·refine X.skip C.1<|X.inBlock C.1<|X.region C U U<|Ra C U U U<|Rm C U U<|R.done C ?_
     have hf:(b.cs[i]).fine=true:=by simp at hd hg;simp [Rc.fine,hg];omega
     simp [hf] at hr
     refine X.weak C.1 (Weak.sub (List.sublist_cons_self _ _)) (X.weaken ?_ (hnext (i+1) ⟨O,hr⟩ O))
     exact⟨rfl,rfl,by simp [look],rfl,trivial⟩
  ·obtain rfl:i=b.cs.length:=by omega
   simp [csH] at hr
   refine X.exit C.1 U<|Xr C U U<|Ad C U U<|Xt C func362<|Hp hret ?_
   simp_all [Bk.compassesH,retVal]
theorem witnesses_c{b:Bk}{v:Value}{ro:RO}(hv:BkV ro v b)(hs:b.small):CallP prog J (fnv 363) [v] ro (.int .i64 b.witnessesH):=by
 have hvv:=hv
 obtain⟨vc,vw,rfl,hc,hw⟩:=hv
 obtain⟨b1,c1,rfl⟩:=hw.form
 have hs0:=hs
 obtain⟨_,_,_,_,hs1,hs2⟩:=hs
 refine CallP.intro hJ Kr fun c cs tail hret=>enter_X (n:=36) func363 U U (Nl U) ?_
 have C:Ctx prog main J (bf 363 .normal):=⟨hJ,by decide⟩
 refine Xr C U U<|R.box C U U U U fun p1=>Ad C U U<|Xs C<|Xr C U U<|Rf C 0 U U runUnderlying146 U sizeOf54<|Rf C 4 U U runUnderlying54 U sizeOf52<|Rl C U U isAgg52 V U<|Rn C U U runUnderlying52<|R.int C U U U U b_gtr<|R.done C<|X.cond C.1 U (fun hn=>?_) (fun hn=>?_)
 ·refine Xr C U U<|Ad C U U<|Xt C func363<|Hp hret ?_
  simp at hn
  simp [Bk.witnessesH,retVal];omega
 ·simp at hn
  refine X.skip C.1<|Xs C<|Xr C U U<|Rf C 0 U U runUnderlying146 U sizeOf54<|Rf C 4 U U runUnderlying54 U sizeOf52<|Rl C U U isAgg52 V U<|Rn C U U runUnderlying52<|Rm C U U<|R.done C<|X.block C.1<|X.loopI (ι:=Nat) C.1 (fun i=>i≤b.ws.length∧wtsH b.cs.length (b.ws.drop i)=wtsH b.cs.length b.ws) (fun i=> [(12, .slice b1 b.ws.length c1),(13, .int .i64 (b.ws.length:Int)),(14, .int .i64 (i:Int)),(1, .pointer (some ⟨p1,0,none⟩))])
   (fun _=>⟨ro,(p1, .cells [.int .i64 b.w, .int .i64 b.h, .int .i64 b.f,vc, .slice b1 b.ws.length c1].toArray 146 (0,0))::tail⟩) (fun i=>b.ws.length-i) 0 ⟨Nat.zero_le _,rfl⟩ rfl ⟨U,U,U,U,trivial⟩ fun i hi hnext=>?_
  obtain⟨hi,hr⟩:=hi
  refine Xr C U U<|R.int C U U U U b_lss<|R.done C<|Xs C<|Xk C U (fun hlt=>?_) (fun hlt=>?_)
  ·have hi':i<b.ws.length:=O
   obtain⟨p,off,cap,l,t,fq,hsl,hrop,hsub⟩:=hw.at Wt.len O
   cases hsl
   rw [List.drop_eq_getElem_cons hi'] at hr
   simp only [wtsH] at hr
   refine X.skip C.1<|Xs C<|X.block C.1<|Xr C U U<|Rx C U U U runUnderlying52 sizeOf290<|R.loadAggRo C U U U isAgg290 sizeOf290 hrop (hsub i hi')<|R.alloc C U U zeroValue290 U fun p4=>R.store C U U U U sizeOf290 U U U V Ph5<|R.done C<|X.block C.1<|Xr C U U<|Rf C 0 U U runUnderlying290 U sizeOf157<|R5 C U U isAgg157 sizeOf157 V Tk2<|R.callP C U U U U (isPlace_c hJ (b.ws[i]).s _)<|R.not C U U U<|Rm C U U<|R.fix (t:=23) U (fun hg=>?_) (fun hg=>?_)
   ·refine R.pass C U U<|R.pass C U U<|R.pass C U U<|R.pass C U U<|R.pickT C U U U U<|Ad C U U<|X.cond C.1 U (fun _=>?_) (fun h=>nomatch h)
    refine Xr C U U<|Ad C U U<|Xt C func363<|Hp hret ?_
    simp at hg
    simp [hg] at hr
    simp [Bk.witnessesH,retVal, ←hr];omega
   ·refine Rf C 2 U U runUnderlying290 U sizeOf3<|Rl C U U isAgg3 V U<|R.callP C U U U U (between_c hJ _ _ _ _)<|R.not C U U U<|R.pickF C U U U U<|Ad C U U<|X.cond C.1 U (fun hd=>?_) (fun hd=>?_)
    ·refine Xr C U U<|Ad C U U<|Xt C func363<|Hp hret ?_
     simp at hg hd
     simp [hg,hd] at hr
     simp [Bk.witnessesH,retVal, ←hr];omega
    ·refine Xr C U U<|R5 C U U isAgg146 sizeOf146 V Tk5<|Rf C 3 U U runUnderlying290 U sizeOf3<|Rl C U U isAgg3 V U<|R.callP C U U U U (compass_c hJ (by assumption) (by assumption) _)<|R.int C U U U U b_neq<|Ad C U U<|X.cond C.1 U (fun hk=>?_) (fun hk=>?_)
     ·refine Xr C U U<|Ad C U U<|Xt C func363<|Hp hret ?_
      simp at hg hd hk
      simp [hg,hd] at hr
      simp only [Bk.compass] at hk
      simp [hk] at hr
      simp [Bk.witnessesH,retVal, ←hr];omega
     ·refine X.skip C.1<|X.inBlock C.1<|X.inBlock C.1<|X.region C U U<|Ra C U U U<|Rm C U U<|R.done C ?_
      simp at hg hd hk
      simp [hg,hd] at hr
      simp only [Bk.compass] at hk
      simp [hk] at hr
      refine X.weak C.1 (Weak.sub (List.sublist_cons_self _ _)) (X.weaken ?_ (hnext (i+1) ⟨O,hr⟩ O))
      exact⟨rfl,rfl,by simp [look],rfl,trivial⟩
  ·obtain rfl:i=b.ws.length:=by omega
   simp [wtsH] at hr
   refine X.exit C.1 U<|Xr C U U<|Ad C U U<|Xt C func363<|Hp hret ?_
   simp [Bk.witnessesH,retVal, ←hr];omega
def hit(b:Bk):Nat→Int
 |0=>b.chart
 |1=>b.compassesH
 |_=>b.witnessesH
theorem checkChart_c{b:Bk}{v:Value}{ro:RO}(he:Env ro)(hv:BkV ro v b)(hs:b.short):CallP prog J (fnv 73) [v] ro (.int .i64 (checkChart b)):=by
 have hvv:=hv
 obtain⟨vc,vw,rfl,hc,hw⟩:=hv
 obtain⟨et,efq,he⟩:=he
 refine CallP.intro hJ Kr fun c cs tail hret=>enter_X (n:=18) func73 U U (Nl U) ?_
 have C:Ctx prog main J (bf 73 .normal):=⟨hJ,by decide⟩
 refine Xr C U U<|R.box C U U U U fun p1=>Ad C U U<|Xs C<|Xr C U U<|R.loadAggRo C U U U isAgg293 sizeOf293 he Tk3<|Rm C U U<|R.done C<|X.block C.1<|X.loopI (ι:=Nat) C.1 (fun i=>i≤3∧∀j,j<i→hit b j=0) (fun i=> [(6, .agg [fnv 361,fnv 362,fnv 363].toArray),(7, .int .i64 (i:Int)),(1, .pointer (some ⟨p1,0,none⟩))])
  (fun _=>⟨ro,(p1, .cells [.int .i64 b.w, .int .i64 b.h, .int .i64 b.f,vc,vw].toArray 54 (0,0))::tail⟩) (fun i=>3-i) 0 ⟨Nat.zero_le _,fun j hj=>absurd hj (Nat.not_lt_zero _)⟩ rfl ⟨U,U,U,trivial⟩ fun i hi hnext=>?_
 obtain⟨hi,hr⟩:=hi
 refine Xr C U U<|R.int C U U U U b_lss<|R.done C<|Xs C<|Xk C U (fun hlt=>?_) (fun hlt=>?_)
 ·have hi':i<3:=O
  have hget: [fnv 361,fnv 362,fnv 363][((i:Int)).toNat*1]? =some (fnv (361+i)):=by
   have:i=0∨i=1∨i=2:=O
   rcases this with rfl|rfl|rfl<;>rfl
  have hcall:CallP prog J (fnv (361+i)) [.agg [.int .i64 b.w, .int .i64 b.h, .int .i64 b.f,vc,vw].toArray] ro (.int .i64 (hit b i)):=by
   have:i=0∨i=1∨i=2:=O
   rcases this with rfl|rfl|rfl
   ·exact chart_c hJ hvv
   ·exact compasses_c hJ hvv hs
   ·refine witnesses_c hJ hvv ?_
    have:=chart_zero.1 (hr 0 O)
    unfold Bk.small;unfold Bk.short at hs;omega
  refine X.skip C.1<|Xs C<|X.block C.1<|Xr C U U<|R.index C U U U U runUnderlying293 isAgg155 sizeOf155 O O hget<|Ad C U U<|Xr C U U<|Rm C U U<|R5 C U U isAgg54 sizeOf54 V Tk5 ?_;refine R.build C U U U zeroValue146 U runUnderlying146 Kr (Fills.part U U sizeOf54 U Ph5 .nil)<|R.callP C U U U U (hcall)<|Ad C U U<|Xr C U U<|Rm C U U<|R.int C U U U U b_neq<|R.done C<|X.cond C.1 U (fun hh=>?_) (fun hh=>?_)
  ·refine Xr C U U<|Rm C U U<|Ad C U U<|Xt C func73<|Hp hret ?_
   simp at hh
   have:i=0∨i=1∨i=2:=O
   rcases this with rfl|rfl|rfl
   ·simp [hit] at hh;simp [checkChart,hh,retVal,hit]
   ·have h0:=hr 0 O;simp [hit] at hh h0;simp [checkChart,hh,h0,retVal,hit]
   ·have h0:=hr 0 O;have h1:=hr 1 O;simp [hit] at hh h0 h1;simp [checkChart,h0,h1,retVal,hit]
  ·refine X.skip C.1<|X.inBlock C.1<|X.region C U U<|Ra C U U U<|Rm C U U<|R.done C ?_
   simp at hh
   refine X.weaken ?_ (hnext (i+1) ⟨O,fun j hj=>?_⟩ O)
   ·exact⟨rfl,by simp [look],rfl,trivial⟩
   ·by_cases e:j=i
    ·rw [e];exact hh
    ·exact hr j O
 ·obtain rfl:i=3:=by omega
  refine X.exit C.1 U<|Xr C U U<|Ad C U U<|Xt C func73<|Hp hret ?_
  have h0:=hr 0 O;have h1:=hr 1 O;have h2:=hr 2 O
  simp [hit] at h0 h1 h2;simp [checkChart,h0,h1,h2,retVal]
end Go.Lg.N
namespace Go.Lg.N
open Go Go.Conc Go.Lg Go.Proofs Go.Lg.B Go.Proofs.Tryz
def offs:List Rc→Nat→Aim→List Aim
 | [],_,a=> [a]
 |x::l,i,a=>(rz x.lo (x.hi+1-x.lo).toNat).flatMap fun n=>offs l (i+1) (a.set i n)
def aimAt(b:Bk)(n:Nat):Aim:=⟨⟨(n:Int)%b.w,(n:Int) /b.w⟩,0,0,0⟩
def ups:Nat→Nat→List Nat
 |_,0=> []
 |n,m+1=>n::ups (n+1) m
def aims(b:Bk):List Aim:=(ups 0 (b.w*b.h).toNat).flatMap fun n=>offs b.cs 0 (aimAt b n)
theorem Aim.off_set(a:Aim){i k:Int}(v:Int)(hi:0≤i∧i<3)(hk:0≤k∧k<3):(a.set i v).off k=if k=i then v else a.off k:=by
 have h1:i=0∨i=1∨i=2:=O
 have h2:k=0∨k=1∨k=2:=O
 rcases h1 with rfl|rfl|rfl<;>rcases h2 with rfl|rfl|rfl<;>rfl
theorem Aim.set_s(a:Aim)(i v:Int):(a.set i v).s=a.s:=by
 unfold Aim.set;split
 ·rfl
 ·split<;>rfl
def Agree(i n:Nat)(a a':Aim):Prop:=a'.s=a.s∧∀k:Int,0≤k→k<3→(k<i∨(n:Int)≤k)→a'.off k=a.off k
theorem Agree.refl(i n:Nat)(a:Aim):Agree i n a a:=⟨rfl,fun _ _ _ _=>rfl⟩
theorem Agree.trans{i n:Nat}{a b c:Aim}(h:Agree i n a b)(k:Agree i n b c):Agree i n a c:=⟨k.1.trans h.1,fun x h0 h1 h2=>(k.2 x h0 h1 h2).trans (h.2 x h0 h1 h2)⟩
theorem Agree.set{i n:Nat}{a a':Aim}(h:Agree i n a a')(hi:i<3)(v:Int):Agree (i+1) n (a.set i v) (a'.set i v):=by
 refine⟨by rw [Aim.set_s,Aim.set_s];exact h.1,fun k h0 h1 h2=>?_⟩
 rw [Aim.off_set _ _ O ⟨h0,h1⟩,Aim.off_set _ _ O ⟨h0,h1⟩]
 split
 ·rfl
 ·exact h.2 k h0 h1 O
theorem Agree.unset{i n:Nat}{a a':Aim}{v:Int}(hi:i<n)(hn:n≤3)(h:Agree (i+1) n (a.set i v) a'):Agree i n a a':=by
 refine⟨by rw [h.1,Aim.set_s],fun k h0 h1 h2=>?_⟩
 rw [h.2 k h0 h1 O,Aim.off_set _ _ O ⟨h0,h1⟩,if_neg O]
theorem Agree.eq{i:Nat}{a a':Aim}(h:Agree i i a a'):a=a':=by
 obtain⟨h1,h2⟩:=h
 have e0:=h2 0 O O O
 have e1:=h2 1 O O O
 have e2:=h2 2 O O O
 obtain⟨s,x,y,z⟩:=a;obtain⟨s',x',y',z'⟩:=a'
 simp_all [Aim.off]
theorem offs_congr:∀ (l:List Rc) (i:Nat) (a a':Aim),i+l.length≤3→Agree i (i+l.length) a a'→offs l i a=offs l i a'
 | [],i,a,a',_,h=>by rw [Agree.eq h]
 |x::l,i,a,a',hl,h=>by
  simp only [offs]
  congr 1
  funext n
  simp only [List.length_cons] at hl h
  exact offs_congr l (i+1) _ _ O (by
   have:=h.set O n
   rw [show i+1+l.length=i+(l.length+1) by omega];exact this)
variable {main:Bool}{J:Goroutine→Mem→Prop}(hJ:Closed prog main J)
include hJ
def aimBlocks(b2 b3 b4 b5:Nat)(bl:List Value)(yv nv:Value)(a:Aim):List (Nat×Obj):= [(b5, .cells [nv].toArray 188 (0,0)),(b4, .cells a.cells.toArray 160 (0,0)),(b3, .cells [yv].toArray 421 (0,0)),(b2, .cells bl.toArray 146 (0,0))]
def nextV(b2 b3 b4 b5:Nat):Value:= .func (.func 300) #[] [.pointer (some ⟨b2,0,none⟩), .pointer (some ⟨b3,0,none⟩), .pointer (some ⟨b4,0,none⟩), .pointer (some ⟨b5,0,none⟩)].toArray
theorem next_c{b:Bk}{vc vw:Value}{ro0:RO}(hc:Ls Rc.cells 2 ro0 vc b.cs)(hb:b.good)(b2 b3 b4 b5:Nat)(yv:Value){items:List (List Value)}(I:Nat→RO→List (Nat×Obj)→Prop)(E:RO→List (Nat×Obj)→Prop)
  (hy:∀k (hk:k<items.length) ro1 p1,ro0.le ro1→I k ro1 p1→CallV prog J yv items[k] ro1 p1 fun v ro' p'=>(v= .bool true∧I (k+1) ro' p')∨(v= .bool false∧E ro' p')):
  ∀ (m i:Nat) (a:Aim) (ro1:RO) (p1:List (Nat×Obj)) (k:Nat),i+m=b.cs.length→ro0.le ro1→I k ro1 p1→k+(offs (b.cs.drop i) i a).length≤items.length→Seg items k (offs (b.cs.drop i) i a) Aim.val→
   CallV prog J (nextV b2 b3 b4 b5) [.int .i64 (i:Int)] ro1 (aimBlocks b2 b3 b4 b5 [.int .i64 b.w, .int .i64 b.h, .int .i64 b.f,vc,vw] yv (nextV b2 b3 b4 b5) a++p1) fun v ro' p'=>
    (v= .bool true∧∃a' q',Agree i b.cs.length a a'∧p'=aimBlocks b2 b3 b4 b5 [.int .i64 b.w, .int .i64 b.h, .int .i64 b.f,vc,vw] yv (nextV b2 b3 b4 b5) a'++q'∧I (k+(offs (b.cs.drop i) i a).length) ro' q')∨
    (v= .bool false∧∃a' q',p'=aimBlocks b2 b3 b4 b5 [.int .i64 b.w, .int .i64 b.h, .int .i64 b.f,vc,vw] yv (nextV b2 b3 b4 b5) a'++q'∧E ro' q'):=by
 intro m
 induction m with
 |zero=>
  intro i a ro1 p1 k hi hle hI hk hseg
  obtain rfl:i=b.cs.length:=by omega
  obtain⟨bb,bc,rfl⟩:=hc.form
  rw [List.drop_length] at hk hseg⊢
  simp only [offs,List.length_cons,List.length_nil] at hk hseg⊢
  have hki:items[k]? =some [a.val]:=by simpa using hseg 0 Zi
  have hkk:k<items.length:=O
  have hkg:items[k]= [a.val]:=by rw [List.getElem?_eq_getElem hkk] at hki;exact Option.some.inj hki
  have hyk:=hy k hkk ro1 p1 hle hI
  rw [hkg] at hyk
  refine CallV.intro hJ Kr fun c cs tail hret=>?_
  unfold aimBlocks
  refine enter_X (n:=44) func300 U U (Nl U) ?_
  have C:Ctx prog main J (bf 300 .normal):=⟨hJ,by decide⟩
  refine Xr C U U<|Ad C U U<|Xs C<|Xr C U U<|Rm C U U<|Rf C 0 U U runUnderlying146 U sizeOf54<|Rf C 3 U U runUnderlying54 U sizeOf29<|Rl C U U isAgg29 V U<|Rn C U U runUnderlying29<|R.int C U U U U b_eql<|R.done C<|X.cond C.1 U (fun he=>?_) (fun he=>?_)
  ·refine Xr C U U<|Rl C U U isAgg421 V U<|R5 C U U isAgg160 sizeOf160 V Tk5<|R.perm C.1 (perm_mid [_,_,_,_] p1 tail)<|R.call C U U U U U hyk fun v ro' pre' hle' hp=>R.perm C.1 (perm_mid pre' [_,_,_,_] tail)<|Ad C U U<|Xt C func300<|hret _ _ ([_,_,_,_]++pre') _ hle' ?_ (by rw [List.append_assoc];exact List.Sublist.refl _)
   rcases hp with⟨rfl,h⟩|⟨rfl,h⟩
   ·exact .inl ⟨rfl,a,pre',Agree.refl _ _ _,rfl,h⟩
   ·exact .inr ⟨rfl,a,pre',rfl,h⟩
  ·simp at he
 |succ m ih=>
  intro i a ro1 p1 k hi hle hI hk hseg
  have hi':i<b.cs.length:=O
  have hn3:=hb.nc
  obtain⟨p,off,cap,l,t,fq,rfl,hrop,hsub⟩:=hc.at Rc.len O
  have hfine:=hb.cs _ (List.getElem_mem hi')
  have hbd:=isReach_bd (x:=b.cs[i]) (by simp only [Rc.fine,Bool.and_eq_true] at hfine;exact hfine.1)
  rw [List.drop_eq_getElem_cons hi'] at hk hseg⊢
  simp only [offs] at hk hseg⊢
  have hfc:∀ (a':Aim),Agree i b.cs.length a a'→∀n,offs (b.cs.drop (i+1)) (i+1) (a.set i n)=offs (b.cs.drop (i+1)) (i+1) (a'.set i n):=fun a' h n=>
   offs_congr _ _ _ _ Zo (by
    have:=h.set (show i<3 by omega) n
    rw [show i+1+(b.cs.drop (i+1)).length=b.cs.length by simp;omega];exact this)
  have hlo:=(hsub i hi').get 0 Dd
  have hhi:=(hsub i hi').get 1 Dd
  refine CallV.intro hJ Kr fun c cs tail hret=>?_
  unfold aimBlocks
  refine enter_X (n:=44) func300 U U (Nl U) ?_
  have C:Ctx prog main J (bf 300 .normal):=⟨hJ,by decide⟩
  refine Xr C U U<|Ad C U U<|Xs C<|Xr C U U<|Rm C U U<|Rf C 0 U U runUnderlying146 U sizeOf54<|Rf C 3 U U runUnderlying54 U sizeOf29<|Rl C U U isAgg29 V U<|Rn C U U runUnderlying29<|R.int C U U U U b_eql<|R.done C<|X.cond C.1 U (fun he=>?_) (fun he=>?_)
  ·simp at he;omega
  ·refine X.skip C.1<|Xs C<|Xr C U U<|Rf C 0 U U runUnderlying146 U sizeOf54<|Rf C 3 U U runUnderlying54 U sizeOf29<|Rl C U U isAgg29 V U<|Rm C U U<|Rx C U U U runUnderlying29 sizeOf45<|R.fieldAddr C U U U runUnderlying45 U sizeOf3 U<|R.loadOneRo C U U U isAgg3 (hle _ _ hrop) hlo<|Ad C U U<|X.block C.1 ?_
   refine X.loopI (ι:=Int×Nat×Aim×List (Nat×Obj)×RO×Nat) C.1 (fun s=>s.1+s.2.1=b.cs[i].hi+1∧ -3≤s.1∧Agree i b.cs.length a s.2.2.1∧ro1.le s.2.2.2.2.1∧I s.2.2.2.2.2 s.2.2.2.2.1 s.2.2.2.1∧Seg items s.2.2.2.2.2 ((rz s.1 s.2.1).flatMap fun n=>offs (b.cs.drop (i+1)) (i+1) (a.set i n)) Aim.val∧
     s.2.2.2.2.2+((rz s.1 s.2.1).flatMap fun n=>offs (b.cs.drop (i+1)) (i+1) (a.set i n)).length=k+((rz b.cs[i].lo (b.cs[i].hi+1-b.cs[i].lo).toNat).flatMap fun n=>offs (b.cs.drop (i+1)) (i+1) (a.set i n)).length)
    (fun s=> [(0, .int .i64 (i:Int)),(1, .pointer (some ⟨b2,0,none⟩)),(2, .pointer (some ⟨b3,0,none⟩)),(3, .pointer (some ⟨b4,0,none⟩)),(4, .pointer (some ⟨b5,0,none⟩)),(7, .int .i64 s.1)])
    (fun s=>⟨s.2.2.2.2.1,aimBlocks b2 b3 b4 b5 [.int .i64 b.w, .int .i64 b.h, .int .i64 b.f, .slice (some ⟨p,off,none⟩) b.cs.length cap,vw] yv (nextV b2 b3 b4 b5) s.2.2.1++(s.2.2.2.1++tail)⟩) (fun s=>s.2.1) (b.cs[i].lo,(b.cs[i].hi+1-b.cs[i].lo).toNat,a,p1,ro1,k)
    ⟨by simp only;omega,hbd.1,Agree.refl _ _ _,RO.le_refl _,hI,hseg,rfl⟩ rfl ⟨U,U,U,U,U,U,trivial⟩ fun s hs hnext=>?_
   obtain⟨n,mm,a',q,roc,kc⟩:=s
   obtain⟨h1,h0,h2,h3,h4,h5,h6⟩:=hs
   simp only at h1 h2 h3 h4 h5 h6 hnext⊢
   unfold aimBlocks
   refine Xs C<|Xr C U U<|Rm C U U<|Rf C 0 U U runUnderlying146 U sizeOf54<|Rf C 3 U U runUnderlying54 U sizeOf29<|Rl C U U isAgg29 V U<|Rm C U U<|Rx C U U U runUnderlying29 sizeOf45<|R.fieldAddr C U U U runUnderlying45 U sizeOf3 U<|R.loadOneRo C U U U isAgg3 (h3 _ _ (hle _ _ hrop)) hhi<|R.int C U U U U b_leq<|R.done C<|Xk C U (fun hlt=>?_) (fun hlt=>?_)
   ·obtain⟨m',rfl⟩:∃m',mm=m'+1:=⟨mm-1,O⟩
    simp only [rz,List.flatMap_cons] at h5 h6
    obtain⟨hs1,hs2⟩:=h5.split
    rw [List.length_append] at h6
    refine X.skip C.1<|Xs C<|X.block C.1<|Xr C U U<|Rm C U U<|Rm C U U<|Rf C 2 U U runUnderlying160 U sizeOf158<|R.indexAddrA C U U U U runUnderlying158 sizeOf3 O O<|R.store C U U U U sizeOf3 U U U V (a'.putOff n O O)<|R.done C<|Xr C U U<|Rl C U U isAgg188 V U<|Rm C U U<|Ra C U U U ?_
    have hrec:=ih (i+1) (a'.set i n) roc q kc O (RO.le_trans hle h3) h4 (by rw [←hfc a' h2 n];omega) (by rw [←hfc a' h2 n];exact hs1)
    refine R.call C U U U U (pre:=aimBlocks b2 b3 b4 b5 [.int .i64 b.w, .int .i64 b.h, .int .i64 b.f, .slice (some ⟨p,off,none⟩) b.cs.length cap,vw] yv (nextV b2 b3 b4 b5) (a'.set i n)++q) (tail:=tail) U hrec fun v ro' pre' hle' hp=>?_
    rcases hp with⟨rfl,a2,q2,hag,rfl,hI2⟩|⟨rfl,a2,q2,rfl,hE⟩
    ·
     refine R.not C U U U<|R.fixv (t:=43) (v':= .bool false) U U<|R.done C<|X.cond C.1 U (fun h=>nomatch h) (fun _=>?_)
     refine X.skip C.1<|X.inBlock C.1<|X.region C U U<|Rm C U U<|Ra C U U U<|Ad C U U ?_
     rw [←hfc a' h2 n] at hI2
     refine X.weaken ?_ (hnext (n+1,m',a2,q2,ro',kc+(offs (b.cs.drop (i+1)) (i+1) (a.set i n)).length) ⟨?_, ?_, ?_, ?_, ?_, ?_, ?_⟩ (Nat.lt_succ_self _))
     ·exact⟨U,U,U,U,U,U,trivial⟩
     ·simp only;omega
     ·simp only;omega
     ·exact h2.trans (hag.unset hi' hn3.2)
     ·exact RO.le_trans h3 hle'
     ·exact hI2
     ·exact hs2
     ·simp only;omega
    ·
     refine R.not C U U U<|R.fixv (t:=43) (v':= .bool true) U U<|R.done C<|X.cond C.1 U (fun _=>?_) (fun h=>nomatch h)
     refine Xr C U U<|Ad C U U<|Xt C func300<|hret _ _ ([_,_,_,_]++q2) _ (RO.le_trans h3 hle') ?_ (by simp only [aimBlocks,List.append_assoc];exact List.Sublist.refl _)
     exact .inr ⟨rfl,a2,q2,rfl,hE⟩
   ·obtain rfl:mm=0:=by omega
    simp only [rz,List.flatMap_nil,List.length_nil,Nat.add_zero] at h6
    refine X.exit C.1 U<|Xr C U U<|Ad C U U<|Xt C func300<|hret _ _ ([_,_,_,_]++q) _ h3 ?_ (by rw [List.append_assoc];exact List.Sublist.refl _)
    exact .inl ⟨rfl,a',q,h2,rfl,by rw [←h6];exact h4⟩
omit hJ in
theorem fnV.cells{v:Value}(h:fnV v):v.cells= [v].toArray:=by obtain⟨f,a,c,rfl⟩:=h;rfl
omit hJ in
theorem fnV.one{v:Value}(h:fnV v):ones [v]=true:=by obtain⟨f,a,c,rfl⟩:=h;rfl
theorem aims_it{b:Bk}{v:Value}{ro:RO}(hv:BkV ro v b)(hb:b.good):Iter prog J (.func (.func 234) [v].toArray #[]) ((aims b).map fun a=> [a.val]) ro:=by
 intro yv I E hyf hmono hy ro0 p0 hle hI0
 obtain⟨vc,vw,rfl,hc,hw⟩:=hv
 have hbw:=hb.w
 have hbh:=hb.h
 have hn3:=hb.nc
 have hwh:0≤b.w*b.h∧b.w*b.h≤49:=⟨Int.mul_nonneg O O,by
  have:=Int.mul_le_mul hbw.2 hbh.2 O O;omega⟩
 have hlen:(aims b).length=((aims b).map fun a=> [a.val]).length:=by simp
 refine CallV.intro (first:= [_]) (vs:= [yv]) (cap:= []) hJ Kr fun c cs tail hret=>enter_X (n:=34) func234 U U (Nl U) ?_
 have C:Ctx prog main J (bf 234 .normal):=⟨hJ,by decide⟩
 refine Xr C U U<|R.box C U U U U fun p2=>R.box C U U U (fnV.cells hyf) fun p3=>R.done C<|Xr C U U<|R.alloc C U U zeroValue160 U fun p4=>R.done C<|Xr C U U<|R.alloc C U U zeroValue188 U fun p5=>R.done C<|Xr C U U<|R.makeFunc C U U U U<|R.store C U U U U sizeOf188 U U U V (.here .nil)<|R.done C<|Xr C U U<|Rf C 0 U U runUnderlying146 U sizeOf54<|Rf C 0 U U runUnderlying54 U sizeOf3<|Rl C U U isAgg3 V U<|Rf C 0 U U runUnderlying146 U sizeOf54<|Rf C 1 U U runUnderlying54 U sizeOf3<|Rl C U U isAgg3 V U<|R.int C U U U U (b_mul O O)<|Rm C U U<|R.done C<|X.block C.1 ?_
 refine X.loopI (ι:=Nat×Nat×Aim×List (Nat×Obj)×RO×Nat) C.1 (fun s=>s.1+s.2.1=(b.w*b.h).toNat∧(∀k:Int,0≤k→k<3→(b.cs.length:Int)≤k→s.2.2.1.off k=0)∧ro0.le s.2.2.2.2.1∧I s.2.2.2.2.2 s.2.2.2.2.1 s.2.2.2.1∧Seg ((aims b).map fun a=> [a.val]) s.2.2.2.2.2 ((ups s.1 s.2.1).flatMap fun n=>offs b.cs 0 (aimAt b n)) Aim.val∧
   s.2.2.2.2.2+((ups s.1 s.2.1).flatMap fun n=>offs b.cs 0 (aimAt b n)).length=(aims b).length)
  (fun s=> [(2, .pointer (some ⟨p2,0,none⟩)),(4, .pointer (some ⟨p4,0,none⟩)),(5, .pointer (some ⟨p5,0,none⟩)),(14, .int .i64 (b.w*b.h)),(15, .int .i64 (s.1:Int))])
  (fun s=>⟨s.2.2.2.2.1,aimBlocks p2 p3 p4 p5 [.int .i64 b.w, .int .i64 b.h, .int .i64 b.f,vc,vw] yv (nextV p2 p3 p4 p5) s.2.2.1++(s.2.2.2.1++tail)⟩) (fun s=>s.2.1) (0,(b.w*b.h).toNat,⟨⟨0,0⟩,0,0,0⟩,p0,ro0,0)
  ⟨by simp only;omega,fun k h0 h1 _=>by
   have:k=0∨k=1∨k=2:=O
   rcases this with rfl|rfl|rfl<;>rfl,RO.le_refl _,hI0,Seg.all _ _,by simp only [aims];omega⟩ rfl ⟨U,U,U,U,U,trivial⟩ fun s hs hnext=>?_
 obtain⟨n,mm,a,q,roc,kc⟩:=s
 obtain⟨h1,h2,h3,h4,h5,h6⟩:=hs
 simp only at h1 h2 h3 h4 h5 h6 hnext⊢
 unfold aimBlocks
 refine Xr C U U<|R.int C U U U U b_lss<|R.done C<|Xs C<|Xk C U (fun hlt=>?_) (fun hlt=>?_)
 ·obtain⟨m',rfl⟩:∃m',mm=m'+1:=⟨mm-1,O⟩
  simp only [ups,List.flatMap_cons] at h5 h6
  obtain⟨hs1,hs2⟩:=h5.split
  rw [List.length_append] at h6
  have hcg:offs b.cs 0 (aimAt b n)=offs b.cs 0 {a with s:=⟨(n:Int)%b.w,(n:Int) /b.w⟩ }:=offs_congr _ _ _ _ O ⟨rfl,fun k h0 h1 hk=>by
   have e:(aimAt b n).off k=0:=by
    have:k=0∨k=1∨k=2:=O
    rcases this with rfl|rfl|rfl<;>rfl
   rw [e]
   exact h2 k h0 h1 O⟩
  refine X.skip C.1<|Xs C<|X.block C.1<|Xr C U U<|Rm C U U<|Ad C U U<|Xs C<|Xd C fun hok=>Dm C 0 hok U U U<|Df (off':=0) C 1 hok U U U runUnderlying146 U sizeOf54 U<|Df (off':=0) C 2 hok U U U runUnderlying54 U sizeOf3 U<|D1 C 3 hok U U isAgg3 V U<|Di C 4 hok U U U U U (b_remP O O)<|Dm C 5 hok U U U<|Df (off':=0) C 6 hok U U U runUnderlying146 U sizeOf54 U<|Df (off':=0) C 7 hok U U U runUnderlying54 U sizeOf3 U<|D1 C 8 hok U U isAgg3 V U<|Di C 9 hok U U U U U (b_quoP O O O) ?_;refine Dp 10 hok (fun _ _ _ A h=>R.build C U (A.w U U) (A.p U U) zeroValue157 U runUnderlying157 Kr (Fills.part U U sizeOf3 U (.here .nil) (Fills.part U U sizeOf3 U (.skip (.here .nil)) .nil)) h)<|Df (off':=0) C 11 hok U U U runUnderlying160 U sizeOf157 U<|De 12 none [false,false] hok (fun _ _ A hk=>?_)
  refine R.store C U (A.w U U) (A.x U U) (A.x U U) sizeOf157 U U U V Ph2 (hk undef _ ⟨QFs.nil, ?_⟩)
  refine D.done C hok Kr<|Xr C U U<|Rl C U U isAgg188 V U ?_
  have hrec:=next_c hJ (ro0:=ro) (vw:=vw) hc hb p2 p3 p4 p5 yv I E (fun k hk ro1 p1 hl=>hy k hk ro1 p1 hl) b.cs.length 0 {a with s:=⟨(n:Int)%b.w,(n:Int) /b.w⟩ } roc q kc O (RO.le_trans hle h3) h4 (by rw [List.drop_zero, ←hcg];omega) (by rw [List.drop_zero, ←hcg];exact hs1)
  rw [List.drop_zero, ←hcg] at hrec
  refine R.call C U U U U (pre:=aimBlocks p2 p3 p4 p5 [.int .i64 b.w, .int .i64 b.h, .int .i64 b.f,vc,vw] yv (nextV p2 p3 p4 p5) {a with s:=⟨(n:Int)%b.w,(n:Int) /b.w⟩ }++q) (tail:=tail) U hrec fun v ro' pre' hle' hp=>?_
  rcases hp with⟨rfl,a2,q2,hag,rfl,hI2⟩|⟨rfl,a2,q2,rfl,hE⟩
  ·
   refine R.not C U U U<|R.fixv (t:=32) (v':= .bool false) U U<|R.done C<|X.cond C.1 U (fun h=>nomatch h) (fun _=>?_)
   refine X.skip C.1<|X.inBlock C.1<|X.region C U U<|Ra C U U U<|Rm C U U<|R.done C<|X.weaken ?_ (hnext (n+1,m',a2,q2,ro',kc+(offs b.cs 0 (aimAt b n)).length) ⟨?_, ?_, ?_, ?_, ?_, ?_⟩ (Nat.lt_succ_self _))
   ·exact⟨U,U,U,U,U,trivial⟩
   ·simp only;omega
   ·intro k g0 g1 g2
    rw [hag.2 k g0 g1 (.inr g2)]
    exact h2 k g0 g1 g2
   ·exact RO.le_trans h3 hle'
   ·exact hI2
   ·exact hs2
   ·simp only;omega
  ·
   refine R.not C U U U<|R.fixv (t:=32) (v':= .bool true) U U<|R.done C<|X.cond C.1 U (fun _=>?_) (fun h=>nomatch h)
   refine X.ret C U U func234 U (by exact .nil) ?_
   exact hret _ _ q2 _ (RO.le_trans h3 hle') ⟨rfl, .inr hE⟩ (by simp only [aimBlocks,List.append_assoc,List.cons_append,List.nil_append];(repeat (first|exact Sr|apply Sc)))
 ·obtain rfl:mm=0:=by omega
  simp only [ups,List.flatMap_nil,List.length_nil,Nat.add_zero] at h6
  refine X.exit C.1 U<|X.fall C U U func234 U (by exact .nil)<|hret _ _ q _ h3 ⟨rfl, .inl ?_⟩ (by simp only [List.cons_append,List.nil_append];(repeat (first|exact Sr|apply Sc)))
  rw [←hlen, ←h6];exact h4
end Go.Lg.N
namespace Go.Lg.N
open Go Go.Conc Go.Lg Go.Proofs Go.Lg.B Go.Proofs.Tryz
theorem rz_mem:∀ {m:Nat} {n k:Int},k∈rz n m→n≤k∧k<n+m
 |0,_,_,h=>by simp [rz] at h
 |m+1,n,k,h=>by
  simp only [rz,List.mem_cons] at h
  rcases h with rfl|h
  ·omega
  ·have:=rz_mem h;omega
theorem ups_mem:∀ {m n k:Nat},k∈ups n m→n≤k∧k<n+m
 |0,_,_,h=>by simp [ups] at h
 |m+1,n,k,h=>by
  simp only [ups,List.mem_cons] at h
  rcases h with rfl|h
  ·omega
  ·have:=ups_mem h;omega
theorem Aim.good.set{a:Aim}(h:a.good){i v:Int}(hv: -3≤v∧v≤3):(a.set i v).good:=by
 refine⟨by rw [Aim.set_s];exact h.s,fun k=>?_⟩
 have h0:=h.o 0
 have h1:=h.o 1
 have h2:=h.o 2
 obtain⟨s,x,y,z⟩:=a
 simp only [Aim.off,Aim.set] at*
 simp at h0 h1 h2
 split<;>split<;>(try split)<;>(try split)<;>simp<;>omega
theorem offs_good:∀ (l:List Rc) (i:Nat) (a:Aim),(∀x∈l,x.fine=true)→a.good→∀a'∈offs l i a,a'.good
 | [],_,a,_,h,a',ha=>by simp only [offs,List.mem_singleton] at ha;rw [ha];exact h
 |x::l,i,a,hf,h,a',ha=>by
  simp only [offs,List.mem_flatMap] at ha
  obtain⟨n,hn,ha⟩:=ha
  have hb:=rz_mem hn
  have hx:=hf x List.mem_cons_self
  simp only [Rc.fine,Bool.and_eq_true] at hx
  have:=isReach_bd hx.1
  exact offs_good l (i+1) _ (fun y hy=>hf y (List.mem_cons_of_mem _ hy)) (h.set O) a' ha
theorem aimAt_good{b:Bk}(hb:b.good){n:Nat}(hn:n<(b.w*b.h).toNat):(aimAt b n).good:=by
 have hw:=hb.w
 have hh:=hb.h
 have hwh:b.w*b.h≤49:=by
  have:=Int.mul_le_mul hw.2 hh.2 O O;omega
 have h1:=Int.emod_nonneg (n:Int) (show b.w≠0 by omega)
 have h2:=Int.emod_lt_of_pos (n:Int) (show 0<b.w by omega)
 have h3:0≤(n:Int) /b.w:=Int.ediv_nonneg O O
 have h4:(n:Int) /b.w≤n:=Int.ediv_le_self _ O
 refine⟨⟨?_, ?_, ?_, ?_⟩,fun k=>?_⟩
 ·show -1000≤(n:Int)%b.w;omega
 ·show(n:Int)%b.w≤1000;omega
 ·show -1000≤(n:Int) /b.w;omega
 ·show(n:Int) /b.w≤1000;omega
 ·simp only [aimAt,Aim.off]
  split
  ·omega
  ·split<;>omega
theorem aims_good{b:Bk}(hb:b.good):∀a∈aims b,a.good:=fun a ha=>by
 simp only [aims,List.mem_flatMap] at ha
 obtain⟨n,hn,ha⟩:=ha
 have:=ups_mem hn
 exact offs_good _ _ _ hb.cs (aimAt_good hb O) a ha
end Go.Lg.N
namespace Go.Lg.N
open Go Go.Conc Go.Lg Go.Proofs Go.Lg.B Go.Proofs.Tryz
theorem perm_in(A B T H:List (Nat×Obj)):(A++((B++T)++H)).Perm (B++(A++(T++H))):=by
 rw [List.append_assoc B];exact perm_mid A B (T++H)
def okMask(b:Bk)(a:Aim)(m:Nat):Bool:=andNot (odd b a) m==0 && (m &&& sureM b==0 && decide (((listOf m).length:Int)≤b.f))
def lots(b:Bk)(a:Aim)(n m:Nat):List Lot:=((ups n m).filter (okMask b a)).map fun k=>⟨a,k⟩
def cases(b:Bk):List Lot:=(aims b).flatMap fun a=>lots b a 0 (2^b.ws.length)
def caseIx(b:Bk)(k:Nat):Nat:=(((aims b).take k).flatMap fun a=>lots b a 0 (2^b.ws.length)).length
theorem caseIx_all(b:Bk):caseIx b (aims b).length=(cases b).length:=by simp [caseIx,cases]
theorem caseIx_succ(b:Bk){k:Nat}(h:k<(aims b).length):caseIx b (k+1)=caseIx b k+(lots b (aims b)[k] 0 (2^b.ws.length)).length:=by
 simp only [caseIx,List.take_succ_eq_append_getElem h,List.flatMap_append,List.length_append,List.flatMap_cons,List.flatMap_nil,List.append_nil]
theorem caseSeg(b:Bk){k:Nat}(h:k<(aims b).length):Seg ((cases b).map fun c=> [c.val]) (caseIx b k) (lots b (aims b)[k] 0 (2^b.ws.length)) Lot.val∧caseIx b (k+1)≤(cases b).length:=by
 have e:aims b=(aims b).take k++(aims b)[k]::(aims b).drop (k+1):=by rw [←List.drop_eq_getElem_cons h,List.take_append_drop]
 have e2:cases b=(((aims b).take k).flatMap fun a=>lots b a 0 (2^b.ws.length))++(lots b (aims b)[k] 0 (2^b.ws.length)++((aims b).drop (k+1)).flatMap fun a=>lots b a 0 (2^b.ws.length)):=by
  conv=>lhs;rw [cases,e]
  rw [List.flatMap_append,List.flatMap_cons]
 have hs:=Seg.all (cases b) Lot.val
 constructor
 ·have h1:Seg ((cases b).map fun c=> [c.val]) 0 ((((aims b).take k).flatMap fun a=>lots b a 0 (2^b.ws.length))++(lots b (aims b)[k] 0 (2^b.ws.length)++((aims b).drop (k+1)).flatMap fun a=>lots b a 0 (2^b.ws.length))) Lot.val:=by
   rw [←e2];exact hs
  have:=h1.split.2.split.1
  rwa [Nat.zero_add] at this
 ·rw [caseIx_succ b h,e2]
  simp only [List.length_append,caseIx]
  omega
variable {main:Bool}{J:Goroutine→Mem→Prop}(hJ:Closed prog main J)
include hJ
theorem cases_it{b:Bk}{v:Value}{ro:RO}(hv:BkV ro v b)(hb:b.good):Iter prog J (.func (.func 173) [v].toArray #[]) ((cases b).map fun c=> [c.val]) ro:=by
 intro yv I E hyf hmono hy ro0 p0 hle hI0
 have hvv:=hv
 obtain⟨vc,vw,rfl,hc,hw⟩:=hv
 obtain⟨wb,wc,rfl⟩:=hw.form
 have hnw:=hb.nw
 have hpw:2^b.ws.length<2^63:=pow62 O
 have hodd:∀a,odd b a<2^63:=fun a=>maskOf_lt63 _ O
 have hsure:sureM b<2^63:=maskOf_lt63 _ O
 refine CallV.intro (first:= [_]) (vs:= [yv]) (cap:= []) hJ Kr fun c cs tail hret=>enter_X (n:=50) func173 U U (Nl U) ?_
 have C:Ctx prog main J (bf 173 .normal):=⟨hJ,by decide⟩
 refine Xr C U U<|R.box C U U U U fun p2=>R.box C U U U (fnV.cells hyf) fun p3=>R.done C<|Xr C U U<|R5 C U U isAgg146 sizeOf146 V Tk5<|R.callP C U U U U (sure_c hJ (hvv.mono hle) hnw)<|R.alloc C U U zeroValue3 U fun p4=>R.store C U U U U sizeOf3 U U U V (.here .nil)<|R.done C<|Xr C U U<|R5 C U U isAgg146 sizeOf146 V Tk5<|R.makeFunc C U U U U<|R.done C<|X.block C.1<|X.rangeFunc C (items:=(aims b).map fun a=> [a.val]) (ro0:=ro)
  (fun k ro' q=>∃q0,q=(p4, .cells [.int .i64 (sureM b:Int)].toArray 3 (0,0))::(p3, .cells [yv].toArray 365 (0,0))::(p2, .cells [.int .i64 b.w, .int .i64 b.h, .int .i64 b.f,vc, .slice wb b.ws.length wc].toArray 146 (0,0))::(q0++tail)∧ro0.le ro'∧I (caseIx b k) ro' q0)
  (fun x ro' q=>x= .ret∧∃q0,q=(p4, .cells [.int .i64 (sureM b:Int)].toArray 3 (0,0))::(p3, .cells [yv].toArray 365 (0,0))::(p2, .cells [.int .i64 b.w, .int .i64 b.h, .int .i64 b.f,vc, .slice wb b.ws.length wc].toArray 146 (0,0))::(q0++tail)∧ro0.le ro'∧E ro' q0)
  rfl rfl (aims_it hJ hvv hb) hle rfl (fun x hx=>by obtain⟨a,_,rfl⟩:=List.mem_map.1 hx;rfl) ⟨p0,rfl,RO.le_refl _,by simpa [caseIx] using hI0⟩ (fun k r r' q hl ⟨q0,e,h1,h2⟩=>⟨q0,e,RO.le_trans h1 hl,hmono _ _ _ _ hl h2⟩) ?_ ?_ ?_
 ·intro kk hk l cs H H1 ro1 q hle1 hI C hbegin hdone hjump
  obtain⟨q0,rfl,hle0,hI⟩:=hI
  have hk':kk<(aims b).length:=by simpa using hk
  rw [List.getElem_map]
  have hga:=aims_good hb _ (List.getElem_mem hk')
  have hix:=caseIx_succ b hk'
  obtain⟨hsg,hixl⟩:=caseSeg b hk'
  generalize(aims b)[kk]=a at hga hix hsg
  simp only [roundSlots]
  refine X.region C U U<|R.alloc C U U zeroValue160 U fun p5=>R.store C U U U U sizeOf160 U U U V Ph5<|R.done C<|hbegin _ _ (_::_::_::_::(q0++tail))<|X.block C.1<|X.scope C.1<|Xr C U U<|R5 C U U isAgg146 sizeOf146 V Tk5<|R5 C U U isAgg160 sizeOf160 V Tk5<|R.callP C U U U U (odd_c hJ (hvv.mono hle1) hb _ hga)<|Ad C U U<|Xs C<|X.label C.1<|Xr C U U<|Rf C 0 U U runUnderlying146 U sizeOf54<|Rf C 4 U U runUnderlying54 U sizeOf52<|Rl C U U isAgg52 V U<|Rn C U U runUnderlying52<|R.shift C U U U U (b_shlN O O)<|Rm C U U<|R.done C<|X.block C.1 ?_
  refine X.loopI (ι:=Nat×Nat×List (Nat×Obj)×RO×Nat) C.1 (fun s=>s.1+s.2.1=2^b.ws.length∧ro1.le s.2.2.2.1∧I s.2.2.2.2 s.2.2.2.1 s.2.2.1∧Seg ((cases b).map fun c=> [c.val]) s.2.2.2.2 (lots b a s.1 s.2.1) Lot.val∧
    s.2.2.2.2+(lots b a s.1 s.2.1).length=caseIx b (kk+1))
   (fun s=> [(2, .pointer (some ⟨p2,0,none⟩)),(3, .pointer (some ⟨p3,0,none⟩)),(4, .pointer (some ⟨p4,0,none⟩)),(5, .pointer (some ⟨p5,0,none⟩)),(6, .int .i64 (odd b a:Int)),(20, .int .i64 ((2^b.ws.length:Nat):Int)),(21, .int .i64 (s.1:Int))])
   (fun s=>⟨s.2.2.2.1,(p5, .cells a.cells.toArray 160 (0,0))::(p4, .cells [.int .i64 (sureM b:Int)].toArray 3 (0,0))::(p3, .cells [yv].toArray 365 (0,0))::(p2, .cells [.int .i64 b.w, .int .i64 b.h, .int .i64 b.f,vc, .slice wb b.ws.length wc].toArray 146 (0,0))::((s.2.2.1++tail)++H1)⟩) (fun s=>s.2.1) (0,2^b.ws.length,q0,ro1,caseIx b kk)
   ⟨by simp,RO.le_refl _,hI,hsg,hix.symm⟩ rfl ⟨U,U,U,U,U,U,U,trivial⟩ fun s hs hnext=>?_
  obtain⟨n,m,q1,roc,kc⟩:=s
  obtain⟨h1,h2,h3,h4,h5⟩:=hs
  simp only at h1 h2 h3 h4 h5 hnext⊢
  refine Xr C U U<|R.int C U U U U b_lss<|R.done C<|Xs C<|Xk C U (fun hlt=>?_) (fun hlt=>?_)
  ·obtain⟨m',rfl⟩:∃m',m=m'+1:=⟨m-1,O⟩
   have hn63:n<2^63:=O
   have hcons:lots b a n (m'+1)=if okMask b a n then⟨a,n⟩::lots b a (n+1) m' else lots b a (n+1) m':=by
    simp only [lots,ups,List.filter_cons];split<;>rfl
   refine X.skip C.1<|Xs C<|X.block C.1<|Xr C U U<|Rm C U U<|Ad C U U<|Xs C<|Xs C<|Xd C fun hok=>Dm C 0 hok U U U<|Dm C 1 hok U U U<|Di C 2 hok U U U U U (b_andNot (hodd a) hn63)<|Di C 3 hok U U U U U b_neq<|Dm C 4 hok U U U<|D.fix (t:=28) U (fun g1=>?_) (fun g1=>?_)
   ·refine Du C 5 hok U<|Du C 6 hok U<|Du C 7 hok U<|Du C 8 hok U<|Dp 9 hok (fun _ _ _ A h=>R.pickT C U (A.w U U) (A.x U U) (A.x U U) h)<|Dm C 10 hok U U U<|Du C 11 hok U<|Du C 12 hok U<|Du C 13 hok U<|Du C 14 hok U<|Du C 15 hok U<|Du C 16 hok U<|Du C 17 hok U<|Dp 18 hok (fun _ _ _ A h=>R.pickT C U (A.w U U) (A.x U U) (A.x U U) h)<|D.done C hok Kr<|X.cond C.1 U (fun _=>?_) (fun h=>nomatch h)
    refine X.exit C.1 U<|X.region C U U<|Ra C U U U<|Rm C U U<|R.done C ?_
    have hok:okMask b a n=false:=by simp only [okMask];simp at g1;simp [g1]
    rw [hcons,hok] at h4 h5
    refine X.weaken ?_ (hnext (n+1,m',q1,roc,kc) ⟨?_,h2,h3,h4,h5⟩ (Nat.lt_succ_self _))
    ·exact⟨rfl,rfl,rfl,rfl,rfl,rfl,by simp [look],trivial⟩
    ·simp only;omega
   ·refine Dm C 5 hok U U U<|D1 C 6 hok U U isAgg3 V U<|Di C 7 hok U U U U U (b_and hn63 hsure)<|Di C 8 hok U U U U U b_neq<|Dp 9 hok (fun _ _ _ A h=>R.pickF C U (A.w U U) (A.x U U) (A.x U U) h)<|Dm C 10 hok U U U<|D.fix (t:=34) U (fun g2=>?_) (fun g2=>?_)
    ·refine Du C 11 hok U<|Du C 12 hok U<|Du C 13 hok U<|Du C 14 hok U<|Du C 15 hok U<|Du C 16 hok U<|Du C 17 hok U<|Dp 18 hok (fun _ _ _ A h=>R.pickT C U (A.w U U) (A.x U U) (A.x U U) h)<|D.done C hok Kr<|X.cond C.1 U (fun _=>?_) (fun h=>nomatch h)
     refine X.exit C.1 U<|X.region C U U<|Ra C U U U<|Rm C U U<|R.done C ?_
     have hok:okMask b a n=false:=by simp only [okMask];simp at g1 g2;simp [g1,g2]
     rw [hcons,hok] at h4 h5
     refine X.weaken ?_ (hnext (n+1,m',q1,roc,kc) ⟨?_,h2,h3,h4,h5⟩ (Nat.lt_succ_self _))
     ·exact⟨rfl,rfl,rfl,rfl,rfl,rfl,by simp [look],trivial⟩
     ·simp only;omega
    ·refine Dm C 11 hok U U U<|Df (off':=0) C 14 hok U U U runUnderlying146 U sizeOf54 U<|Df (off':=2) C 15 hok U U U runUnderlying54 U sizeOf3 U<|D1 C 16 hok U U isAgg3 V U<|De 12 (some 36) [true,false] hok (fun _ _ A hk=>?_)
     refine R.callR C U (A.w U U) (A.x U U) (A.s U U) (list_c hJ hn63) fun v' ro' hle' hls'=>hk _ _ ⟨(QFs.cons (QF.of U (fun _ _ A h=>R.loadOne C U (A.w U U) (A.x U U) isAgg3 V U h)) QFs.nil), ?_⟩
     obtain⟨lb,lc,rfl⟩:=hls'.form
     refine Ds C 13 hok U U runUnderlying58<|Di C 17 hok U U U U U b_gtr<|Dp 18 hok (fun _ _ _ A h=>R.pickF C U (A.w U U) (A.x U U) (A.x U U) h)<|D.done C hok Kr<|X.cond C.1 U (fun g3=>?_) (fun g3=>?_)
     ·refine X.exit C.1 U<|X.region C U U<|Ra C U U U<|Rm C U U<|R.done C ?_
      have hok:okMask b a n=false:=by simp only [okMask];simp at g3;simp;intro _ _;omega
      rw [hcons,hok] at h4 h5
      refine X.weaken ?_ (hnext (n+1,m',q1,ro',kc) ⟨?_,RO.le_trans h2 hle',hmono _ _ _ _ hle' h3,h4,h5⟩ (Nat.lt_succ_self _))
      ·exact⟨rfl,rfl,rfl,rfl,rfl,rfl,by simp [look],trivial⟩
      ·simp only;omega
     ·have hok:okMask b a n=true:=by simp only [okMask];simp at g1 g2 g3;simp [g1,g2];omega
      rw [hcons,hok] at h4 h5
      simp only [if_true] at h4 h5
      have hki:((cases b).map fun c=> [c.val])[kc]? =some [Lot.val ⟨a,n⟩]:=h4 0 (Nat.succ_pos _)
      have hkk:kc<((cases b).map fun c=> [c.val]).length:=by
       have:=(List.getElem?_eq_some_iff.1 hki).1;exact this
      have hkg:((cases b).map fun c=> [c.val])[kc]= [Lot.val ⟨a,n⟩]:=by rw [List.getElem?_eq_getElem hkk] at hki;exact Option.some.inj hki
      have hyk:=hy kc hkk ro' q1 (RO.le_trans hle1 (RO.le_trans h2 hle')) (hmono _ _ _ _ hle' h3)
      rw [hkg] at hyk
      have h4':Seg ((cases b).map fun c=> [c.val]) (kc+1) (lots b a (n+1) m') Lot.val:=(Seg.split (A:= [⟨a,n⟩]) h4).2
      refine X.skip C.1<|Xr C U U<|Rl C U U isAgg365 V U<|R5 C U U isAgg160 sizeOf160 V Tk5<|Rm C U U ?_;refine R.build C U U U zeroValue162 U runUnderlying162 Kr (Fills.part U U sizeOf160 U Ph5 (Fills.part U U sizeOf3 U (.skip (.skip (.skip (.skip (.skip (.here .nil)))))) .nil))<|R.perm C.1 (perm_in [_,_,_,_] q1 tail H1)<|R.call C U U U U U hyk fun v ro2 pre' hle2 hp=>?_
      rcases hp with⟨rfl,hp⟩|⟨rfl,hp⟩
      ·
       refine R.not C U U U<|R.fixv (t:=48) (v':= .bool false) U U<|R.done C<|X.cond C.1 U (fun h=>nomatch h) (fun _=>?_)
       refine X.skip C.1<|X.inBlock C.1<|X.region C U U<|Ra C U U U<|Rm C U U<|R.done C<|X.perm C.1 (perm_in [_,_,_,_] pre' tail H1).symm<|X.weaken ?_ (hnext (n+1,m',pre',ro2,kc+1) ⟨?_,RO.le_trans h2 (RO.le_trans hle' hle2),hp,h4', ?_⟩ (Nat.lt_succ_self _))
       ·exact⟨rfl,rfl,rfl,rfl,rfl,rfl,by simp [look],trivial⟩
       ·simp only;omega
       ·simp only [List.length_cons] at h5⊢;omega
      ·
       refine R.not C U U U<|R.fixv (t:=48) (v':= .bool true) U U<|R.done C<|X.cond C.1 U (fun _=>?_) (fun h=>nomatch h)
       refine X.perm C.1 (perm_in [_,_,_,_] pre' tail H1).symm<|X.drop C.1 (own':=_::_::_::((pre'++tail)++H1)) (List.sublist_cons_self _ _) ?_
       exact hjump _ _ _ _ (_::_::_::(pre'++tail)) (RO.le_trans h2 (RO.le_trans hle' hle2)) trivial ⟨rfl,pre',rfl,RO.le_trans hle0 (RO.le_trans h2 (RO.le_trans hle' hle2)),hp⟩
  ·obtain rfl:m=0:=by omega
   refine X.exit C.1 U<|X.inScope C.1<|X.inBlock C.1<|X.drop C.1 (own':=_::_::_::((q1++tail)++H1)) (List.sublist_cons_self _ _)<|hdone _ _ (_::_::_::(q1++tail)) h2 ⟨q1,rfl,RO.le_trans hle0 h2, ?_⟩
   simp only [lots,ups,List.filter_nil,List.map_nil,List.length_nil,Nat.add_zero] at h5
   rw [←h5];exact h3
 ·rintro r ro' q' hl ⟨q0,rfl,hl0,hI⟩
  refine X.inBlock C.1<|X.fallM C U U func173 U (.cons V .nil) (by exact .nil)<|hret _ _ q0 _ hl0 ⟨rfl, .inl ?_⟩ Vs
  rw [List.length_map] at hI⊢
  rw [←caseIx_all];exact hI
 ·rintro r x ro' q' hl ⟨rfl,q0,rfl,hl0,hE⟩
  refine X.retM C U U func173 U (.cons V .nil) (by exact .nil) ?_
  exact hret _ _ q0 _ hl0 ⟨rfl, .inr hE⟩ Vs
end Go.Lg.N
namespace Go.Lg.N
open Go Go.Conc Go.Lg Go.Proofs Go.Lg.B Go.Proofs.Tryz
instance : Inhabited Aim := ⟨⟨default, 0, 0, 0⟩⟩
instance : Inhabited Lot := ⟨⟨default, 0⟩⟩
abbrev LsL(ro:RO)(v:Value)(xs:List Lot):Prop:=Ls Lot.cells 6 ro v xs
theorem rz_len:∀ (m:Nat) (n:Int),(rz n m).length=m
 |0,_=>rfl
 |m+1,n=>by simp [rz,rz_len m]
theorem ups_len:∀ (m n:Nat),(ups n m).length=m
 |0,_=>rfl
 |m+1,n=>by simp [ups,ups_len m]
theorem flat_le{α β:Type}{f:α→List β}{c:Nat}:∀ {l:List α},(∀x∈l,(f x).length≤c)→(l.flatMap f).length≤l.length*c
 | [],_=>by simp
 |x::l,h=>by
  have h1:=h x List.mem_cons_self
  have h2:=flat_le (fun y hy=>h y (List.mem_cons_of_mem _ hy))
  simp only [List.flatMap_cons,List.length_append,List.length_cons,Nat.add_mul,Nat.one_mul];omega
theorem offs_le:∀ (l:List Rc) (i:Nat) (a:Aim),(∀x∈l,x.fine=true)→(offs l i a).length≤7^l.length
 | [],_,_,_=>by simp [offs]
 |x::l,i,a,h=>by
  have hx:=h x List.mem_cons_self
  simp only [Rc.fine,Bool.and_eq_true] at hx
  have hb:=isReach_bd hx.1
  have h1:=flat_le (l:=rz x.lo (x.hi+1-x.lo).toNat) (f:=fun n=>offs l (i+1) (a.set i n)) (c:=7^l.length) (fun n _=>offs_le l (i+1) _ (fun y hy=>h y (List.mem_cons_of_mem _ hy)))
  rw [rz_len] at h1
  have h2:(x.hi+1-x.lo).toNat*7^l.length≤7*7^l.length:=Nat.mul_le_mul_right _ O
  simp only [offs,List.length_cons,Nat.pow_succ]
  omega
theorem aims_le{b:Bk}(hb:b.good):(aims b).length≤16807:=by
 have hw:=hb.w
 have hh:=hb.h
 have hwh:b.w*b.h≤49:=by
  have:=Int.mul_le_mul hw.2 hh.2 O O;omega
 have h1:=flat_le (l:=ups 0 (b.w*b.h).toNat) (f:=fun n=>offs b.cs 0 (aimAt b n)) (c:=343) (fun n _=>Nat.le_trans (offs_le _ _ _ hb.cs) (Nat.pow_le_pow_right O hb.nc.2))
 rw [ups_len] at h1
 have h2:(b.w*b.h).toNat*343≤49*343:=Nat.mul_le_mul_right _ O
 unfold aims;omega
theorem cases_le{b:Bk}(hb:b.good):(cases b).length≤600000:=by
 have h1:=flat_le (l:=aims b) (f:=fun a=>lots b a 0 (2^b.ws.length)) (c:=32) (fun a _=>by
  have h2:2^b.ws.length≤2^5:=Nat.pow_le_pow_right O hb.nw
  have h3:=List.length_filter_le (okMask b a) (ups 0 (2^b.ws.length))
  rw [ups_len] at h3
  simp only [lots,List.length_map];omega)
 have:=aims_le hb
 have h3:(aims b).length*32≤16807*32:=Nat.mul_le_mul_right _ this
 unfold cases;omega
def openH(b:Bk)(h:Int):Int:=if checkChart b≠0 then checkChart b else if h≠0 then h else if cases b= [] then 9 else 0
def OpenV(ro:RO)(b:Bk)(h:Int)(vc vw w:Value):Prop:=
 (openH b h≠0∧w= .tuple [.agg [.int .i64 0, .int .i64 0, .int .i64 0, .slice none 0 0, .slice none 0 0, .slice none 0 0].toArray, .int .i64 (openH b h)].toArray)∨
 (openH b h=0∧∃vl,LsL ro vl (cases b)∧w= .tuple [.agg [.int .i64 b.w, .int .i64 b.h, .int .i64 b.f,vc,vw,vl].toArray, .int .i64 0].toArray)
variable {main:Bool}{J:Goroutine→Mem→Prop}(hJ:Closed prog main J)
include hJ
theorem open_c{b:Bk}{ro:RO}(he:Env ro){vc vw:Value}(hc:Ls Rc.cells 2 ro vc b.cs)(hw:Ls Wt.cells 5 ro vw b.ws)(hs:b.short)(fv:Value)(h:Int)(hf:b.good→CallP prog J fv [.agg [.int .i64 b.w, .int .i64 b.h, .int .i64 b.f,vc,vw].toArray] ro (.int .i64 h)):
  CallR prog J (fnv 78) [.agg [.int .i64 b.w, .int .i64 b.h, .int .i64 b.f,vc,vw].toArray,fv] ro (fun w ro'=>OpenV ro' b h vc vw w):=by
 have hv:BkV ro (.agg [.int .i64 b.w, .int .i64 b.h, .int .i64 b.f,vc,vw].toArray) b:=⟨vc,vw,rfl,hc,hw⟩
 obtain⟨cb,cc,rfl⟩:=hc.form
 obtain⟨wb,wc,rfl⟩:=hw.form
 refine CallR.intro hJ Kr fun c cs tail hret=>enter_X (n:=43) func78 U U (Nl U) ?_
 have C:Ctx prog main J (bf 78 .normal):=⟨hJ,by decide⟩
 refine Xr C U U<|R.box C U U U U fun p2=>R.alloc C U U zeroValue152 U fun p4=>Ad C U U<|Xs C<|Xr C U U<|R5 C U U isAgg54 sizeOf54 V Tk5<|R.callP C U U U U (checkChart_c hJ (by assumption) (by assumption) (by assumption))<|Ad C U U<|Xr C U U<|Rm C U U<|R.int C U U U U b_neq<|R.done C<|X.cond C.1 U (fun hh=>?_) (fun hh=>?_)
 ·simp at hh
  refine Xr C U U ?_;refine R.build C U U U zeroValue152 U runUnderlying152 Kr .nil<|Rm C U U<|R.store C U U U U sizeOf152 U U U V Ph6<|Ad C U U<|X.ret C U U func78 U (by exact(.agg U isAgg152 sizeOf152 V Tk6 (.tmp U .nil)))<|Hr hret (RO.le_refl _)<|.inl ⟨by simp [openH,hh],by simp [openH,hh,retVal]⟩
 ·simp at hh
  have hb:=good_iff.1 hh
  have hcl:=cases_le hb
  refine X.skip C.1<|Xr C U U<|R5 C U U isAgg54 sizeOf54 V Tk5 ?_;refine R.build C U U U zeroValue146 U runUnderlying146 Kr (Fills.part U U sizeOf54 U Ph5 .nil) ?_;refine R.build C U U U zeroValue152 U runUnderlying152 Kr (Fills.part U U sizeOf146 U Ph5 .nil)<|R.alloc C U U zeroValue152 U fun p7=>R.store C U U U U sizeOf152 U U U V Ph6<|R.done C<|Xs C<|Xr C U U<|Rm C U U<|Rf C 0 U U runUnderlying152 U sizeOf146<|R5 C U U isAgg146 sizeOf146 V Tk5<|R.callP C U U U U (hf hb)<|Ad C U U<|Xr C U U<|Rm C U U<|R.int C U U U U b_neq<|R.done C<|X.cond C.1 U (fun hq=>?_) (fun hq=>?_)
  ·simp at hq
   refine Xr C U U ?_;refine R.build C U U U zeroValue152 U runUnderlying152 Kr .nil<|Rm C U U<|R.store C U U U U sizeOf152 U U U V Ph6<|Ad C U U<|X.ret C U U func78 U (by exact(.agg U isAgg152 sizeOf152 V Tk6 (.tmp U .nil)))<|Hr hret (RO.le_refl _)<|.inl ⟨by simp [openH,hh,hq],by simp [openH,hh,hq,retVal]⟩
  ·simp at hq
   refine X.skip C.1<|Xs C<|Xr C U U<|Rf C 0 U U runUnderlying152 U sizeOf146<|R5 C U U isAgg146 sizeOf146 V Tk5<|R.makeFunc C U U U U<|R.done C<|X.block C.1<|X.rangeFunc C (items:=(cases b).map fun c=> [c.val]) (ro0:=ro)
    (fun k ro' q=>∃v' own0,Buf 162 6 tail v' (((cases b).take k).flatMap Lot.cells) own0∧q=(p7, .cells [.int .i64 b.w, .int .i64 b.h, .int .i64 b.f, .slice cb b.cs.length cc, .slice wb b.ws.length wc,v'].toArray 152 (0,0))::(p4, .cells [.int .i64 0, .int .i64 0, .int .i64 0, .slice none 0 0, .slice none 0 0, .slice none 0 0].toArray 152 (0,0))::(p2, .cells [.int .i64 b.w, .int .i64 b.h, .int .i64 b.f, .slice cb b.cs.length cc, .slice wb b.ws.length wc].toArray 54 (0,0))::own0)
    (fun x ro' q=>False)
    rfl rfl (cases_it hJ hv hb) (RO.le_refl _) rfl (fun x hx=>by obtain⟨a,_,rfl⟩:=List.mem_map.1 hx;rfl) ⟨.slice none 0 0,tail,by simpa using Buf.nil,rfl⟩ (fun _ _ _ _ _ h=>h) ?_ ?_ ?_
   ·rintro kk hk l cs H H1 ro1 q hle1 ⟨v0,own0,hbuf,rfl⟩ C hbegin hdone hjump
    have hk':kk<(cases b).length:=by simpa using hk
    rw [List.getElem_map]
    simp only [roundSlots]
    refine X.region C U U<|R.alloc C U U zeroValue162 U fun p9=>R.store C U U U U sizeOf162 U U U V Ph6<|R.done C<|hbegin _ _ (_::_::_::_::own0) ?_
    have hfl:(((cases b).take kk).flatMap Lot.cells).length=kk*6:=by rw [flatMap_len Lot.len];simp;omega
    have hcl6:(((cases b)[kk]).cells).length=6:=rfl
    refine X.block C.1<|X.region C U U<|Rf C 5 U U runUnderlying152 U sizeOf150<|Rl C U U isAgg150 V U<|R5 C U U isAgg162 sizeOf162 V Tk6<|R.buildSlice C (vs:=_) U U (show pvals _ _=some (numbered 0 [_]) from rfl) U runUnderlying150 sizeOf162 zeroValue162 Dd (Cat.one U U) fun p34=>R.append2 (kk:=6) C [_,_,_,_] U U U U runUnderlying150 runUnderlying150 (fun _=>nofun) (show prog.info? 162=some Tryz.t162 by kernel_rfl) U U U Dd Dd (hbuf.app H1) U U (by(try simp only [List.length_append,List.length_cons,List.length_nil]);omega) fun v' own' hb'=>Rf C 5 U U runUnderlying152 U sizeOf150 ?_
    obtain⟨own1,rfl,hb1⟩:=hb'.unapp
    refine R.store C U U U U sizeOf150 hb'.cells1 U hb'.ones1 V (.skip (.skip (.skip (.skip (.skip (.here .nil))))))<|R.done C<|X.inBlock C.1<|X.drop C.1 (own':=_::_::_::(own1++H1)) (List.sublist_cons_self _ _)<|hdone _ _ (_::_::_::own1) (RO.le_refl _) ⟨v',own1, ?_,rfl⟩
    rw [List.take_succ_eq_append_getElem hk',List.flatMap_append,List.flatMap_cons,List.flatMap_nil,List.append_nil]
    exact hb1
   ·rintro r ro' q' hl ⟨v',own0,hbuf,rfl⟩
    have hall:(cases b).take ((cases b).map fun c=> [c.val]).length=cases b:=by simp
    rw [hall] at hbuf
    obtain⟨bs,cap,hvf⟩:=hbuf.form Dd
    rw [flatMap_len Lot.len,Nat.mul_div_cancel _ Dd] at hvf
    subst hvf
    refine X.inBlock C.1<|Xs C<|Xr C U U<|Rf C 5 U U runUnderlying152 U sizeOf150<|Rl C U U isAgg150 V U<|Rn C U U runUnderlying150<|R.int C U U U U b_eql<|R.done C<|X.cond C.1 U (fun hz=>?_) (fun hz=>?_)
    ·simp at hz
     refine Xr C U U ?_;refine R.build C U U U zeroValue152 U runUnderlying152 Kr .nil<|R.store C U U U U sizeOf152 U U U V Ph6<|Ad C U U<|X.drop C.1 (own':=_::_::_::_::tail) (.cons_cons _ (.cons_cons _ (.cons_cons _ (.cons_cons _ hbuf.sub))))<|X.retM C U U func78 U (.cons V (.nil)) (by exact(.agg U isAgg152 sizeOf152 V Tk6 (.tmp U .nil)))<|Hr hret hl ?_
     exact .inl ⟨by simp [openH,hh,hq,hz],by simp [openH,hh,hq,hz,retVal]⟩
    ·simp at hz
     refine X.skip C.1<|Xr C U U<|R5 C U U isAgg152 sizeOf152 V Tk6<|R.store C U U U U sizeOf152 U U U V Ph6<|Ad C U U<|X.finishA [_,_,_,_] C.1 Lot.len Dd hbuf fun ro2 hl2 hls=>X.retM C U U func78 U (.cons V (.nil)) (by exact(.agg U isAgg152 sizeOf152 V Tk6 (.tmp U .nil)))<|Hr hret (RO.le_trans hl hl2) ?_
     exact .inr ⟨by simp [openH,hh,hq,hz],_,hls,rfl⟩
   ·rintro r x ro' q' hl hf
    exact hf.elim
end Go.Lg.N
namespace Go.Lg.N
open Go Go.Conc Go.Lg Go.Proofs Go.Lg.B Go.Proofs.Tryz
theorem cases_mem{b:Bk}{c:Lot}(h:c∈cases b):c.a∈aims b∧c.m<2^b.ws.length∧okMask b c.a c.m=true:=by
 simp only [cases,List.mem_flatMap,lots,List.mem_map,List.mem_filter] at h
 obtain⟨a,ha,k,⟨hk,hok⟩,rfl⟩:=h
 exact⟨ha,by have:=ups_mem hk;show k<_;omega,hok⟩
theorem openH_good{b:Bk}{h:Int}(h0:openH b h=0):b.good∧h=0∧cases b≠ []:=by
 simp only [openH] at h0
 split at h0
 ·contradiction
 ·rename_i h1
  split at h0
  ·contradiction
  ·rename_i h2
   split at h0
   ·cases h0
   ·rename_i h3
    exact⟨good_iff.1 (by simpa using h1),by simpa using h2,h3⟩
theorem there_zero{x:Bool}:there x=0↔x=true:=by cases x<;>simp [there]
end Go.Lg.N
namespace Go.Lg.N
open Go Go.Conc Go.Lg Go.Proofs Go.Lg.B Go.Proofs.Tryz
def offOf(b:Bk)(k:Int):List Int×Int:=if openH b (b.compass k)≠0 then([],openH b (b.compass k)) else(compactL (((cases b).map fun c=>c.a.off k).mergeSort fun x y=>decide (x≤y)),0)
theorem Lot.getOff(c:Lot){k:Int}(h0:0≤k)(h1:k<3):c.cells[2+k.toNat*1]? =some (.int .i64 (c.a.off k)):=by
 have:k=0∨k=1∨k=2:=O
 rcases this with rfl|rfl|rfl<;>rfl
variable {main:Bool}{J:Goroutine→Mem→Prop}(hJ:Closed prog main J)
include hJ
theorem off1_c'{b:Bk}{v:Value}{ro:RO}(hv:BkV ro v b)(hs:b.small){p:Nat}{t:TypeId}{fq:Nat×Nat}(k:Int)(hp:ro p=some (.cells [.int .i64 k].toArray t fq)):CallP prog J (.func (.func 79) #[] [.pointer (some ⟨p,0,none⟩)].toArray) [v] ro (.int .i64 (b.compass k)):=by
 have hvv:=hv
 obtain⟨vc,vw,rfl,hc,hw⟩:=hv
 obtain⟨cb,cc,rfl⟩:=hc.form
 obtain⟨wb,wc,rfl⟩:=hw.form
 refine CallP.introC hJ Kr fun c cs tail hret=>enter_X (n:=7) func79 U U (Nl U) ?_
 have C:Ctx prog main J (bf 79 .normal):=⟨hJ,by decide⟩
 refine Xr C U U<|R.box C U U U U fun p2=>Ad C U U<|Xr C U U<|R5 C U U isAgg146 sizeOf146 V Tk5<|R.loadOneRo C U U U isAgg3 hp U<|R.callP C U U U U (compass_c hJ hvv hs k)<|Ad C U U<|Xt C func79<|Hp hret ?_
 rfl
theorem off_c{b:Bk}{v:Value}{ro:RO}(he:Env ro)(hv:BkV ro v b)(hs:b.short)(k:Int):CallR prog J (fnv 19) [v, .int .i64 k] ro (fun w ro'=>∃vl,LsI ro' vl (offOf b k).1∧w= .tuple [vl, .int .i64 (offOf b k).2].toArray):=by
 obtain⟨vc,vw,rfl,hc,hw⟩:=hv
 obtain⟨cb,cc,rfl⟩:=hc.form
 obtain⟨wb,wc,rfl⟩:=hw.form
 refine CallR.intro hJ Kr fun c cs tail hret=>enter_X (n:=40) func19 U U (Nl U) ?_
 have C:Ctx prog main J (bf 19 .normal):=⟨hJ,by decide⟩
 refine Xr C U U<|R.box C U U U U fun p2=>R.box C U U U U fun p3=>R.asg C U U U<|Ad C U U<|Xr C U U<|R.persist C.1 fun ro1 hl1 hps=>?_
 have hc1:=hc.mono hl1
 have hw1:=hw.mono hl1
 refine R5 C U U isAgg54 sizeOf54 V Tk5<|R.makeFunc C U U U U<|R.callR C U U U U ((open_c hJ (he.mono hl1) hc1 hw1 hs _ (b.compass k) fun hg=>off1_c' hJ ⟨_,_,rfl,hc1,hw1⟩ hg.small k hps)) fun v' ro2 hl2 hp=>?_
 have hps:=hl2 _ _ hps
 rcases hp with⟨h0,rfl⟩|⟨h0,vl,hls,rfl⟩
 ·
  refine Rm C U U<|R.ext C U U U U<|R.ext C U U U U<|R.alloc C U U zeroValue152 U fun p6=>R.store C U U U U sizeOf152 U U U V Ph6<|Ad C U U<|Xs C<|Xr C U U<|Rm C U U<|R.int C U U U U b_neq<|R.done C<|X.cond C.1 U (fun hq=>?_) (fun hq=>?_)
  ·refine Xr C U U<|Rm C U U<|R.asg C U U U<|Ad C U U<|X.ret C U U func19 U (by exact(.tmp U (.tmp U .nil)))<|Hr hret (RO.le_trans hl1 hl2) ?_
   exact⟨_,by rw [offOf,if_pos h0];exact .nil,by rw [offOf,if_pos h0];rfl⟩
  ·simp at hq;contradiction
 ·
  obtain⟨hb,hk0,hcn⟩:=openH_good h0
  have hcl:=cases_le hb
  have hnc:=hb.nc
  have hkb:0≤k∧k<3:=by
   have:=there_zero.1 hk0
   simp only [between,Bool.and_eq_true,decide_eq_true_eq] at this
   omega
  have hpos:0<(cases b).length:=by
   cases h:cases b with
   |nil=>exact absurd h hcn
   |cons=>simp
  obtain⟨lb,lc,rfl⟩:=hls.form
  refine Rm C U U<|R.ext C U U U U<|R.ext C U U U U<|R.alloc C U U zeroValue152 U fun p6=>R.store C U U U U sizeOf152 U U U V Ph6<|Ad C U U<|Xs C<|Xr C U U<|Rm C U U<|R.int C U U U U b_neq<|R.done C<|X.cond C.1 U (fun hq=>?_) (fun hq=>?_)
  ·simp at hq
  ·refine X.skip C.1<|Xr C U U<|Ad C U U<|Xs C<|Xr C U U<|Rf C 5 U U runUnderlying152 U sizeOf150<|Rl C U U isAgg150 V U<|Rn C U U runUnderlying150<|Rm C U U<|R.done C<|X.block C.1<|X.drop C.1 (own':=tail) Vs<|X.loopI (ι:=Nat×Value×List (Nat×Obj)) C.1 (fun s=>s.1≤(cases b).length∧Buf 3 1 tail s.2.1 ((((cases b).map fun c=>c.a.off k).take s.1).flatMap ic) s.2.2)
    (fun s=> [(3, .pointer (some ⟨p3,0,none⟩)),(8,s.2.1),(21, .slice lb (cases b).length lc),(22, .int .i64 ((cases b).length:Int)),(23, .int .i64 (s.1:Int))])
    (fun s=>⟨ro2,s.2.2⟩) (fun s=>(cases b).length-s.1) (0, .slice none 0 0,tail) ⟨Nat.zero_le _, .nil⟩ rfl ⟨U,U,U,U,U,trivial⟩ fun s hs' hnext=>?_
   obtain⟨i,v0,own0⟩:=s
   obtain⟨hi,hbuf⟩:=hs'
   simp only at hi hbuf hnext⊢
   refine Xr C U U<|R.int C U U U U b_lss<|R.done C<|Xs C<|Xk C U (fun hlt=>?_) (fun hlt=>?_)
   ·have hi':i<(cases b).length:=O
    obtain⟨pp,off,cap,l,t,fq,hsl,hrop,hsub⟩:=hls.at Lot.len O
    cases hsl
    have hfc:=flat_len (((cases b).map fun c=>c.a.off k).take i)
    rw [List.length_take,List.length_map] at hfc
    refine X.skip C.1<|Xs C<|X.block C.1<|Xr C U U<|Rx C U U U runUnderlying150 sizeOf162<|R.loadAggRo C U U U isAgg162 sizeOf162 hrop (hsub i hi')<|R.alloc C U U zeroValue162 U fun p10=>R.store C U U U U sizeOf162 U U U V Ph6<|R.done C<|X.region C U U<|Rm C U U<|R.loadOneRo C U U U isAgg3 hps U<|Rf C 0 U U runUnderlying162 U sizeOf160<|Rf C 2 U U runUnderlying160 U sizeOf158<|R.indexAddrA C U U U U runUnderlying158 sizeOf3 O O<|R.loadOne C U U U isAgg3 V ((cases b)[i].getOff hkb.1 hkb.2)<|R.buildSlice C (vs:=_) U U (show pvals _ _=some (numbered 0 [_]) from rfl) U runUnderlying58 sizeOf3 zeroValue3 Dd (Cat.one U U) fun p33=>R.append2 (kk:=1) C [_] U U U U runUnderlying58 runUnderlying58 (fun _=>nofun) (show prog.info? 3=some Tryz.t3 by kernel_rfl) U U U Dd Dd hbuf U U (by(try simp only [List.length_append,List.length_cons,List.length_nil]);omega) fun v' own' hb'=>Ad C U U<|X.inBlock C.1<|X.region C U U<|Ra C U U U<|Rm C U U<|R.done C<|X.drop C.1 (own':=own') (List.sublist_cons_self _ _)<|X.weaken ?_ (hnext (i+1,v',own') ⟨hi', ?_⟩ Zo)
    ·exact⟨rfl,rfl,rfl,rfl,by simp [look],trivial⟩
    ·have:((cases b).map fun c=>c.a.off k).take (i+1)=((cases b).map fun c=>c.a.off k).take i++ [(cases b)[i].a.off k]:=by
      rw [List.take_succ_eq_append_getElem (by simpa using hi'),List.getElem_map]
     rw [this,List.flatMap_append]
     exact hb'
   ·obtain rfl:i=(cases b).length:=by omega
    have hall:((cases b).map fun c=>c.a.off k).take (cases b).length=(cases b).map fun c=>c.a.off k:=by rw [List.take_of_length_le];simp
    rw [hall] at hbuf
    have hol:((cases b).map fun c=>c.a.off k).length=(cases b).length:=by simp
    have hres:offOf b k=(compactL (((cases b).map fun c=>c.a.off k).mergeSort fun x y=>decide (x≤y)),0):=by rw [offOf,if_neg (by simp [h0])]
    generalize(cases b).map (fun c=>c.a.off k)=L at*
    obtain⟨p,cap,sp,rfl,rfl,hcap⟩:∃p cap sp,v0= .slice (some ⟨p,0,none⟩) L.length cap∧own0=(p, .cells (L.flatMap ic++sp).toArray 3 (0,0))::tail∧L.length≤cap:=by
     have hfl:=flat_len L
     generalize L.flatMap ic=cl at hbuf hfl
     cases hbuf with
     |nil=>simp at hfl;omega
     |blk c1 c2 c3=>
      rename_i p len cap spare
      obtain rfl:len=L.length:=by omega
      exact⟨p,cap,spare,rfl,rfl,c3⟩
    have hsl:(L.mergeSort fun x y=>decide (x≤y)).length=L.length:=List.length_mergeSort _
    have hsc:=sort_c hJ (p:=p) (cap:=cap) (sp:=sp) (l:=L) (ro:=ro2) O
    have hcc:=compact_c hJ (p:=p) (cap:=cap) (sp:=sp) (l:=L.mergeSort fun x y=>decide (x≤y)) (ro:=ro2) O O
    rw [hsl] at hcc
    refine X.exit C.1 U<|Xr C U U<|Rm C U U<|R.call C U U U U U hsc fun v1 ro4 pre1 hle1 hq1=>R.done C<|Xr C U U ?_
    obtain⟨rfl,rfl,rfl⟩:=hq1
    refine Rm C U U<|R.call C U U U U U hcc fun v1 ro4 pre1 hle1 hq1=>?_
    obtain⟨rfl,rfl,r,rfl⟩:=hq1
    refine R.asg C U U U<|Ad C U U<|X.persist C.1 fun ro5 hl5 hp5=>X.ret C U U func19 U (by exact(.tmp U (.tmp U .nil)))<|Hr hret (RO.le_trans hl1 (RO.le_trans hl2 hl5)) ?_
    rw [hres]
    refine⟨_,⟨_,_,rfl, .inr ⟨p,0,_,_,_,rfl,hp5, ?_⟩⟩,rfl⟩
    have:=Sub.front ((compactL (L.mergeSort fun x y=>decide (x≤y))).flatMap ic) r
    rw [flat_len] at this
    rw [Nat.mul_one]
    exact this
end Go.Lg.N
namespace Go.Lg
open Go Go.Conc
end Go.Lg
namespace Go.Lg.N
open Go Go.Conc Go.Lg Go.Proofs Go.Lg.B Go.Proofs.Tryz
theorem ones_W(xs:List Wt):ones (xs.flatMap Wt.cells)=true:=ones_flat (fun _=>rfl) xs
theorem ones_C(xs:List Rc):ones (xs.flatMap Rc.cells)=true:=ones_flat (fun _=>rfl) xs
variable {main:Bool}{J:Goroutine→Mem→Prop}(hJ:Closed prog main J)
include hJ
theorem cloneW_c{v:Value}{xs:List Wt}{ro:RO}(hls:Ls Wt.cells 5 ro v xs)(hn:xs.length≤1000000):CallV prog J (fnv 172) [v] ro [] (fun v' ro' pre'=>ro'=ro∧Buf 290 5 [] v' (xs.flatMap Wt.cells) pre'):=by
 have hls0:=hls
 obtain⟨base,cap,rfl,hbase⟩:=hls
 refine CallV.intro (first:= []) (cap:= []) hJ Kr fun c cs tail hret=>?_
 let J:=J
 have hfl:=flatMap_len Wt.len xs
 refine enter_X (n:=8) func172 U U (Nl U) ?_
 have C:Ctx prog main J (bf 172 .normal):=⟨hJ,by decide⟩
 refine Xr C U U<|Ad C U U<|Xs C<|Xr C U U<|Rm C U U<|R.eqNil C U U U U runUnderlying52<|R.done C<|X.cond C.1 U (fun hz=>?_) (fun hz=>?_)
 ·have hx:xs= []:=by
   rcases hbase with h|⟨_,_,_,_,_,h,_⟩
   ·exact h
   ·rw [h] at hz;cases hz
  subst hx
  refine Xr C U U<|Ad C U U<|X.ret C U U func172 U (by exact .tmp U .nil) ?_
  exact hret _ _ [] _ (RO.le_refl _) ⟨rfl, .nil⟩ (.refl _)
 ·refine X.skip C.1<|Xr C U U<|R.buildSlice C (vs:=_) U U (show pvals _ _=some (numbered 0 []) from rfl) U runUnderlying52 sizeOf290 zeroValue290 Dd (.nil) fun p5=>Rm C U U<|R.append (kk:=5) C U U U U runUnderlying52 runUnderlying52 (fun _=>nofun) (show prog.info? 290=some Tryz.t290 by kernel_rfl) U U U Dd Dd (Buf.blk (cells:= []) (spare:= []) (len:=0) (cap:=0) U U (Nat.le_refl _)) (hls0.rd Wt.len) (ones_W xs) (by simp only [List.length_nil];omega) fun v' own' hb'=>Ad C U U<|X.ret C U U func172 U (by exact .tmp U .nil) ?_
  obtain⟨own0,rfl,hb0⟩:=Buf.unapp (tail:= []) (H:=tail) hb'
  exact hret _ _ own0 _ (RO.le_refl _) ⟨rfl,hb0⟩ (.refl _)
theorem cloneC_c{v:Value}{xs:List Rc}{ro:RO}(hls:Ls Rc.cells 2 ro v xs)(hn:xs.length≤1000000):CallV prog J (fnv 76) [v] ro [] (fun v' ro' pre'=>ro'=ro∧Buf 45 2 [] v' (xs.flatMap Rc.cells) pre'):=by
 have hls0:=hls
 obtain⟨base,cap,rfl,hbase⟩:=hls
 refine CallV.intro (first:= []) (cap:= []) hJ Kr fun c cs tail hret=>?_
 let J:=J
 have hfl:=flatMap_len Rc.len xs
 refine enter_X (n:=8) func76 U U (Nl U) ?_
 have C:Ctx prog main J (bf 76 .normal):=⟨hJ,by decide⟩
 refine Xr C U U<|Ad C U U<|Xs C<|Xr C U U<|Rm C U U<|R.eqNil C U U U U runUnderlying29<|R.done C<|X.cond C.1 U (fun hz=>?_) (fun hz=>?_)
 ·have hx:xs= []:=by
   rcases hbase with h|⟨_,_,_,_,_,h,_⟩
   ·exact h
   ·rw [h] at hz;cases hz
  subst hx
  refine Xr C U U<|Ad C U U<|X.ret C U U func76 U (by exact .tmp U .nil) ?_
  exact hret _ _ [] _ (RO.le_refl _) ⟨rfl, .nil⟩ (.refl _)
 ·refine X.skip C.1<|Xr C U U<|R.buildSlice C (vs:=_) U U (show pvals _ _=some (numbered 0 []) from rfl) U runUnderlying29 sizeOf45 zeroValue45 Dd (.nil) fun p5=>Rm C U U<|R.append (kk:=2) C U U U U runUnderlying29 runUnderlying29 (fun _=>nofun) (show prog.info? 45=some Tryz.t45 by kernel_rfl) U U U Dd Dd (Buf.blk (cells:= []) (spare:= []) (len:=0) (cap:=0) U U (Nat.le_refl _)) (hls0.rd Rc.len) (ones_C xs) (by simp only [List.length_nil];omega) fun v' own' hb'=>Ad C U U<|X.ret C U U func76 U (by exact .tmp U .nil) ?_
  obtain⟨own0,rfl,hb0⟩:=Buf.unapp (tail:= []) (H:=tail) hb'
  exact hret _ _ own0 _ (RO.le_refl _) ⟨rfl,hb0⟩ (.refl _)
end Go.Lg.N
namespace Go.Lg
open Go Go.Conc
end Go.Lg
namespace Go.Lg.N
open Go Go.Conc Go.Lg Go.Proofs Go.Lg.B Go.Proofs.Tryz
def noBk:Value:= .agg [.int .i64 0, .int .i64 0, .int .i64 0, .slice none 0 0, .slice none 0 0].toArray
def NewV(ro:RO)(b:Bk)(h:Int)(w:Value):Prop:=(h≠0∧w= .tuple [noBk, .int .i64 h].toArray)∨(h=0∧∃v,BkV ro v b∧w= .tuple [v, .int .i64 0].toArray)
variable {main:Bool}{J:Goroutine→Mem→Prop}(hJ:Closed prog main J)
include hJ
theorem agreed_c{b:Bk}{v:Value}{ro:RO}(he:Env ro)(hv:BkV ro v b)(hs:b.short):CallR prog J (fnv 77) [v] ro (fun w ro'=>NewV ro' b (openH b 0) w):=by
 have hvv:=hv
 obtain⟨vc,vw,rfl,hc,hw⟩:=hv
 obtain⟨cb,cc,rfl⟩:=hc.form
 obtain⟨wb,wc,rfl⟩:=hw.form
 refine CallR.intro hJ Kr fun c cs tail hret=>enter_X (n:=24) func77 U U (Nl U) ?_
 have C:Ctx prog main J (bf 77 .normal):=⟨hJ,by decide⟩
 refine Xr C U U<|R.box C U U U U fun p1=>R.alloc C U U zeroValue54 U fun p2=>Ad C U U<|Xs C<|Xr C U U<|R5 C U U isAgg54 sizeOf54 V Tk5<|R.callR C U U U U ((open_c hJ he hc hw hs _ 0 fun hg=>nothing_c hJ b hvv)) fun v1 ro2 hl2 hp=>?_
 rcases hp with⟨h0,rfl⟩|⟨h0,vl,hls,rfl⟩
 ·
  refine Rm C U U<|R.ext C U U U U<|R.ext C U U U U<|R.alloc C U U zeroValue152 U fun p4=>R.store C U U U U sizeOf152 U U U V Ph6<|Ad C U U<|Xr C U U<|Rm C U U<|R.int C U U U U b_neq<|R.done C<|X.cond C.1 U (fun hq=>?_) (fun hq=>?_)
  ·refine Xr C U U ?_;refine R.build C U U U zeroValue54 U runUnderlying54 Kr .nil<|Rm C U U<|R.store C U U U U sizeOf54 U U U V Ph5<|Ad C U U<|X.ret C U U func77 U (by exact(.agg U isAgg54 sizeOf54 V Tk5 (.tmp U .nil)))<|Hr hret hl2 ?_
   exact .inl ⟨h0,rfl⟩
  ·simp at hq;contradiction
 ·
  have hb:b.good:=(openH_good h0).1
  have hnc:=hb.nc
  have hnw:=hb.nw
  obtain⟨lb,lc,rfl⟩:=hls.form
  refine Rm C U U<|R.ext C U U U U<|R.ext C U U U U<|R.alloc C U U zeroValue152 U fun p4=>R.store C U U U U sizeOf152 U U U V Ph6<|Ad C U U<|Xr C U U<|Rm C U U<|R.int C U U U U b_neq<|R.done C<|X.cond C.1 U (fun hq=>?_) (fun hq=>?_)
  ·simp at hq
  ·refine X.skip C.1<|Xs C<|Xd C fun hok=>Df (off':=3) C 0 hok U U U runUnderlying54 U sizeOf29 U<|Dl 1 hok (fun _ _ A h=>R.loadOne C U (A.w U U) (A.x U U) isAgg29 Vm U h)<|Df (off':=4) C 3 hok U U U runUnderlying54 U sizeOf52 U<|Dl 4 hok (fun _ _ A h=>R.loadOne C U (A.w U U) (A.x U U) isAgg52 Vm U h)<|De 2 (some 17) [true,false] hok (fun _ _ A hk=>?_)
   refine R.call C U (A.w U U) (A.x U U) (A.s U U) (pre:= []) U (cloneC_c hJ (hc.mono hl2) O) fun vC roC preC hleC hqC=>hk _ _ ⟨(QFs.cons (QF.of U (fun _ _ A h=>R.loadOne C U (A.w U U) (A.x U U) isAgg52 Vm U h)) QFs.nil), ?_⟩
   refine Df (off':=3) C 6 hok U U U runUnderlying54 U sizeOf29 U<|De 5 (some 20) [false] hok (fun _ _ A hk=>?_)
   obtain⟨rfl,hbC⟩:=hqC
   obtain⟨bsC,capC,rfl⟩:=hbC.form Dd
   refine R.call C U (A.w U U) (A.x U U) (A.s U U) (pre:= []) U (cloneW_c hJ (hw.mono hl2) O) fun vW roW preW hleW hqW=>hk _ _ ⟨QFs.nil, ?_⟩
   refine De 7 none [] hok (fun _ _ A hk=>?_)
   obtain⟨rfl,hbW⟩:=hqW
   obtain⟨bsW,capW,rfl⟩:=hbW.form Dd
   refine R.store C U (A.w U U) (A.x U U) (A.x U U) sizeOf29 U U U (by repeat (first|exact Uh|apply Ut|apply Upd.app)) (.skip (.skip (.skip (.here .nil)))) (hk undef _ ⟨QFs.nil, ?_⟩)
   refine Df (off':=4) C 8 hok U U U runUnderlying54 U sizeOf52 U<|De 9 none [] hok (fun _ _ A hk=>?_)
   refine R.store C U (A.w U U) (A.x U U) (A.x U U) sizeOf52 U U U (by repeat (first|exact Uh|apply Ut|apply Upd.app)) (.skip (.skip (.skip (.skip (.here .nil))))) (hk undef _ ⟨QFs.nil, ?_⟩)
   refine D.done C hok Kr<|Xr C U U<|R.loadAgg C U U U isAgg54 sizeOf54 Vm Tk5<|R.store C U U U U sizeOf54 U U U (by repeat (first|exact Uh|apply Ut|apply Upd.app)) Ph5<|Ad C U U<|X.finish C.1 Wt.len Dd (hbW.app _) fun ro3 hl3 hlsW=>X.finish C.1 Rc.len Dd (hbC.app _) fun ro4 hl4 hlsC=>X.ret C U U func77 U (by exact(.agg U isAgg54 sizeOf54 V Tk5 (.tmp U .nil)))<|Hr hret (RO.le_trans hl2 (RO.le_trans hl3 hl4)) ?_
   exact .inr ⟨h0,_,⟨_,_,rfl,hlsC,hlsW.mono hl4⟩,rfl⟩
omit hJ in
theorem short_of{b:Bk}(hb:b.good):b.short:=by
 obtain⟨h1,h2,h3,h4,_,h5,_⟩:=hb
 unfold Bk.short;omega
omit hJ in
def heard(b:Bk)(w:Wt):Bk:={b with ws:=b.ws++ [w] }
end Go.Lg.N
namespace Go.Lg
open Go Go.Conc
theorem Put.app{o:Nat}{vs l l':List Value}(r:List Value)(h:Put o vs l l'):Put o vs (l++r) (l'++r):=by
 induction h with
 |nil=>exact .nil
 |here _ ih=>exact .here ih
 |skip _ ih=>exact .skip ih
theorem Put.behind{o:Nat}{vs l l':List Value}(h:Put o vs l l'):∀pre:List Value,Put (pre.length+o) vs (pre++l) (pre++l')
 | []=>by simpa using h
 |x::pre=>by
  have:=Put.skip (x:=x) (Put.behind h pre)
  simpa [Nat.add_assoc,Nat.add_comm,Nat.add_left_comm] using this
theorem Put.flat{α:Type}{enc:α→List Value}{k o:Nat}{vs:List Value}(hk:∀x,(enc x).length=k):∀ (xs:List α) (i:Nat) (h:i<xs.length) (y:α) (sp:List Value),Put o vs (enc xs[i]) (enc y)→Put (i*k+o) vs (xs.flatMap enc++sp) ((xs.set i y).flatMap enc++sp)
 |x::xs,0,_,y,sp,hp=>by
  simp only [List.flatMap_cons,List.set_cons_zero,List.append_assoc,Nat.zero_mul,Nat.zero_add]
  exact Put.app _ hp
 |x::xs,i+1,h,y,sp,hp=>by
  have:=Put.behind (Put.flat hk xs i (by simpa using h) y sp hp) (enc x)
  rw [hk] at this
  simp only [List.flatMap_cons,List.set_cons_succ,List.append_assoc]
  rw [show(i+1)*k+o=k+(i*k+o) by rw [Nat.add_mul];omega]
  exact this
theorem Buf.at{e:TypeId}{k:Nat}{tail own:List (Nat×Obj)}{v:Value}{cells:List Value}(h:Buf e k tail v cells own)(hp:0<cells.length):∃p len cap spare,v= .slice (some ⟨p,0,none⟩) len cap∧cells.length=len*k∧own=(p, .cells (cells++spare).toArray e (0,0))::tail∧∀cells':List Value,cells'.length=cells.length→Buf e k tail v cells' ((p, .cells (cells'++spare).toArray e (0,0))::tail):=by
 cases h with
 |nil=>simp at hp
 |blk c1 c2 c3=>exact⟨_,_,_,_,rfl,c1,rfl,fun cells' hc=> .blk (by rw [hc];exact c1) (by rw [List.length_append,hc, ←List.length_append];exact c2) c3⟩
end Go.Lg
namespace Go.Lg.N
open Go Go.Conc Go.Lg Go.Proofs Go.Lg.B Go.Proofs.Tryz
variable {main:Bool}{J:Goroutine→Mem→Prop}(hJ:Closed prog main J)
include hJ
omit hJ in
def cut(c x:Rc):Rc:=⟨max c.lo x.lo,min c.hi x.hi⟩
omit hJ in
def swung(b:Bk)(k:Int)(x:Rc):Bk:={b with cs:=b.cs.set k.toNat (cut (b.cs.getD k.toNat ⟨0,0⟩) x) }
omit hJ in
def swingH(b:Bk)(k:Int)(x:Rc):Int:=if checkChart b≠0 then checkChart b else if b.compass k≠0 then b.compass k else if(!isReach x (-3) 3)=true then 1 else if(cut (b.cs.getD k.toNat ⟨0,0⟩) x).hi<(cut (b.cs.getD k.toNat ⟨0,0⟩) x).lo then 9 else openH (swung b k x) 0
theorem swing_c{b:Bk}{v:Value}{ro:RO}(he:Env ro)(hv:BkV ro v b)(hs:b.short)(k:Int)(x:Rc):CallR prog J (fnv 18) [v, .int .i64 k,x.val] ro (fun y ro'=>NewV ro' (swung b k x) (swingH b k x) y):=by
 have hvv:=hv
 obtain⟨vc,vw,rfl,hc,hw⟩:=hv
 obtain⟨cb,cc,rfl⟩:=hc.form
 obtain⟨wb,wc,rfl⟩:=hw.form
 refine CallR.intro hJ Kr fun c cs tail hret=>enter_X (n:=65) func18 U U (Nl U) ?_
 have C:Ctx prog main J (bf 18 .normal):=⟨hJ,by decide⟩
 refine Xr C U U<|R.box C U U U U fun p3=>R.box C U U U U fun p5=>R.alloc C U U zeroValue54 U fun p6=>Ad C U U<|Xs C<|Xr C U U<|R5 C U U isAgg54 sizeOf54 V Tk5<|R.callP C U U U U (checkChart_c hJ (by assumption) (by assumption) (by assumption))<|Ad C U U<|Xr C U U<|Rm C U U<|R.int C U U U U b_neq<|R.done C<|X.cond C.1 U (fun hh=>?_) (fun hh=>?_)
 ·simp at hh
  refine Xr C U U ?_;refine R.build C U U U zeroValue54 U runUnderlying54 Kr .nil<|Rm C U U<|R.store C U U U U sizeOf54 U U U V Ph5<|Ad C U U<|X.ret C U U func18 U (by exact(.agg U isAgg54 sizeOf54 V Tk5 (.tmp U .nil)))<|Hr hret (RO.le_refl _) ?_
  exact .inl ⟨by rw [swingH,if_pos hh];exact hh,by rw [swingH,if_pos hh];rfl⟩
 ·simp at hh
  have hb:=good_iff.1 hh
  have hnw:=hb.nw
  have hnc:=hb.nc
  have hsm:=hb.small
  have hE:swingH b k x=if b.compass k≠0 then b.compass k else if(!isReach x (-3) 3)=true then 1 else if(cut (b.cs.getD k.toNat ⟨0,0⟩) x).hi<(cut (b.cs.getD k.toNat ⟨0,0⟩) x).lo then 9 else openH (swung b k x) 0:=by rw [swingH,if_neg (by simp [hh])]
  rw [hE] at hret
  refine X.skip C.1<|Xs C<|Xr C U U<|R5 C U U isAgg54 sizeOf54 V Tk5 ?_;refine R.build C U U U zeroValue146 U runUnderlying146 Kr (Fills.part U U sizeOf54 U Ph5 .nil)<|Rm C U U<|R.callP C U U U U (compass_c hJ hvv hsm k)<|Ad C U U<|Xr C U U<|Rm C U U<|R.int C U U U U b_neq<|R.done C<|X.cond C.1 U (fun hk=>?_) (fun hk=>?_)
  ·simp at hk
   rw [if_pos hk] at hret
   refine Xr C U U ?_;refine R.build C U U U zeroValue54 U runUnderlying54 Kr .nil<|Rm C U U<|R.store C U U U U sizeOf54 U U U V Ph5<|Ad C U U<|X.ret C U U func18 U (by exact(.agg U isAgg54 sizeOf54 V Tk5 (.tmp U .nil)))<|Hr hret (RO.le_refl _) ?_
   exact .inl ⟨hk,rfl⟩
  ·simp at hk
   rw [if_neg (by simp [hk])] at hret
   have hkb:=there_zero.1 hk
   simp only [between,Bool.and_eq_true,decide_eq_true_eq] at hkb
   have hki:k.toNat<b.cs.length:=O
   refine X.skip C.1<|Xs C<|Xr C U U<|R5 C U U isAgg45 sizeOf45 V Tk2<|R.callP C U U U U (isReach_c hJ _ _ _ _)<|R.not C U U U<|R.done C<|X.cond C.1 U (fun hx=>?_) (fun hx=>?_)
   ·rw [if_pos hx] at hret
    refine Xr C U U ?_;refine R.build C U U U zeroValue54 U runUnderlying54 Kr .nil<|R.store C U U U U sizeOf54 U U U V Ph5<|Ad C U U<|X.ret C U U func18 U (by exact(.agg U isAgg54 sizeOf54 V Tk5 (.tmp U .nil)))<|Hr hret (RO.le_refl _) ?_
    exact .inl ⟨by decide,rfl⟩
   ·rw [if_neg (by simp only [hx];decide)] at hret
    obtain⟨pp,off,cap,l,t,fq,hsl,hrop,hsub⟩:=hc.at Rc.len O
    cases hsl
    have hgd:b.cs[k.toNat]=b.cs.getD k.toNat ⟨0,0⟩:=by simp [hki]
    have hs0:=hsub k.toNat hki
    rw [hgd] at hs0
    generalize hc0:b.cs.getD k.toNat ⟨0,0⟩=c0 at*
    refine X.skip C.1<|Xr C U U<|Rf C 3 U U runUnderlying54 U sizeOf29<|Rl C U U isAgg29 V U<|Rm C U U<|Rx C U U U runUnderlying29 sizeOf45<|R.loadAggRo C U U U isAgg45 sizeOf45 hrop hs0<|R.alloc C U U zeroValue45 U fun p10=>R.store C U U U U sizeOf45 U U U V Ph2<|R.done C<|Xr C U U<|Rf C 0 U U runUnderlying45 U sizeOf3<|Rl C U U isAgg3 V U<|Rf C 0 U U runUnderlying45 U sizeOf3<|Rl C U U isAgg3 V U<|R.max2 C U U U U<|Rf C 1 U U runUnderlying45 U sizeOf3<|Rl C U U isAgg3 V U<|Rf C 1 U U runUnderlying45 U sizeOf3<|Rl C U U isAgg3 V U<|R.min2 C U U U U ?_;refine R.build C U U U zeroValue45 U runUnderlying45 Kr (Fills.part U U sizeOf3 U (.here .nil) (Fills.part U U sizeOf3 U (.skip (.here .nil)) .nil))<|R.alloc C U U zeroValue45 U fun p11=>R.store C U U U U sizeOf45 U U U V Ph2<|R.done C<|Xs C<|Xr C U U<|Rf C 0 U U runUnderlying45 U sizeOf3<|Rl C U U isAgg3 V U<|Rf C 1 U U runUnderlying45 U sizeOf3<|Rl C U U isAgg3 V U<|R.int C U U U U b_gtr<|R.done C<|Xk C U (fun hbad=>?_) (fun hbad=>?_)
    ·rw [if_pos (by exact hbad)] at hret
     refine Xr C U U ?_;refine R.build C U U U zeroValue54 U runUnderlying54 Kr .nil<|R.store C U U U U sizeOf54 U U U V Ph5<|Ad C U U<|X.ret C U U func18 U (by exact(.agg U isAgg54 sizeOf54 V Tk5 (.tmp U .nil)))<|Hr hret (RO.le_refl _) ?_
     exact .inl ⟨by decide,rfl⟩
    ·rw [if_neg (by exact hbad)] at hret
     have hcut:(b.cs.set k.toNat (cut c0 x))=(swung b k x).cs:=by rw [←hc0];rfl
     have hsh:(swung b k x).short:=⟨by show(b.cs.set _ _).length≤1000;simp;omega,by show b.ws.length≤1000;omega⟩
     have hfl:=flatMap_len Rc.len b.cs
     have hfl2:=flatMap_len Rc.len (b.cs.set k.toNat (cut c0 x))
     rw [List.length_set] at hfl2
     refine X.skip C.1<|Xr C U U<|Rf C 3 U U runUnderlying54 U sizeOf29<|R.loadOne C U U U isAgg29 Vm U<|R.call C U U U U (pre:= []) U (cloneC_c hJ hc O) fun vC roC preC hleC hqC=>?_
     obtain⟨rfl,hbC⟩:=hqC
     obtain⟨pC,len,capC,spare,rfl,hlen,rfl,hset⟩:=hbC.at O
     obtain rfl:len=b.cs.length:=by omega
     refine Rf C 3 U U runUnderlying54 U sizeOf29<|R.store C U U U U sizeOf29 U U U (by repeat (first|exact Uh|apply Ut|apply Upd.app)) (.skip (.skip (.skip (.here .nil))))<|R.done C<|Xr C U U<|Rf C 3 U U runUnderlying54 U sizeOf29<|R.loadOne C U U U isAgg29 Vm U<|Rm C U U<|R.loadAgg C U U U isAgg45 sizeOf45 Vm Tk2<|Rx C U U U runUnderlying29 sizeOf45<|R.store C U U U U sizeOf45 U U U (by repeat (first|exact Uh|apply Ut|apply Upd.app)) (by rw [Nat.zero_add];exact Put.flat (o:=0) Rc.len b.cs k.toNat hki (cut c0 x) spare Ph2)<|R.done C<|Xr C U U ?_
     have hb1:=hset ((b.cs.set k.toNat (cut c0 x)).flatMap Rc.cells) O
     refine R.finish C.1 Rc.len Dd (hb1.app _) fun ro3 hl3 hls3=>?_
     rw [hcut] at hls3
     have hln:(swung b k x).cs.length=b.cs.length:=by rw [←hcut,List.length_set]
     have hv3:BkV ro3 (.agg [.int .i64 b.w, .int .i64 b.h, .int .i64 b.f, .slice (some ⟨pC,0,none⟩) b.cs.length capC, .slice wb b.ws.length wc].toArray) (swung b k x):=⟨_,_,rfl,hls3,hw.mono hl3⟩
     have he3:=he.mono hl3
     refine R.loadAgg C U U U isAgg54 sizeOf54 Vm Tk5<|R.callR C U U U U (agreed_c hJ (by assumption) (by assumption) (by assumption)) fun v1 ro2 hl2 hp=>?_
     rcases hp with⟨h0,rfl⟩|⟨h0,v2,⟨vc2,vw2,rfl,hc2,hw2⟩,rfl⟩
     ·
      unfold noBk
      refine R.ext C U U U U<|R.ext C U U U U<|R.store C U U U U sizeOf54 U U U (by repeat (first|exact Uh|apply Ut|apply Upd.app)) Ph5<|Ad C U U<|X.ret C U U func18 U (by exact(.agg U isAgg54 sizeOf54 Vm Tk5 (.tmp U .nil)))<|hret _ _ _ (RO.le_trans hl3 hl2) (by repeat (first|exact List.Sublist.refl _|apply List.Sublist.cons|apply List.sublist_append_of_sublist_right)) ?_
      exact .inl ⟨h0,rfl⟩
     ·
      obtain⟨cb2,cc2,rfl⟩:=hc2.form
      obtain⟨wb2,wc2,rfl⟩:=hw2.form
      refine R.ext C U U U U<|R.ext C U U U U<|R.store C U U U U sizeOf54 U U U (by repeat (first|exact Uh|apply Ut|apply Upd.app)) Ph5<|Ad C U U<|X.ret C U U func18 U (by exact(.agg U isAgg54 sizeOf54 Vm Tk5 (.tmp U .nil)))<|hret _ _ _ (RO.le_trans hl3 hl2) (by repeat (first|exact List.Sublist.refl _|apply List.Sublist.cons|apply List.sublist_append_of_sublist_right)) ?_
      exact .inr ⟨h0,_,⟨_,_,rfl,hc2,hw2⟩,rfl⟩
end Go.Lg.N
namespace Go.Lg
open Go Go.Conc
end Go.Lg
namespace Go.Lg.N
open Go Go.Conc Go.Lg Go.Proofs Go.Lg.B Go.Proofs.Tryz
section
variable {main:Bool}{J:Goroutine→Mem→Prop}(hJ:Closed prog main J)
include hJ
theorem betweenR_c(n l m:Int)(ro:RO):CallP prog J (fnv 121) [.int .i64 n, .int .i64 l, .int .i64 m] ro (.bool (between n l m)):=by
 refine CallP.intro hJ Kr fun c cs tail hret=>enter_X (n:=15) func121 U U (Nl U) ?_
 have C:Ctx prog main J (bf 121 .normal):=⟨hJ,by decide⟩
 refine Xr C U U<|Ad C U U<|Xr C U U<|Rm C U U<|Rm C U U<|R.int C U U U U b_leq<|Rm C U U<|R.fix (t:=10) U (fun q1=>?_) (fun q1=>?_)
 ·refine Rm C U U<|Rm C U U<|R.int C U U U U b_leq<|R.pickT C U U U U<|Ad C U U<|Xt C func121<|Hp hret ?_
  first|(simp_all [between,retVal];done)|(simp_all [between,retVal];omega)
 ·refine R.pass C U U<|R.pass C U U<|R.pass C U U<|R.pickF C U U U U<|Ad C U U<|Xt C func121<|Hp hret ?_
  first|(simp_all [between,retVal];done)|(simp_all [between,retVal];omega)
end
end Go.Lg.N
namespace Go.Lg.N
open Go Go.Conc Go.Lg Go.Proofs Go.Lg.B Go.Proofs.Tryz
def addNew{α:Type} [DecidableEq α] (acc:List α)(s:α):List α:=if s∈acc then acc else acc++ [s]
def firsts{α:Type} [DecidableEq α] (l:List α):List α:=l.foldl addNew []
def wheres(b:Bk):List Sq:=if openH b 0≠0 then [] else firsts ((cases b).map fun c=>c.a.s)
def widen(r:Rc×Rc)(s:Sq):Rc×Rc:=(⟨min r.1.lo s.e,max r.1.hi s.e⟩,⟨min r.2.lo s.n,max r.2.hi s.n⟩)
def boxFrom(s:Sq)(l:List Sq):Rc×Rc:=l.foldl widen (⟨s.e,s.e⟩,⟨s.n,s.n⟩)
def box(b:Bk):Rc×Rc:=if openH b 0≠0 then(⟨0,0⟩,⟨0,0⟩) else boxFrom ((wheres b).headD default) (wheres b)
end Go.Lg.N
namespace Go.Lg.N
open Go Go.Conc Go.Lg Go.Proofs Go.Lg.B Go.Proofs.Tryz
structure Cs where
 s:Sq
 o:List Int
 f:List Int
 deriving DecidableEq
def CsV(ro:RO)(v:Value)(c:Cs):Prop:= ∃vo vf,v= .agg [.int .i64 c.s.e, .int .i64 c.s.n,vo,vf].toArray∧LsI ro vo c.o∧LsI ro vf c.f
theorem CsV.mono{ro ro':RO}{v:Value}{c:Cs}(h:CsV ro v c)(hl:ro.le ro'):CsV ro' v c:=let⟨vo,vf,e,h1,h2⟩:=h;⟨vo,vf,e,h1.mono hl,h2.mono hl⟩
def Cs.short(c:Cs):Prop:=c.o.length≤1000∧c.f.length≤1000
theorem ones_ic(l:List Int):ones (l.flatMap ic)=true:=by
 induction l with
 |nil=>rfl
 |cons x l ih=>simpa [ones,ic,oneCell] using ih
end Go.Lg.N
namespace Go.Lg.N
open Go Go.Conc Go.Lg Go.Proofs Go.Lg.B Go.Proofs.Tryz
section
variable {main:Bool}{J:Goroutine→Mem→Prop}(hJ:Closed prog main J)
include hJ
theorem nearR_c(s:Sq)(ro:RO):CallP prog J (fnv 167) [s.val] ro (.bool (isPlace s)):=by
 refine CallP.intro hJ Kr fun c cs tail hret=>enter_X (n:=11) func167 U U (Nl U) ?_
 have C:Ctx prog main J (bf 167 .normal):=⟨hJ,by decide⟩
 refine Xr C U U<|R.box C U U U U fun p1=>Ad C U U<|Xr C U U<|Rf C 0 U U runUnderlying157 U sizeOf3<|Rl C U U isAgg3 V U<|R.callP C U U U U (betweenR_c hJ _ _ _ _)<|Rm C U U<|R.fix (t:=6) U (fun q1=>?_) (fun q1=>?_)
 ·refine Rf C 1 U U runUnderlying157 U sizeOf3<|Rl C U U isAgg3 V U<|R.callP C U U U U (betweenR_c hJ _ _ _ _)<|R.pickT C U U U U<|Ad C U U<|Xt C func167<|Hp hret ?_
  simp_all [isPlace,retVal]
 ·refine R.pass C U U<|R.pass C U U<|R.pass C U U<|R.pickF C U U U U<|Ad C U U<|Xt C func167<|Hp hret ?_
  simp_all [isPlace,retVal]
theorem insideR_c(x:Rc)(l m:Int)(ro:RO):CallP prog J (fnv 14) [x.val, .int .i64 l, .int .i64 m] ro (.bool (isReach x l m)):=by
 refine CallP.intro hJ Kr fun c cs tail hret=>enter_X (n:=24) func14 U U (Nl U) ?_
 have C:Ctx prog main J (bf 14 .normal):=⟨hJ,by decide⟩
 refine Xr C U U<|R.box C U U U U fun p3=>Ad C U U<|Xr C U U<|Rm C U U<|Rf C 0 U U runUnderlying45 U sizeOf3<|Rl C U U isAgg3 V U<|R.int C U U U U b_leq<|Rm C U U<|R.fix (t:=11) U (fun q1=>?_) (fun q1=>?_)
 ·refine Rf C 0 U U runUnderlying45 U sizeOf3<|Rl C U U isAgg3 V U<|Rf C 1 U U runUnderlying45 U sizeOf3<|Rl C U U isAgg3 V U<|R.int C U U U U b_leq<|R.pickT C U U U U<|Rm C U U<|R.fix (t:=18) U (fun q2=>?_) (fun q2=>?_)
  ·refine Rf C 1 U U runUnderlying45 U sizeOf3<|Rl C U U isAgg3 V U<|Rm C U U<|R.int C U U U U b_leq<|R.pickT C U U U U<|Ad C U U<|Xt C func14<|Hp hret ?_
   first|(simp_all [isReach,retVal];done)|(simp_all [isReach,retVal];omega)
  ·refine R.pass C U U<|R.pass C U U<|R.pass C U U<|R.pass C U U<|R.pickF C U U U U<|Ad C U U<|Xt C func14<|Hp hret ?_
   first|(simp_all [isReach,retVal];done)|(simp_all [isReach,retVal];omega)
 ·refine R.pass C U U<|R.pass C U U<|R.pass C U U<|R.pass C U U<|R.pass C U U<|R.pickF C U U U U<|Rm C U U<|R.pass C U U<|R.pass C U U<|R.pass C U U<|R.pass C U U<|R.pickF C U U U U<|Ad C U U<|Xt C func14<|Hp hret ?_
  first|(simp_all [isReach,retVal];done)|(simp_all [isReach,retVal];omega)
theorem isCompassR_c{b:Bk}{v:Value}{ro:RO}(hv:BkV ro v b)(hb:b.short)(k:Int):CallP prog J (fnv 168) [v, .int .i64 k] ro (.bool (between k 0 (b.cs.length-1))):=by
 obtain⟨vc,vw,rfl,hc,hw⟩:=hv
 obtain⟨h1,h2⟩:=hb
 obtain⟨b1,c1,rfl⟩:=hc.form
 refine CallP.intro hJ Kr fun c cs tail hret=>enter_X (n:=11) func168 U U (Nl U) ?_
 have C:Ctx prog main J (bf 168 .normal):=⟨hJ,by decide⟩
 refine Xr C U U<|R.box C U U U U fun p2=>Ad C U U<|Xr C U U<|Rm C U U<|Rf C 3 U U runUnderlying54 U sizeOf29<|Rl C U U isAgg29 V U<|Rn C U U runUnderlying29<|R.int C U U U U (b_sub O O)<|R.callP C U U U U (betweenR_c hJ _ _ _ _)<|Ad C U U<|Xt C func168<|Hp hret ?_
 simp_all [retVal]
theorem greatR_c{b:Bk}{v:Value}{ro:RO}(hv:BkV ro v b):CallP prog J (fnv 71) [v] ro (.bool (decide (20<b.cs.length)||decide (20<b.ws.length))):=by
 obtain⟨vc,vw,rfl,hc,hw⟩:=hv
 obtain⟨b1,c1,rfl⟩:=hc.form
 obtain⟨b2,c2,rfl⟩:=hw.form
 refine CallP.intro hJ Kr fun c cs tail hret=>enter_X (n:=13) func71 U U (Nl U) ?_
 have C:Ctx prog main J (bf 71 .normal):=⟨hJ,by decide⟩
 refine Xr C U U<|R.box C U U U U fun p1=>Ad C U U<|Xr C U U<|Rf C 3 U U runUnderlying54 U sizeOf29<|Rl C U U isAgg29 V U<|Rn C U U runUnderlying29<|R.int C U U U U b_gtr<|Rm C U U<|R.fix (t:=7) U (fun q1=>?_) (fun q1=>?_)
 ·refine R.pass C U U<|R.pass C U U<|R.pass C U U<|R.pass C U U<|R.pickT C U U U U<|Ad C U U<|Xt C func71<|Hp hret ?_
  (simp only [decide_eq_true_eq,decide_eq_false_iff_not,retVal] at*;refine congrArg Value.bool ?_;rw [Bool.eq_iff_iff];simp;try omega)
 ·refine Rf C 4 U U runUnderlying54 U sizeOf52<|Rl C U U isAgg52 V U<|Rn C U U runUnderlying52<|R.int C U U U U b_gtr<|R.pickF C U U U U<|Ad C U U<|Xt C func71<|Hp hret ?_
  (simp only [decide_eq_true_eq,decide_eq_false_iff_not,retVal] at*;refine congrArg Value.bool ?_;rw [Bool.eq_iff_iff];simp;try omega)
end
end Go.Lg.N
namespace Go.Lg.N
open Go Go.Conc Go.Lg Go.Proofs Go.Lg.B Go.Proofs.Tryz
section
variable {main:Bool}{J:Goroutine→Mem→Prop}(hJ:Closed prog main J)
include hJ
theorem checkChartR_c{b:Bk}{v:Value}{ro:RO}(hv:BkV ro v b)(hs:b.short):CallP prog J (fnv 72) [v] ro (.int .i64 (checkChart b)):=by
 have hvv:=hv
 obtain⟨vc,vw,rfl,hc,hw⟩:=hv
 obtain⟨b1,c1,rfl⟩:=hc.form
 obtain⟨b2,c2,rfl⟩:=hw.form
 have hs0:=hs
 obtain⟨hs1,hs2⟩:=hs
 by_cases hch:b.chart=0
 ·have hch':between b.w 2 7=true∧between b.h 2 7=true∧between b.f 0 2=true:=by
   simp only [Bk.chart] at hch
   cases h1:between b.w 2 7<;>cases h2:between b.h 2 7<;>cases h3:between b.f 0 2<;>simp [h1,h2,h3] at hch⊢
  obtain⟨g1,g2,g3⟩:=hch'
  refine CallP.intro hJ Kr fun c cs tail hret=>enter_X (n:=82) func72 U U (Nl U) ?_
  have C:Ctx prog main J (bf 72 .normal):=⟨hJ,by decide⟩
  refine Xr C U U<|R.box C U U U U fun p1=>Ad C U U<|Xs C<|Xr C U U<|Rf C 0 U U runUnderlying54 U sizeOf3<|Rl C U U isAgg3 V U<|R.callP C U U U U (betweenR_c hJ _ _ _ _)<|R.not C U U U<|R.fixv (t:=10) (v':= .bool false) U (by(rw [g1];rfl))<|Rm C U U<|Rf C 1 U U runUnderlying54 U sizeOf3<|Rl C U U isAgg3 V U<|R.callP C U U U U (betweenR_c hJ _ _ _ _)<|R.not C U U U<|R.fixv (t:=15) (v':= .bool false) U (by(rw [g2];rfl))<|R.pickF C U U U U<|Rm C U U<|Rf C 2 U U runUnderlying54 U sizeOf3<|Rl C U U isAgg3 V U<|R.callP C U U U U (betweenR_c hJ _ _ _ _)<|R.not C U U U<|R.fixv (t:=21) (v':= .bool false) U (by(rw [g3];rfl))<|R.pickF C U U U U<|R.done C<|X.cond C.1 U (fun h=>nomatch h) (fun _=>?_)
  refine X.skip C.1<|Xs C<|Xr C U U<|Rf C 3 U U runUnderlying54 U sizeOf29<|Rl C U U isAgg29 V U<|Rn C U U runUnderlying29<|R.callP C U U U U (betweenR_c hJ _ _ _ _)<|R.not C U U U<|R.done C<|X.cond C.1 U (fun hn=>?_) (fun hn=>?_)
  ·refine Xr C U U<|Ad C U U<|Xt C func72<|Hp hret ?_
   simp only [checkChart,hch,Bk.compassesH]
   simp_all [retVal]
  ·have hn':between (b.cs.length:Int) 1 3=true:=by simpa using hn
   refine X.skip C.1<|Xs C<|Xr C U U<|Ad C U U<|X.block C.1<|X.loopI (ι:=Nat) C.1 (fun i=>i≤b.cs.length∧csH (b.cs.drop i)=csH b.cs) (fun i=> [(1, .pointer (some ⟨p1,0,none⟩)),(3, .int .i64 (i:Int))])
    (fun _=>⟨ro,(p1, .cells [.int .i64 b.w, .int .i64 b.h, .int .i64 b.f, .slice b1 b.cs.length c1, .slice b2 b.ws.length c2].toArray 54 (0,0))::tail⟩) (fun i=>b.cs.length-i) 0 ⟨Nat.zero_le _,rfl⟩ rfl ⟨U,U,trivial⟩ fun i hi hnext=>?_
   obtain⟨hi,hr⟩:=hi
   refine Xs C<|Xr C U U<|Rm C U U<|Rf C 3 U U runUnderlying54 U sizeOf29<|Rl C U U isAgg29 V U<|Rn C U U runUnderlying29<|R.int C U U U U b_lss<|R.done C<|Xk C U (fun hlt=>?_) (fun hlt=>?_)
   ·have hi':i<b.cs.length:=O
    obtain⟨p,off,cap,l,t,fq,hsl,hrop,hsub⟩:=hc.at Rc.len O
    cases hsl
    rw [List.drop_eq_getElem_cons hi'] at hr
    simp only [csH] at hr
    refine X.skip C.1<|Xs C<|X.block C.1<|Xr C U U<|Rf C 3 U U runUnderlying54 U sizeOf29<|Rl C U U isAgg29 V U<|Rm C U U<|Rx C U U U runUnderlying29 sizeOf45<|R.loadAggRo C U U U isAgg45 sizeOf45 hrop (hsub i hi')<|R.alloc C U U zeroValue45 U fun p4=>R.store C U U U U sizeOf45 U U U V Ph2<|R.done C<|Xr C U U<|R5 C U U isAgg45 sizeOf45 V Tk2<|R.callP C U U U U (insideR_c hJ b.cs[i] _ _ _)<|R.not C U U U<|Rm C U U<|R.fix (t:=43) U (fun hg=>?_) (fun hg=>?_)
    ·have hf:(b.cs[i]).fine=false:=by simp at hg;simp [Rc.fine,hg]
     simp [hf] at hr
     refine R.pass C U U<|R.pass C U U<|R.pass C U U<|R.pass C U U<|R.pass C U U<|R.pass C U U<|R.pickT C U U U U<|R.done C<|X.cond C.1 U (fun _=>?_) (fun h=>nomatch h)
     refine Xr C U U<|Ad C U U<|Xt C func72<|Hp hret ?_
     simp [checkChart,hch,Bk.compassesH,hn',retVal, ←hr]
    ·have hbd:=isReach_bd (x:=b.cs[i]) (by simpa using hg)
     refine Rf C 1 U U runUnderlying45 U sizeOf3<|Rl C U U isAgg3 V U<|Rf C 0 U U runUnderlying45 U sizeOf3<|Rl C U U isAgg3 V U<|R.int C U U U U (b_sub O O)<|R.int C U U U U b_geq<|R.pickF C U U U U<|R.done C<|X.cond C.1 U (fun hd=>?_) (fun hd=>?_)
     ·have hf:(b.cs[i]).fine=false:=by simp at hd;simp [Rc.fine];intro _;omega
      simp [hf] at hr
      refine Xr C U U<|Ad C U U<|Xt C func72<|Hp hret ?_
      simp [checkChart,hch,Bk.compassesH,hn',retVal, ←hr]
     ·refine X.skip C.1<|X.inBlock C.1<|X.region C U U<|Rm C U U<|Ra C U U U<|Ad C U U ?_
      have hf:(b.cs[i]).fine=true:=by simp at hd hg;simp [Rc.fine,hg];omega
      simp [hf] at hr
      refine X.weak C.1 (Weak.sub (List.sublist_cons_self _ _)) (X.weaken ?_ (hnext (i+1) ⟨O,hr⟩ O))
      exact⟨rfl,by simp [look],trivial⟩
   ·obtain rfl:i=b.cs.length:=by omega
    have hcs:b.compassesH=0:=by simp [csH] at hr;simp [Bk.compassesH,hn', ←hr]
    have hcc:checkChart b=b.witnessesH:=by simp [checkChart,hch,hcs]
    refine X.exit C.1 U<|Xs C<|Xr C U U<|Rf C 4 U U runUnderlying54 U sizeOf52<|Rl C U U isAgg52 V U<|Rn C U U runUnderlying52<|R.int C U U U U b_gtr<|R.done C<|X.cond C.1 U (fun h5=>?_) (fun h5=>?_)
    ·refine Xr C U U<|Ad C U U<|Xt C func72<|Hp hret ?_
     simp at h5
     rw [hcc]
     simp [Bk.witnessesH,retVal];omega
    ·simp at h5
     refine X.skip C.1<|Xs C<|Xr C U U<|Ad C U U<|X.block C.1<|X.loopI (ι:=Nat) C.1 (fun i=>i≤b.ws.length∧wtsH b.cs.length (b.ws.drop i)=wtsH b.cs.length b.ws) (fun i=> [(1, .pointer (some ⟨p1,0,none⟩)),(5, .int .i64 (i:Int))])
      (fun _=>⟨ro,(p1, .cells [.int .i64 b.w, .int .i64 b.h, .int .i64 b.f, .slice b1 b.cs.length c1, .slice b2 b.ws.length c2].toArray 54 (0,0))::tail⟩) (fun i=>b.ws.length-i) 0 ⟨Nat.zero_le _,rfl⟩ rfl ⟨U,U,trivial⟩ fun i hi hnext2=>?_
     obtain⟨hi,hr⟩:=hi
     refine Xs C<|Xr C U U<|Rm C U U<|Rf C 4 U U runUnderlying54 U sizeOf52<|Rl C U U isAgg52 V U<|Rn C U U runUnderlying52<|R.int C U U U U b_lss<|R.done C<|Xk C U (fun hlt2=>?_) (fun hlt2=>?_)
     ·have hi':i<b.ws.length:=O
      obtain⟨p,off,cap,l,t,fq,hsl,hrop,hsub⟩:=hw.at Wt.len O
      cases hsl
      rw [List.drop_eq_getElem_cons hi'] at hr
      simp only [wtsH] at hr
      refine X.skip C.1<|Xs C<|X.block C.1<|Xr C U U<|Rf C 4 U U runUnderlying54 U sizeOf52<|Rl C U U isAgg52 V U<|Rm C U U<|Rx C U U U runUnderlying52 sizeOf290<|R.loadAggRo C U U U isAgg290 sizeOf290 hrop (hsub i hi')<|R.alloc C U U zeroValue290 U fun p6=>R.store C U U U U sizeOf290 U U U V Ph5<|R.done C<|Xs C<|Xr C U U<|Rf C 0 U U runUnderlying290 U sizeOf157<|R5 C U U isAgg157 sizeOf157 V Tk2<|R.callP C U U U U (nearR_c hJ (b.ws[i]).s _)<|R.not C U U U<|Rm C U U<|R.fix (t:=71) U (fun hg2=>?_) (fun hg2=>?_)
      ·refine R.pass C U U<|R.pass C U U<|R.pass C U U<|R.pass C U U<|R.pickT C U U U U<|R.done C<|X.cond C.1 U (fun _=>?_) (fun h=>nomatch h)
       refine Xr C U U<|Ad C U U<|Xt C func72<|Hp hret ?_
       simp at hg2
       simp [hg2] at hr
       rw [hcc]
       simp [Bk.witnessesH,retVal, ←hr];omega
      ·refine Rf C 2 U U runUnderlying290 U sizeOf3<|Rl C U U isAgg3 V U<|R.callP C U U U U (betweenR_c hJ _ _ _ _)<|R.not C U U U<|R.pickF C U U U U<|R.done C<|X.cond C.1 U (fun hd=>?_) (fun hd=>?_)
       ·refine Xr C U U<|Ad C U U<|Xt C func72<|Hp hret ?_
        simp at hg2 hd
        simp [hg2,hd] at hr
        rw [hcc]
        simp [Bk.witnessesH,retVal, ←hr];omega
       ·refine X.skip C.1<|Xr C U U<|R5 C U U isAgg54 sizeOf54 V Tk5<|Rf C 3 U U runUnderlying290 U sizeOf3<|Rl C U U isAgg3 V U<|R.callP C U U U U (isCompassR_c hJ hvv hs0 _)<|R.not C U U U<|R.done C<|X.cond C.1 U (fun hk=>?_) (fun hk=>?_)
        ·refine Xr C U U<|Ad C U U<|Xt C func72<|Hp hret ?_
         simp at hg2 hd hk
         simp [hg2,hd,there,hk] at hr
         rw [hcc]
         simp [Bk.witnessesH,retVal, ←hr];omega
        ·refine X.skip C.1<|X.inBlock C.1<|X.region C U U<|Rm C U U<|Ra C U U U<|Ad C U U ?_
         simp at hg2 hd hk
         simp [hg2,hd,there,hk] at hr
         refine X.weak C.1 (Weak.sub (List.sublist_cons_self _ _)) (X.weaken ?_ (hnext2 (i+1) ⟨O,hr⟩ O))
         exact⟨rfl,by simp [look],trivial⟩
     ·obtain rfl:i=b.ws.length:=by omega
      simp [wtsH] at hr
      refine X.exit C.1 U<|Xr C U U<|Ad C U U<|Xt C func72<|Hp hret ?_
      rw [hcc]
      simp [Bk.witnessesH,retVal, ←hr];omega
 ·have hone:b.chart=1:=by
   simp only [Bk.chart] at hch⊢
   split at hch
   ·rename_i h;rw [if_pos h]
   ·exact absurd rfl hch
  have hcc:checkChart b=1:=by rw [checkChart,if_pos hch,hone]
  have hany:(!between b.w 2 7|| !between b.h 2 7|| !between b.f 0 2)=true:=by
   simp only [Bk.chart] at hch
   split at hch
   ·assumption
   ·exact absurd rfl hch
  by_cases g1:between b.w 2 7=true
  ·by_cases g2:between b.h 2 7=true
   ·have g3:between b.f 0 2=false:=by simpa [g1,g2] using hany
    refine CallP.intro hJ Kr fun c cs tail hret=>enter_X (n:=82) func72 U U (Nl U) ?_
    have C:Ctx prog main J (bf 72 .normal):=⟨hJ,by decide⟩
    refine Xr C U U<|R.box C U U U U fun p1=>Ad C U U<|Xs C<|Xr C U U<|Rf C 0 U U runUnderlying54 U sizeOf3<|Rl C U U isAgg3 V U<|R.callP C U U U U (betweenR_c hJ _ _ _ _)<|R.not C U U U<|R.fixv (t:=10) (v':= .bool false) U (by(rw [g1];rfl))<|Rm C U U<|Rf C 1 U U runUnderlying54 U sizeOf3<|Rl C U U isAgg3 V U<|R.callP C U U U U (betweenR_c hJ _ _ _ _)<|R.not C U U U<|R.fixv (t:=15) (v':= .bool false) U (by(rw [g2];rfl))<|R.pickF C U U U U<|Rm C U U<|Rf C 2 U U runUnderlying54 U sizeOf3<|Rl C U U isAgg3 V U<|R.callP C U U U U (betweenR_c hJ _ _ _ _)<|R.not C U U U<|R.fixv (t:=21) (v':= .bool true) U (by(rw [g3];rfl))<|R.pickF C U U U U<|R.done C<|X.cond C.1 U (fun _=>?_) (fun h=>nomatch h)
    refine Xr C U U<|Ad C U U<|Xt C func72<|Hp hret ?_
    rw [hcc];rfl
   ·have g2:between b.h 2 7=false:=by simpa using g2
    refine CallP.intro hJ Kr fun c cs tail hret=>enter_X (n:=82) func72 U U (Nl U) ?_
    have C:Ctx prog main J (bf 72 .normal):=⟨hJ,by decide⟩
    refine Xr C U U<|R.box C U U U U fun p1=>Ad C U U<|Xs C<|Xr C U U<|Rf C 0 U U runUnderlying54 U sizeOf3<|Rl C U U isAgg3 V U<|R.callP C U U U U (betweenR_c hJ _ _ _ _)<|R.not C U U U<|R.fixv (t:=10) (v':= .bool false) U (by(rw [g1];rfl))<|Rm C U U<|Rf C 1 U U runUnderlying54 U sizeOf3<|Rl C U U isAgg3 V U<|R.callP C U U U U (betweenR_c hJ _ _ _ _)<|R.not C U U U<|R.fixv (t:=15) (v':= .bool true) U (by(rw [g2];rfl))<|R.pickF C U U U U<|Rm C U U<|R.pass C U U<|R.pass C U U<|R.pass C U U<|R.pass C U U<|R.pickT C U U U U<|R.done C<|X.cond C.1 U (fun _=>?_) (fun h=>nomatch h)
    refine Xr C U U<|Ad C U U<|Xt C func72<|Hp hret ?_
    rw [hcc];rfl
  ·have g1:between b.w 2 7=false:=by simpa using g1
   refine CallP.intro hJ Kr fun c cs tail hret=>enter_X (n:=82) func72 U U (Nl U) ?_
   have C:Ctx prog main J (bf 72 .normal):=⟨hJ,by decide⟩
   refine Xr C U U<|R.box C U U U U fun p1=>Ad C U U<|Xs C<|Xr C U U<|Rf C 0 U U runUnderlying54 U sizeOf3<|Rl C U U isAgg3 V U<|R.callP C U U U U (betweenR_c hJ _ _ _ _)<|R.not C U U U<|R.fixv (t:=10) (v':= .bool true) U (by(rw [g1];rfl))<|Rm C U U<|R.pass C U U<|R.pass C U U<|R.pass C U U<|R.pass C U U<|R.pickT C U U U U<|Rm C U U<|R.pass C U U<|R.pass C U U<|R.pass C U U<|R.pass C U U<|R.pickT C U U U U<|R.done C<|X.cond C.1 U (fun _=>?_) (fun h=>nomatch h)
   refine Xr C U U<|Ad C U U<|Xt C func72<|Hp hret ?_
   rw [hcc];rfl
end
end Go.Lg.N
namespace Go.Lg.N
open Go Go.Conc Go.Lg Go.Proofs Go.Lg.B Go.Proofs.Tryz
theorem good_small{b:Bk}(h:checkChart b=0):b.cs.length≤3∧b.ws.length≤5:=by
 have:=good_iff.1 h
 exact⟨this.nc.2,this.nw⟩
section
variable {main:Bool}{J:Goroutine→Mem→Prop}(hJ:Closed prog main J)
include hJ
theorem fitR_c{b:Bk}{v:Value}{ro:RO}(hv:BkV ro v b):CallP prog J (fnv 17) [v] ro (.bool (checkChart b==0)):=by
 have hvv:=hv
 obtain⟨vc,vw,rfl,hc,hw⟩:=hv
 by_cases hg:(decide (20<b.cs.length)||decide (20<b.ws.length))=true
 ·have hne:checkChart b≠0:=fun h=>by
   have:=good_small h
   simp only [Bool.or_eq_true,decide_eq_true_eq] at hg;omega
  refine CallP.intro hJ Kr fun c cs tail hret=>enter_X (n:=11) func17 U U (Nl U) ?_
  have C:Ctx prog main J (bf 17 .normal):=⟨hJ,by decide⟩
  refine Xr C U U<|R.box C U U U U fun p1=>Ad C U U<|Xr C U U<|R5 C U U isAgg54 sizeOf54 V Tk5<|R.callP C U U U U (greatR_c hJ hvv)<|R.not C U U U<|R.fixv (t:=5) (v':= .bool false) U (by(rw [hg];rfl))<|Rm C U U<|R.pass C U U<|R.pass C U U<|R.pass C U U<|R.pickF C U U U U<|Ad C U U<|Xt C func17<|Hp hret ?_
  rw [beq_eq_false_iff_ne.2 hne];rfl
 ·have hg2:(decide (20<b.cs.length)||decide (20<b.ws.length))=false:=by simpa using hg
  have hsh:b.short:=by
   simp only [Bool.or_eq_false_iff,decide_eq_false_iff_not] at hg2
   unfold Bk.short;omega
  refine CallP.intro hJ Kr fun c cs tail hret=>enter_X (n:=11) func17 U U (Nl U) ?_
  have C:Ctx prog main J (bf 17 .normal):=⟨hJ,by decide⟩
  refine Xr C U U<|R.box C U U U U fun p1=>Ad C U U<|Xr C U U<|R5 C U U isAgg54 sizeOf54 V Tk5<|R.callP C U U U U (greatR_c hJ hvv)<|R.not C U U U<|R.fixv (t:=5) (v':= .bool true) U (by(rw [hg2];rfl))<|Rm C U U<|R5 C U U isAgg54 sizeOf54 V Tk5<|R.callP C U U U U (checkChartR_c hJ hvv hsh)<|R.int C U U U U b_eql<|R.pickT C U U U U<|Ad C U U<|Xt C func17<|Hp hret ?_
  rfl
end
end Go.Lg.N
namespace Go.Lg.N
open Go Go.Conc Go.Lg Go.Proofs Go.Lg.B Go.Proofs.Tryz
theorem rz_to:∀ {m:Nat} {n k:Int},n≤k→k<n+m→k∈rz n m
 |0,n,k,h,h2=>by omega
 |m+1,n,k,h,h2=>by
  simp only [rz,List.mem_cons]
  by_cases e:k=n
  ·exact .inl e
  ·exact .inr (rz_to O O)
theorem offs_sub:∀ {l l':List Rc} {i:Nat} {a:Aim},l'.length=l.length→(∀j (h:j<l.length) (h':j<l'.length),l[j].lo≤l'[j].lo∧l'[j].hi≤l[j].hi)→∀z∈offs l' i a,z∈offs l i a
 | [], [],_,_,_,_,z,hz=>hz
 | [],_::_,_,_,h,_,_,_=>by simp at h
 |_::_, [],_,_,h,_,_,_=>by simp at h
 |x::l,x'::l',i,a,h,hs,z,hz=>by
  simp only [offs,List.mem_flatMap] at hz⊢
  obtain⟨n,hn,hz⟩:=hz
  have h0:=hs 0 Zi Zi
  simp only [List.getElem_cons_zero] at h0
  have hb:=rz_mem hn
  exact⟨n,rz_to O O,offs_sub (by simpa using h) (fun j h1 h2=>by have:=hs (j+1) (by simpa using h1) (by simpa using h2);simpa using this) z hz⟩
theorem offs_in:∀ {l:List Rc} {i:Nat} {a:Aim},i+l.length≤3→∀z∈offs l i a,(∀j (h:j<l.length),l[j].lo≤z.off ((i+j:Nat):Int)∧z.off ((i+j:Nat):Int)≤l[j].hi)∧∀k:Int,0≤k→k<i→z.off k=a.off k
 | [],_,_,_,z,hz=>by
  simp only [offs,List.mem_singleton] at hz
  subst hz
  exact⟨fun j h=>absurd h (Nat.not_lt_zero _),fun _ _ _=>rfl⟩
 |x::l,i,a,hl,z,hz=>by
  simp only [List.length_cons] at hl
  simp only [offs,List.mem_flatMap] at hz
  obtain⟨n,hn,hz⟩:=hz
  have hb:=rz_mem hn
  obtain⟨h1,h2⟩:=offs_in O z hz
  refine⟨fun j hj=>?_,fun k h0 hk=>?_⟩
  ·cases j with
   |zero=>
    have e:=h2 (i:Int) O O
    rw [Aim.off_set a n O O,if_pos rfl] at e
    simp only [Nat.add_zero,List.getElem_cons_zero]
    omega
   |succ j=>
    have:=h1 j (by simpa using hj)
    rw [show i+(j+1)=i+1+j by omega]
    simpa using this
  ·rw [h2 k h0 O,Aim.off_set a n O O,if_neg O]
theorem aims_off{b:Bk}(hb:b.good){k:Nat}(hk:k<b.cs.length):∀z∈aims b,b.cs[k].lo≤z.off (k:Int)∧z.off (k:Int)≤b.cs[k].hi:=fun z hz=>by
 simp only [aims,List.mem_flatMap] at hz
 obtain⟨n,_,hz⟩:=hz
 have hnc:=hb.nc
 have:=(offs_in O z hz).1 k hk
 simpa using this
theorem swung_sub{b:Bk}{k:Int}{x:Rc}(h:0≤k∧k<b.cs.length):∀c∈cases (swung b k x),c∈cases b:=fun c hc=>by
 simp only [cases,aims,List.mem_flatMap] at hc⊢
 obtain⟨z,⟨n,hn,hz⟩,hc⟩:=hc
 refine⟨z,⟨n,hn,offs_sub (l':=(swung b k x).cs) (by unfold swung;simp) (fun j h1 h2=>?_) z hz⟩,hc⟩
 have hk:k.toNat<b.cs.length:=O
 have e:(swung b k x).cs[j]=if k.toNat=j then cut (b.cs.getD k.toNat ⟨0,0⟩) x else b.cs[j]:=List.getElem_set h2
 rw [e]
 by_cases e2:k.toNat=j
 ·rw [if_pos e2]
  subst e2
  rw [List.getD_eq_getElem?_getD,List.getElem?_eq_getElem hk,Option.getD_some]
  simp only [cut]
  omega
 ·rw [if_neg e2];omega
theorem offOf_is{b:Bk}(h:openH b 0=0){k:Int}(hk:0≤k∧k<b.cs.length):offOf b k=(numbers ((cases b).map fun c=>c.a.off k),0):=by
 obtain⟨hg,_,hne⟩:=openH_good h
 have hc:b.compass k=0:=there_zero.2 (by simp only [between,Bool.and_eq_true,decide_eq_true_eq];omega)
 rw [offOf,hc,if_neg (fun e=>e h)]
 rfl
theorem swung_law{b:Bk}(hch:checkChart b=0){i j:Int}{x:Rc}(hi:0≤i∧i<b.cs.length)(hj:0≤j∧j<b.cs.length)(h:swingH b i x=0):
  ∃l m,offOf b j=(l,0)∧offOf (swung b i x) j=(m,0)∧checkChart (swung b i x)=0∧l≠ []∧m≠ []∧(∀y∈m,y∈l)∧l.Pairwise (· < ·)∧m.Pairwise (· < ·)∧∃a c:Int, -3≤a∧c≤3∧c-a<3∧∀y∈l,a≤y∧y≤c:=by
 have hb:=good_iff.1 hch
 have ho:openH (swung b i x) 0=0:=by
  unfold swingH at h
  rw [if_neg (fun e=>e hch)] at h
  split at h
  ·exact absurd h ‹_›
  ·split at h
   ·cases h
   ·split at h
    ·cases h
    ·exact h
 obtain⟨hgo,_,hneo⟩:=openH_good ho
 have hne:cases b≠ []:=fun e=>by
  cases hc:cases (swung b i x) with
  |nil=>exact hneo hc
  |cons c cs=>
   have:=swung_sub hi c (by rw [hc];simp)
   rw [e] at this;cases this
 have hob:openH b 0=0:=by
  unfold openH
  rw [if_neg (fun e=>e hch),if_neg (fun e=>e rfl),if_neg hne]
 have hlen:(swung b i x).cs.length=b.cs.length:=by unfold swung;simp
 have hk:j.toNat<b.cs.length:=O
 refine⟨_,_,offOf_is hob hj,offOf_is ho (by rw [hlen];exact hj),good_iff.2 hgo, ?_, ?_,fun y hy=>?_,numbers_asc _,numbers_asc _,(b.cs[j.toNat]).lo,(b.cs[j.toNat]).hi, ?_⟩
 ·intro e
  cases hc:cases b with
  |nil=>exact hne hc
  |cons c cs=>
   have:c.a.off j∈numbers ((cases b).map fun c=>c.a.off j):=numbers_mem.2 (by rw [hc];simp)
   rw [e] at this;cases this
 ·intro e
  cases hc:cases (swung b i x) with
  |nil=>exact hneo hc
  |cons c cs=>
   have:c.a.off j∈numbers ((cases (swung b i x)).map fun c=>c.a.off j):=numbers_mem.2 (by rw [hc];simp)
   rw [e] at this;cases this
 ·rw [numbers_mem] at hy⊢
  obtain⟨c,hc,rfl⟩:=List.mem_map.1 hy
  exact List.mem_map_of_mem (swung_sub hi c hc)
 ·have hf:=hb.cs _ (List.getElem_mem hk)
  simp only [Rc.fine,isReach,Bool.and_eq_true,decide_eq_true_eq] at hf
  refine⟨O,O,O,fun y hy=>?_⟩
  rw [numbers_mem] at hy
  obtain⟨c,hc,rfl⟩:=List.mem_map.1 hy
  have:=aims_off hb hk c.a (cases_mem hc).1
  rw [show((j.toNat:Nat):Int)=j by omega] at this
  exact this
end Go.Lg.N
namespace Go.Lg.B
open Go Go.Conc Go.Lg Go.Proofs Go.Proofs.Tryz
theorem emod_in{x:Int}{n:Nat}(h:1≤n):0≤x% (n:Int)∧x% (n:Int)<n:=⟨Int.emod_nonneg _ O,Int.emod_lt_of_pos _ O⟩
theorem swung_root{b:Bk}{ch:N.Bk}{vb vk:Value}{x:Rc}{c0 o0 i0 g0 k0 n0:Int}(hc0:0≤c0∧c0≤255)(ho0:0≤o0∧o0≤255)(hi0:0≤i0∧i0≤255)(hg0:0≤g0∧g0≤255)(hk0:0≤k0∧k0≤255)(hn0:0≤n0∧n0≤255){ro:RO}(he:Env ro)(heN:N.Env ro)(hv:BkV ro vb b)(hvk:N.BkV ro vk ch):
  Root prog 4 [vb,vk, .int .u8 c0, .int .u8 o0,x.val, .int .u8 i0, .int .u8 g0, .int .u8 k0, .int .u8 n0] ro (fun w _=>w= .bool true):=by
 intro Post hret
 have hJ:Closed prog true (JM prog (Go.Conc.Good prog Post)):=JM.closed
 obtain⟨vp,vg,vc,vt,rfl,hp,hg,hc,ht⟩:=hv
 obtain⟨pb,pc,rfl⟩:=hp.form
 obtain⟨gb,gc,rfl⟩:=hg.form
 obtain⟨cb,cc,rfl⟩:=hc.form
 obtain⟨tb,tc,rfl⟩:=ht.form
 have hvv:BkV ro (.agg [.int .i64 b.w, .slice pb b.ps.length pc, .slice gb b.gs.length gc, .slice cb b.cs.length cc, .slice none 0 0].toArray) b.noTests:=⟨_,_,_,_,rfl,hp,hg,hc, .nil⟩
 have hvk0:=hvk
 obtain⟨kvc,kvw,rfl,hkc,hkw⟩:=hvk
 obtain⟨kb,kc,rfl⟩:=hkc.form
 obtain⟨wb,wc,rfl⟩:=hkw.form
 let main:=true
 let J:=JM prog (Go.Conc.Good prog Post)
 refine enter_X (n:=106) func4 U U (Nl U) ?_
 have C:Ctx prog main J (bf 4 .normal):=⟨hJ,by decide⟩
 by_cases h1:checkBook b.noTests=0
 ·by_cases h2:N.checkChart ch=0
  ·have hb:=good_of h1
   have hbN:=N.good_iff.1 h2
   have hshN:=N.short_of hbN
   have hnp:1≤b.ps.length∧b.ps.length≤4:=hb.np
   have hng:1≤b.gs.length∧b.gs.length≤3:=hb.ng
   have hnc:1≤b.cs.length∧b.cs.length≤3:=hb.nc
   have hnk:1≤ch.cs.length∧ch.cs.length≤3:=hbN.nc
   refine Xr C U U<|R.box C U U U U fun p9=>R.box C U U U U fun p10=>R.box C U U U U fun p13=>Ad C U U<|Xr C U U<|Rf C 4 U U runUnderlying27 U sizeOf25<|R.store C U U U U sizeOf25 U U U V (.skip (.skip (.skip (.skip (.here .nil)))))<|R.done C<|Xs C<|Xr C U U<|R5 C U U isAgg27 sizeOf27 V Tk5<|R.callP C U U U U (fitR_c hJ hvv)<|R.not C U U U<|R.fixv (t:=30) (v':= .bool false) U (by(rw [h1];rfl))<|Rm C U U<|R5 C U U isAgg54 sizeOf54 V Tk5<|R.callP C U U U U (N.fitR_c hJ hvk0)<|R.not C U U U<|R.fixv (t:=34) (v':= .bool false) U (by(rw [h2];rfl))<|R.pickF C U U U U<|R.done C<|X.cond C.1 U (fun h=>nomatch h) (fun _=>?_)
   refine X.skip C.1<|Xs C<|Xd C fun hok=>Dm C 0 hok U U U<|Dp 1 hok (fun _ _ _ A h=>R.convInt C U (A.w U U) (A.x U U) runUnderlying5 runUnderlying3 (wrap64 O O) h)<|Df (off':=3) C 2 hok U U U runUnderlying54 U sizeOf29 U<|D1 C 3 hok U U isAgg29 V U<|Ds C 4 hok U U runUnderlying29<|Di C 5 hok U U U U U (b_remP O O)<|Dm C 6 hok U U U<|Dp 7 hok (fun _ _ _ A h=>R.convInt C U (A.w U U) (A.x U U) runUnderlying5 runUnderlying3 (wrap64 O O) h)<|Df (off':=3) C 8 hok U U U runUnderlying54 U sizeOf29 U<|D1 C 9 hok U U isAgg29 V U<|Ds C 10 hok U U runUnderlying29<|Di C 11 hok U U U U U (b_remP O O)<|Da C 12 hok U U<|Da C 13 hok U U<|D.done C hok Kr<|Xs C ?_
   have hci:=emod_in (x:=c0) hnk.1
   have hoi:=emod_in (x:=o0) hnk.1
   generalize c0% (ch.cs.length:Int)=ci at hci⊢
   generalize o0% (ch.cs.length:Int)=oi at hoi⊢
   refine X.region C U U<|R5 C U U isAgg54 sizeOf54 V Tk5<|Rm C U U<|R5 C U U isAgg45 sizeOf45 V Tk2<|R.callR C U U U U ((N.swing_c hJ heN hvk0 hshN ci (⟨x.lo,x.hi⟩:N.Rc))) fun v1 ro1 hl1 hq1=>?_
   rcases hq1 with⟨hne,rfl⟩|⟨hz,v1,hvo,rfl⟩
   ·
    unfold N.noBk
    refine Rm C U U<|R.ext C U U U U<|R.ext C U U U U<|R.alloc C U U zeroValue54 U fun p21=>R.store C U U U U sizeOf54 U U U V Ph5<|Ad C U U<|Xs C<|Xr C U U<|Rm C U U<|R.int C U U U U b_neq<|R.done C<|X.cond C.1 U (fun hq=>?_) (fun hq=>?_)
    ·refine Xr C U U<|R.callR C U U U U ((hoisted_c _ (he.mono hl1))) fun v9 ro9 hl9 hq9=>Ad C U U<|X.ret0 C Kr U U func4 U (by exact(.tmp U .nil)) fun w9 hs9=>hret _ _ _ (RO.le_trans hl1 hl9) ?_ w9 hs9
     exact hq9
    ·simp at hq;contradiction
   ·
    have hvo0:=hvo
    obtain⟨ovc,ovw,rfl,hoc,how⟩:=hvo
    obtain⟨ob,oc,rfl⟩:=hoc.form
    obtain⟨owb,owc,rfl⟩:=how.form
    obtain⟨l,m,e1,e2,hco,nl,nm,hs,al,am,l0,l1,ha0,ha1,haw,hin⟩:=N.swung_law h2 hci hoi hz
    have hshO:=N.short_of (N.good_iff.1 hco)
    refine Rm C U U<|R.ext C U U U U<|R.ext C U U U U<|R.alloc C U U zeroValue54 U fun p21=>R.store C U U U U sizeOf54 U U U V Ph5<|Ad C U U<|Xs C<|Xr C U U<|Rm C U U<|R.int C U U U U b_neq<|R.done C<|X.cond C.1 U (fun hq=>?_) (fun hq=>?_)
    ·simp at hq
    ·refine X.skip C.1<|Xr C U U<|R5 C U U isAgg54 sizeOf54 V Tk5<|Rm C U U<|R.callR C U U U U ((N.off_c hJ (heN.mono hl1) (hvk0.mono hl1) hshN oi)) fun v2 ro2 hl2 hq2=>?_
     obtain⟨vl,hll,rfl⟩:=hq2
     rw [e1] at hll⊢
     simp only at hll⊢
     have hll0:=hll
     obtain⟨lb,lc,rfl⟩:=hll.form
     have k2:=RO.le_trans hl1 hl2
     refine Rm C U U<|R.ext C U U U U<|R.ext C U U U U<|R.asg C U U U<|Ad C U U<|Xr C U U<|R5 C U U isAgg54 sizeOf54 V Tk5<|Rm C U U<|R.callR C U U U U ((N.off_c hJ (heN.mono k2) (hvo0.mono hl2) hshO oi)) fun v3 ro3 hl3 hq3=>?_
     obtain⟨vm,hmm,rfl⟩:=hq3
     rw [e2] at hmm⊢
     simp only at hmm⊢
     have hmm0:=hmm
     obtain⟨mb,mc,rfl⟩:=hmm.form
     have k3:=RO.le_trans k2 hl3
     refine Rm C U U<|R.ext C U U U U<|R.ext C U U U U<|R.asg C U U U<|Ad C U U<|Xs C<|Xd C fun hok=>Dm C 0 hok U U U<|Di C 1 hok U U U U U b_eql<|D.fixv (t:=72) (v':= .bool true) U (by rfl)<|Dm C 2 hok U U U<|Dm C 3 hok U U U<|Di C 4 hok U U U U U b_eql<|D.fixv (t:=75) (v':= .bool true) U (by rfl)<|Dp 5 hok (fun _ _ _ A h=>R.pickT C U (A.w U U) (A.x U U) (A.x U U) h)<|Dm C 6 hok U U U<|D5 C 7 hok U U isAgg27 sizeOf27 V Tk5<|Dm C 8 hok U U U<|Dp 9 hok (fun _ _ _ A h=>R.convInt C U (A.w U U) (A.x U U) runUnderlying5 runUnderlying3 (wrap64 O O) h)<|Df (off':=1) C 10 hok U U U runUnderlying27 U sizeOf22 U<|D1 C 11 hok U U isAgg22 V U<|Ds C 12 hok U U runUnderlying22<|Di C 13 hok U U U U U (b_remP O O)<|Dm C 14 hok U U U<|Dm C 15 hok U U U<|Dm C 16 hok U U U<|Dp 17 hok (fun _ _ _ A h=>R.convInt C U (A.w U U) (A.x U U) runUnderlying5 runUnderlying3 (wrap64 O O) h)<|Df (off':=2) C 18 hok U U U runUnderlying27 U sizeOf23 U<|D1 C 19 hok U U isAgg23 V U<|Ds C 20 hok U U runUnderlying23<|Di C 21 hok U U U U U (b_remP O O)<|Dm C 22 hok U U U<|Dp 23 hok (fun _ _ _ A h=>R.convInt C U (A.w U U) (A.x U U) runUnderlying5 runUnderlying3 (wrap64 O O) h)<|Df (off':=3) C 24 hok U U U runUnderlying27 U sizeOf24 U<|D1 C 25 hok U U isAgg24 V U<|Ds C 26 hok U U runUnderlying24<|Di C 27 hok U U U U U (b_remP O O)<|Dm C 28 hok U U U<|De 29 (some 100) [true,true,true,true] hok (fun _ _ A hk=>?_)
     refine R.callP C U (A.w U U) (A.x U U) (A.s U U) (loadR_c hJ O _) (hk _ _ ⟨(QFs.cons (QF.of U (fun _ _ A h=>R.loadOne C U (A.w U U) (A.x U U) isAgg24 V U h)) (QFs.cons (QF.of U (fun _ _ A h=>R.loadOne C U (A.w U U) (A.x U U) isAgg23 V U h)) (QFs.cons (QF.of U (fun _ _ A h=>R.loadOne C U (A.w U U) (A.x U U) isAgg22 V U h)) (QFs.cons (QF.of U (fun _ _ A h=>R.loadAgg C U (A.w U U) (A.x U U) isAgg27 sizeOf27 V Tk5 h)) QFs.nil)))), ?_⟩)
     refine De 30 (some 101) [false,false,false,false] hok (fun _ _ A hk=>?_)
     refine R.callR C U (A.w U U) (A.x U U) (A.s U U) ((borne2_c (he.mono k3) (hvv.mono k3) h1 U (hll0.mono hl3) hmm0 nl nm hs al am haw O hin (emod_in hnp.1) (emod_in hng.1) (emod_in hnc.1) loadOf_bd)) fun v4 ro4 hl4 hq4=>hk _ _ ⟨QFs.nil, ?_⟩
     subst hq4
     have k4:=RO.le_trans k3 hl4
     refine Dp 31 hok (fun _ _ _ A h=>R.pickT C U (A.w U U) (A.x U U) (A.x U U) h)<|D.fixv (t:=102) (v':= .bool true) U (by rfl)<|Dm C 32 hok U U U<|De 33 (some 104) [] hok (fun _ _ A hk=>?_)
     refine R.callR C U (A.w U U) (A.x U U) (A.s U U) ((hoisted_c _ (he.mono k4))) fun v9 ro9 hl9 hq9=>hk _ _ ⟨QFs.nil, ?_⟩
     refine Dp 34 hok (fun _ _ _ A h=>R.pickT C U (A.w U U) (A.x U U) (A.x U U) h)<|Da C 35 hok U U<|D.done C hok Kr<|X.ret0 C Kr U U func4 U (by exact(.tmp U .nil)) fun w9 hs9=>hret _ _ _ (RO.le_trans k4 hl9) ?_ w9 hs9
     exact hq9
  ·have _:=h2
   refine Xr C U U<|R.box C U U U U fun p9=>R.box C U U U U fun p10=>R.box C U U U U fun p13=>Ad C U U<|Xr C U U<|Rf C 4 U U runUnderlying27 U sizeOf25<|R.store C U U U U sizeOf25 U U U V (.skip (.skip (.skip (.skip (.here .nil)))))<|R.done C<|Xs C<|Xr C U U<|R5 C U U isAgg27 sizeOf27 V Tk5<|R.callP C U U U U (fitR_c hJ hvv)<|R.not C U U U<|R.fixv (t:=30) (v':= .bool false) U (by(rw [h1];rfl))<|Rm C U U<|R5 C U U isAgg54 sizeOf54 V Tk5<|R.callP C U U U U (N.fitR_c hJ hvk0)<|R.not C U U U<|R.fixv (t:=34) (v':= .bool true) U (by(rw [beq_eq_false_iff_ne.2 h2];rfl))<|R.pickF C U U U U<|R.done C<|X.cond C.1 U (fun _=>?_) (fun h=>nomatch h)
   refine Xr C U U<|R.callR C U U U U ((hoisted_c _ he)) fun v9 ro9 hl9 hq9=>Ad C U U<|X.ret0 C Kr U U func4 U (by exact(.tmp U .nil)) fun w9 hs9=>hret _ _ _ hl9 ?_ w9 hs9
   exact hq9
 ·have _:=h1
  refine Xr C U U<|R.box C U U U U fun p9=>R.box C U U U U fun p10=>R.box C U U U U fun p13=>Ad C U U<|Xr C U U<|Rf C 4 U U runUnderlying27 U sizeOf25<|R.store C U U U U sizeOf25 U U U V (.skip (.skip (.skip (.skip (.here .nil)))))<|R.done C<|Xs C<|Xr C U U<|R5 C U U isAgg27 sizeOf27 V Tk5<|R.callP C U U U U (fitR_c hJ hvv)<|R.not C U U U<|R.fixv (t:=30) (v':= .bool true) U (by(rw [beq_eq_false_iff_ne.2 h1];rfl))<|Rm C U U<|R.pass C U U<|R.pass C U U<|R.pass C U U<|R.pickT C U U U U<|R.done C<|X.cond C.1 U (fun _=>?_) (fun h=>nomatch h)
  refine Xr C U U<|R.callR C U U U U ((hoisted_c _ he)) fun v9 ro9 hl9 hq9=>Ad C U U<|X.ret0 C Kr U U func4 U (by exact(.tmp U .nil)) fun w9 hs9=>hret _ _ _ hl9 ?_ w9 hs9
  exact hq9
end Go.Lg.B
namespace Go.Lg.N
open Go Go.Conc Go.Lg Go.Proofs Go.WideShapes Go.ChangeShapes Go.Proofs.Tryz
theorem cells3:prog.cellsOf 3=1:=by kernel_rfl
theorem cells4:prog.cellsOf 4=1:=by kernel_rfl
theorem cells29:prog.cellsOf 29=1:=by kernel_rfl
theorem cells52:prog.cellsOf 52=1:=by kernel_rfl
theorem cells58:prog.cellsOf 58=1:=by kernel_rfl
theorem cells54:prog.cellsOf 54=5:=by kernel_rfl
theorem cells157:prog.cellsOf 157=2:=by kernel_rfl
theorem cells45:prog.cellsOf 45=2:=by kernel_rfl
theorem cells290:prog.cellsOf 290=5:=by kernel_rfl
section
variable {H:Type}{enc0:TypeId×Value→H}{W:World}{base:Nat}{sp:Nat→Bool}{held:Bool}
theorem field_of{P:Program}{t:TypeId}{fs:Array Field}{fuel:Nat}{cs:List Value}{x:DataW H×List MemPlace}(ht:P.underlying t=some (.struct fs))(h:DataW.trod enc0 P W base sp held fuel t cs=some x):
  cs.length=P.cellsOf t∧∀ (i:Nat) (f:Field),fs[i]? =some f→∃n z,DataW.trod enc0 P W base sp held n f.type ((cs.drop f.offset).take (P.cellsOf f.type))=some z:=by
 obtain⟨xs,n,_,_,h1,h2,h3⟩:=DataW.trod_struct ht h
 refine⟨h1,fun i f hf=>?_⟩
 have hi:i<xs.length:=by rw [h2];exact(Array.getElem?_eq_some_iff.1 hf).1
 exact⟨n,xs[i],by rw [h3 i f hf,List.getElem?_eq_getElem hi]⟩
theorem sq_of{n:Nat}{cs:List Value}{z:DataW H×List MemPlace}(h:DataW.trod enc0 prog W base sp held n 157 cs=some z):∃s:Sq,cs=s.cells:=by
 obtain⟨hl,hf⟩:=field_of underlying157 h
 rw [cells157] at hl
 match cs,hl with
 | [a,c],_=>
  have g0:∃n z,DataW.trod enc0 prog W base sp held n 3 (([a,c].drop 0).take (prog.cellsOf 3))=some z:=hf 0 _ rfl
  rw [cells3] at g0
  obtain⟨_,_,h0⟩:=g0
  have g1:∃n z,DataW.trod enc0 prog W base sp held n 3 (([a,c].drop 1).take (prog.cellsOf 3))=some z:=hf 1 _ rfl
  rw [cells3] at g1
  obtain⟨_,_,h1⟩:=g1
  obtain⟨x0,e0,_⟩:=int_of_trod underlying3 h0
  obtain⟨x1,e1,_⟩:=int_of_trod underlying3 h1
  simp at e0 e1
  subst e0;subst e1
  exact⟨⟨x0,x1⟩,rfl⟩
theorem rc_of{n:Nat}{cs:List Value}{z:DataW H×List MemPlace}(h:DataW.trod enc0 prog W base sp held n 45 cs=some z):∃s:Rc,cs=s.cells:=by
 obtain⟨hl,hf⟩:=field_of underlying45 h
 rw [cells45] at hl
 match cs,hl with
 | [a,c],_=>
  have g0:∃n z,DataW.trod enc0 prog W base sp held n 3 (([a,c].drop 0).take (prog.cellsOf 3))=some z:=hf 0 _ rfl
  rw [cells3] at g0
  obtain⟨_,_,h0⟩:=g0
  have g1:∃n z,DataW.trod enc0 prog W base sp held n 3 (([a,c].drop 1).take (prog.cellsOf 3))=some z:=hf 1 _ rfl
  rw [cells3] at g1
  obtain⟨_,_,h1⟩:=g1
  obtain⟨x0,e0,_⟩:=int_of_trod underlying3 h0
  obtain⟨x1,e1,_⟩:=int_of_trod underlying3 h1
  simp at e0 e1
  subst e0;subst e1
  exact⟨⟨x0,x1⟩,rfl⟩
theorem wt_of{n:Nat}{cs:List Value}{z:DataW H×List MemPlace}(h:DataW.trod enc0 prog W base sp held n 290 cs=some z):∃s:Wt,cs=s.cells:=by
 obtain⟨hl,hf⟩:=field_of underlying290 h
 rw [cells290] at hl
 match cs,hl with
 | [a,c,d,e,f],_=>
  have g0:∃n z,DataW.trod enc0 prog W base sp held n 157 (([a,c,d,e,f].drop 0).take (prog.cellsOf 157))=some z:=hf 0 _ rfl
  rw [cells157] at g0
  obtain⟨_,_,h0⟩:=g0
  have g1:∃n z,DataW.trod enc0 prog W base sp held n 3 (([a,c,d,e,f].drop 2).take (prog.cellsOf 3))=some z:=hf 1 _ rfl
  rw [cells3] at g1
  obtain⟨_,_,h1⟩:=g1
  have g2:∃n z,DataW.trod enc0 prog W base sp held n 3 (([a,c,d,e,f].drop 3).take (prog.cellsOf 3))=some z:=hf 2 _ rfl
  rw [cells3] at g2
  obtain⟨_,_,h2⟩:=g2
  have g3:∃n z,DataW.trod enc0 prog W base sp held n 4 (([a,c,d,e,f].drop 4).take (prog.cellsOf 4))=some z:=hf 3 _ rfl
  rw [cells4] at g3
  obtain⟨_,_,h3⟩:=g3
  obtain⟨s,e0⟩:=sq_of h0
  obtain⟨x1,e1,_⟩:=int_of_trod underlying3 h1
  obtain⟨x2,e2,_⟩:=int_of_trod underlying3 h2
  obtain⟨x3,e3⟩:=bool_of_trod underlying4 h3
  simp [Sq.cells] at e0 e1 e2 e3
  obtain⟨rfl,rfl⟩:=e0
  subst e1;subst e2;subst e3
  exact⟨⟨s,x1,x2,x3⟩,rfl⟩
theorem rcs_of{n:Nat}{cs:List Value}{z:DataW H×List MemPlace}(h:DataW.trod enc0 prog W base sp held n 29 cs=some z):∃v xs,cs= [v]∧Ls Rc.cells 2 (fun b=>W.heap[b]?) v xs:=
 ls_of_trod underlying29 cells45 Dd Rc.len (fun _ _ _ h=>rc_of h) h
theorem wts_of{n:Nat}{cs:List Value}{z:DataW H×List MemPlace}(h:DataW.trod enc0 prog W base sp held n 52 cs=some z):∃v xs,cs= [v]∧Ls Wt.cells 5 (fun b=>W.heap[b]?) v xs:=
 ls_of_trod underlying52 cells290 Dd Wt.len (fun _ _ _ h=>wt_of h) h
theorem argBk{r:Reach}{b0:Nat}{v:Value}{d:DataW H}{p:List MemPlace}(hv:Value.okWide prog W r b0 54 v)(h:DataW.Trod enc0 prog W base sp held 54 v d p):∃b,BkV (fun b=>W.heap[b]?) v b:=by
 obtain⟨⟨cs⟩,rfl,_⟩:=okWide_struct underlying54 hv
 obtain⟨n,h⟩:=h
 obtain⟨hl,hf⟩:=field_of (cs:=cs) underlying54 h
 rw [cells54] at hl
 match cs,hl with
 | [a,c,d,e,f],_=>
  have g0:∃n z,DataW.trod enc0 prog W base sp held n 3 (([a,c,d,e,f].drop 0).take (prog.cellsOf 3))=some z:=hf 0 _ rfl
  rw [cells3] at g0
  obtain⟨_,_,h0⟩:=g0
  have g1:∃n z,DataW.trod enc0 prog W base sp held n 3 (([a,c,d,e,f].drop 1).take (prog.cellsOf 3))=some z:=hf 1 _ rfl
  rw [cells3] at g1
  obtain⟨_,_,h1⟩:=g1
  have g2:∃n z,DataW.trod enc0 prog W base sp held n 3 (([a,c,d,e,f].drop 2).take (prog.cellsOf 3))=some z:=hf 2 _ rfl
  rw [cells3] at g2
  obtain⟨_,_,h2⟩:=g2
  have g3:∃n z,DataW.trod enc0 prog W base sp held n 29 (([a,c,d,e,f].drop 3).take (prog.cellsOf 29))=some z:=hf 3 _ rfl
  rw [cells29] at g3
  obtain⟨_,_,h3⟩:=g3
  have g4:∃n z,DataW.trod enc0 prog W base sp held n 52 (([a,c,d,e,f].drop 4).take (prog.cellsOf 52))=some z:=hf 4 _ rfl
  rw [cells52] at g4
  obtain⟨_,_,h4⟩:=g4
  obtain⟨x0,e0,_⟩:=int_of_trod underlying3 h0
  obtain⟨x1,e1,_⟩:=int_of_trod underlying3 h1
  obtain⟨x2,e2,_⟩:=int_of_trod underlying3 h2
  obtain⟨v3,x3,e3,l3⟩:=rcs_of h3
  obtain⟨v4,x4,e4,l4⟩:=wts_of h4
  simp at e0 e1 e2 e3 e4
  subst e0;subst e1;subst e2;subst e3;subst e4
  exact⟨⟨x0,x1,x2,x3,x4⟩,_,_,rfl,l3,l4⟩
end
end Go.Lg.N
namespace Go.Lg.B
open Go Go.Conc Go.Lg Go.Proofs Go.Proofs.YtfohpddpboaejaaGreatDoor Go.Proofs.Tryz
theorem g_bearing:prog.globalNamed "lagan/bearing.checks" =some 1:=by kernel_rfl
theorem t_bearing:(prog.globals[1]?).map (·.type)=some 293:=by kernel_rfl
theorem c_bearing1:prog.cellsOf 155=1:=by kernel_rfl
theorem c_bearing:prog.cellsOf 293=3:=by kernel_rfl
theorem env_bearing{W:World}{lst:List (String×DataW Unit)}(h:laidMetH prog lst W)(hm:("lagan/bearing.checks",Rows.laid_lagan_bearing_checks)∈lst):N.Env (fun b=>W.heap[b]?):=by
 obtain⟨g,t,cs,fuel,p,hg,ht,hv,hd⟩:=h.funcs hm
 obtain rfl:=Option.some.inj (g_bearing.symm.trans hg)
 obtain rfl:=Option.some.inj (t_bearing.symm.trans ht)
 have hd':DataW.trod (funcToken prog) prog W 0 (fun _=>true) true fuel 293 cs.toList=some (.agg [.held [40,108,97,103,97,110,47,98,101,97,114,105,110,103,46,98,111,111,107,41,46,99,104,97,114,116], .held [40,108,97,103,97,110,47,98,101,97,114,105,110,103,46,98,111,111,107,41,46,99,111,109,112,97,115,115,101,115], .held [40,108,97,103,97,110,47,98,101,97,114,105,110,103,46,98,111,111,107,41,46,119,105,116,110,101,115,115,101,115]],p):=hd
 obtain⟨xs,m,_,hx,hl,hn,hel⟩:=DataW.trod_array underlying293 hd'
 rw [c_bearing] at hl
 obtain⟨v0,v1,v2,hcs⟩:∃v0 v1 v2,cs.toList= [v0,v1,v2]:=by
  match h:cs.toList,hl with
  | [a,b,c],_=>exact⟨a,b,c,rfl⟩
 obtain⟨x0,x1,x2,rfl⟩:∃x0 x1 x2,xs= [x0,x1,x2]:=by
  match xs,hn with
  | [a,b,c],_=>exact⟨a,b,c,rfl⟩
 simp only [Prod.mk.injEq,DataW.agg.injEq,List.map_cons,List.map_nil,List.cons.injEq,and_true] at hx
 obtain⟨⟨h0,h1,h2⟩,_⟩:=hx
 have e0:=hel 0 O
 have e1:=hel 1 O
 have e2:=hel 2 O
 obtain⟨d0,q0⟩:=x0
 obtain⟨d1,q1⟩:=x1
 obtain⟨d2,q2⟩:=x2
 simp only at h0 h1 h2
 subst h0
 subst h1
 subst h2
 rw [c_bearing1,hcs] at e0 e1 e2
 have f0:=func_of_trod (f0:=361) underlying155 Kr (show DataW.trod (funcToken prog) prog W 0 (fun _=>true) true m 155 [v0]=some (_,q0) from e0)
 have f1:=func_of_trod (f0:=362) underlying155 Kr (show DataW.trod (funcToken prog) prog W 0 (fun _=>true) true m 155 [v1]=some (_,q1) from e1)
 have f2:=func_of_trod (f0:=363) underlying155 Kr (show DataW.trod (funcToken prog) prog W 0 (fun _=>true) true m 155 [v2]=some (_,q2) from e2)
 subst f0
 subst f1
 subst f2
 unfold World.var? at hv
 rw [g_bearing] at hv
 simp only [Option.bind_some] at hv
 split at hv
 ·rename_i c t fq hc
  cases hv
  refine⟨t,fq, ?_⟩
  show W.heap[1]? =_
  rw [hc, ←hcs]
 ·cases hv
abbrev laid_bearing_tackle:List (String×DataW Unit):= [("lagan/bearing.checks",Rows.laid_lagan_bearing_checks),("lagan/tackle.checks",Rows.laid_lagan_tackle_checks)]
theorem met_bearing_tackle(os:Os)(args:Array Value):laidMetH prog laid_bearing_tackle ((World.doorLaid prog 89 os).forCall (fun _ _=>0) ⟨#[],args, []⟩).memory:=
 laidMetH_of_parts3 (fuel:=8) (laidMet_of_run' 8 Kr Kr) Kr Kr
end Go.Lg.B
namespace Go.Lg.B
open Go Go.Proofs Go.Proofs.YtfohpddpboaejaaGreatDoor Go.Proofs.Tryz
theorem swung_k1:(Rows.tackleSwungRow.inPlace==prog.inPlace 4)=true:=by kernel_rfl
theorem swung_k2:(Rows.tackleSwungRow.unfollowed==prog.unfollowed 4)=true:=by kernel_rfl
theorem swung_k3:(Rows.tackleSwungRow.recurses==prog.recurses 4)=true:=by kernel_rfl
theorem swung_k4:(Rows.tackleSwungRow.named==prog.varsNamed 4)=true:=by kernel_rfl
theorem swung_name:prog.funcNamed "lagan/laganlaw07.TackleSwung" =some 4:=by kernel_rfl
theorem swung_goes:true=Rows.tackleSwungRow.goesBy prog:=by kernel_rfl
theorem swung_wf:Rows.tackleSwungRow.wfByText (OpenSpec.ofChange Rows.tackleSwungSpec)=true:=by kernel_rfl
theorem swung_facts:joinedFacts prog 4 Tryz.f4 Rows.tackleSwungSpec Rows.tackleSwungRow=true:=by
 unfold joinedFacts
 exact(and_mk (and_mk (and_mk (and_mk (and_mk (and_mk (and_mk (and_mk (and_mk (and_mk (and_mk (and_mk (and_mk (and_mk (and_mk (and_mk (and_mk (and_mk (and_mk (and_mk (and_mk (and_mk (and_mk (and_mk (and_mk (and_mk (and_mk (and_mk (and_mk (and_mk (and_mk (by as_aux_lemma=>kernel_rfl)
  k_lo)
  k_mr)
  (by as_aux_lemma=>kernel_rfl))
  (by as_aux_lemma=>kernel_rfl))
  (by as_aux_lemma=>kernel_rfl))
  k_stops)
  (by as_aux_lemma=>kernel_rfl))
  k_knobs)
  swung_k1)
  swung_k2)
  swung_k3)
  swung_k4)
  (by as_aux_lemma=>kernel_rfl))
  (by as_aux_lemma=>kernel_rfl))
  (by as_aux_lemma=>kernel_rfl))
  (by as_aux_lemma=>kernel_rfl))
  (by as_aux_lemma=>kernel_rfl))
  (by as_aux_lemma=>kernel_rfl))
  (by as_aux_lemma=>kernel_rfl))
  (by as_aux_lemma=>kernel_rfl))
  (by as_aux_lemma=>kernel_rfl))
  (beq_iff_eq.2 k_pk.symm))
  (by as_aux_lemma=>kernel_rfl))
  k_heard)
  k_may)
  (beq_iff_eq.2 k_lift.symm))
  (beq_iff_eq.2 k_make))
  (by as_aux_lemma=>kernel_rfl))
  (by as_aux_lemma=>kernel_rfl))
  (by as_aux_lemma=>kernel_rfl))
  (by as_aux_lemma=>kernel_rfl))
end Go.Lg.B
namespace Go.Proofs.YtfohpddpboaejaaGreatDoor
open Go Go.Conc Go.Lg Go.Lg.B Go.ChangeShapes Go.RowKit Go.WideShapes
theorem swung_lifted(os:Os)(started:os.Started)(H:Type)(enc:TypeId×Value→H):
  ReturnsInLeavingWide {} Tryz.checked os 4 .any (fun w args=>(Rows.tackleSwungSpec.pre enc Tryz.prog Tryz.f4 [] false w args∧laidMetH Tryz.prog laid_bearing_tackle w)∧sizedMet enc Tryz.prog Tryz.f4 (OpenSpec.ofChange Rows.tackleSwungSpec) false w args)
   (Rows.tackleSwungSpec.post enc Tryz.prog Tryz.f4 false true false false):=by
 refine leaving_of_root (C:=Tryz.checked) (tb:=4) (X:=fun w _=>laidMetH Tryz.prog laid_bearing_tackle w) (fun _ _ _ hh h=>h.of_heap hh) own0 started Tryz.func4 laid0 (by
   intro t ht
   rw [Tryz.params4] at ht
   have hm:t∈ [27,54,5,5,45,5,5,5,5]:=ht
   have hall:([27,54,5,5,45,5,5,5,5].all fun u=>Tryz.prog.readableRec u && decide (u<Tryz.prog.types.size))=true:=by kernel_rfl
   have:=List.all_eq_true.1 hall t hm
   rw [Bool.and_eq_true,decide_eq_true_eq] at this
   exact this) rfl Kr Tryz.underlying4
  (ChangeSpec.witness_shaped (enc:=enc) (C:=Tryz.checked) (os:=os) (X:=fun w _=>laidMetH Tryz.prog laid_bearing_tackle w) false (World.doorLaid Tryz.prog 89 os) #[.agg #[.int .i64 0, .slice none 0 0, .slice none 0 0, .slice none 0 0, .slice none 0 0], .agg #[.int .i64 0, .int .i64 0, .int .i64 0, .slice none 0 0, .slice none 0 0], .int .u8 0, .int .u8 0, .agg #[.int .i64 0, .int .i64 0], .int .u8 0, .int .u8 0, .int .u8 0, .int .u8 0] 8 rfl (door_shaped os _) Kr Kr Kr (met_bearing_tackle os _)) ?_
 intro W base args ds gs before hval hW _ _ hL
 obtain⟨p,q,hA,hV,rfl,_,_⟩:=hW
 obtain⟨rfl,rfl⟩:=trodVars_none hV
 have hA:DataW.TrodAll enc Tryz.prog W 0 (fun _=>true) true Tryz.f4.params.toList args.toList ds p:=hA
 have hval:∀ (j:Nat) t v,Tryz.f4.params[j]? =some t→args[j]? =some v→Value.okWide Tryz.prog W .any base t v:=hval
 rw [Tryz.params4] at hA hval
 obtain⟨v1,l1,d1,k1,p1,q1,e1,rfl,rfl,h1,hA⟩:=trodAll_cons hA
 obtain⟨v2,l2,d2,k2,p2,q2,rfl,rfl,rfl,h2,hA⟩:=trodAll_cons hA
 obtain⟨v3,l3,d3,k3,p3,q3,rfl,rfl,rfl,h3,hA⟩:=trodAll_cons hA
 obtain⟨v4,l4,d4,k4,p4,q4,rfl,rfl,rfl,h4,hA⟩:=trodAll_cons hA
 obtain⟨v5,l5,d5,k5,p5,q5,rfl,rfl,rfl,h5,hA⟩:=trodAll_cons hA
 obtain⟨v6,l6,d6,k6,p6,q6,rfl,rfl,rfl,h6,hA⟩:=trodAll_cons hA
 obtain⟨v7,l7,d7,k7,p7,q7,rfl,rfl,rfl,h7,hA⟩:=trodAll_cons hA
 obtain⟨v8,l8,d8,k8,p8,q8,rfl,rfl,rfl,h8,hA⟩:=trodAll_cons hA
 obtain⟨v9,l9,d9,k9,p9,q9,rfl,rfl,rfl,h9,hA⟩:=trodAll_cons hA
 obtain⟨rfl,rfl,rfl⟩:=trodAll_nil hA
 have ea:args= #[v1,v2,v3,v4,v5,v6,v7,v8,v9]:=Array.toList_inj.1 e1
 subst ea
 obtain⟨b,b1⟩:=argBk (hval 0 27 v1 rfl rfl) h1
 obtain⟨ch,b2⟩:=N.argBk (hval 1 54 v2 rfl rfl) h2
 obtain⟨a1,rfl,o1⟩:=argU8 (hval 2 5 v3 rfl rfl) h3
 obtain⟨a2,rfl,o2⟩:=argU8 (hval 3 5 v4 rfl rfl) h4
 obtain⟨x,rfl⟩:=argRc (hval 4 45 v5 rfl rfl) h5
 obtain⟨a3,rfl,o3⟩:=argU8 (hval 5 5 v6 rfl rfl) h6
 obtain⟨a4,rfl,o4⟩:=argU8 (hval 6 5 v7 rfl rfl) h7
 obtain⟨a5,rfl,o5⟩:=argU8 (hval 7 5 v8 rfl rfl) h8
 obtain⟨a6,rfl,o6⟩:=argU8 (hval 8 5 v9 rfl rfl) h9
 exact⟨rfl,swung_root o1 o2 o3 o4 o5 o6 (env_tackle hL Zi) (env_bearing hL Zi) b1 b2⟩
theorem swung_row:Rows.TackleSwungSaid:=
 OpenClaim.holds_of_wide_leaving 4 Tryz.f4 rfl rfl rfl rfl rfl rfl rfl ⟨rfl,rfl,rfl,rfl,rfl⟩ rfl rfl rfl rfl rfl swung_name Tryz.func4 swung_facts
  (of_decide_eq_true Kr) (by unfold Func.isWrapper;first|(rw [if_pos (by decide+kernel)];kernel_rfl)|(rw [if_neg (by decide+kernel)];exact⟨rfl,rfl⟩))
  (fun os started H enc _=>swung_lifted os started H enc)
theorem swung_holds:Rows.TackleSwungCardSaid:=
 card_goes .later [.funcs, .funcs] true (true, "7268d481d5cd4890fc3e51dc004ed55463d6f3c1cbd9cf0add1e476a9c0c0c57") false
  swung_row swung_wf tackleSwung_row_tie rfl ⟨rfl,rfl⟩ k_main rfl
  (fun f fn hf hfn=>by
   obtain rfl:f=4:=Option.some.inj (swung_name.symm.trans hf)|>.symm
   obtain rfl:fn=Tryz.f4:=(Option.some.inj (Tryz.func4.symm.trans hfn)).symm
   exact⟨k_looks,fun j t ht=>by
    rw [Tryz.params4] at ht
    have hm:t∈ [27,54,5,5,45,5,5,5,5]:=by simpa using Array.mem_of_getElem? ht
    have hall:([27,54,5,5,45,5,5,5,5].all fun u=> !Tryz.prog.wantsStandIn u)=true:=by kernel_rfl
    exact(show Tryz.prog.wantsStandIn t=false by simpa using List.all_eq_true.1 hall t hm)⟩)
  swung_goes
end Go.Proofs.YtfohpddpboaejaaGreatDoor
