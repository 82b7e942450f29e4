/-
  Part 6 of what all proofs of this seat share: laws of the model that the walks use, and what functions of the program reckon. Conditions: the premises that each theorem states.
-/
import Derived.Test.YtfohpddpboaejaaGreatDoorKE
set_option maxRecDepth 100000
set_option maxHeartbeats 400000
set_option linter.all false
set_option linter.unusedVariables false
set_option linter.unusedSimpArgs false
set_option linter.unusedSectionVars false
set_option maxRecDepth 100000
namespace Go.Lg.B
open Go Go.Conc Go.Lg Go.Proofs Go.Proofs.Tryz
variable {b d:Bk}{g i k n:Int}{Q:Machine→Outcome→World→Trace→Prop}{vb vd:Value}{ro:RO}
theorem ones_cs(xs:List Pc):ones (xs.flatMap Pc.cells)=true:=ones_flat (fun _=>rfl) xs
theorem mostR_eq(hch:checkBook b=0)(hne:cases b≠ [])(h:0≤g∧g<b.gs.length):mostR b g=(most b g,0):=by
 rw [mostR,mostH_eq (there_zero.2 h),open_zero hch hne];rfl
theorem weakR_eq(hch:checkBook b=0)(hne:cases b≠ [])(h:0≤g∧g<b.gs.length)(hn:1≤n∧n≤99):weakR b g n=(weak b g n,0):=by
 rw [weakR,weakH_eq (there_zero.2 h) (loadH_zero.2 hn),open_zero hch hne];rfl
theorem mayR_eq(hch:checkBook b=0)(hne:cases b≠ [])(h:0≤g∧g<b.gs.length)(hk:0≤k∧k<b.cs.length):mayR b g k=(may b g k,0):=by
 rw [mayR,mayH_eq (there_zero.2 h) (there_zero.2 hk),open_zero hch hne];rfl
theorem bearsR_eq(hch:checkBook b=0)(hne:cases b≠ [])(h:0≤i∧i<b.ps.length):bearsR b i=(bearsOf b i,0):=by
 rw [bearsR,there_zero.2 h,open_zero hch hne];rfl
theorem casesOf_eq(hch:checkBook b=0):casesOf b=(((cases b).length:Int),0):=by rw [casesOf,if_neg (fun h=>h hch)]
theorem fewestR_zero(hch:checkBook b=0)(hne:cases b≠ []):(fewestR b).2=0:=by rw [fewestR,open_zero hch hne];rfl
theorem renewR_zero(hch:checkBook b=0)(hne:cases b≠ []):(renewR b).2=0:=by rw [renewR,open_zero hch hne];rfl
theorem shareR_zero(hch:checkBook b=0)(hne:cases b≠ []):(shareR b).2=0:=by rw [shareR,open_zero hch hne];rfl
theorem bearsOf_len(hb:b.good)(h:0≤i∧i<b.ps.length):(bearsOf b i).length≤3:=by
 have hk:i.toNat<b.ps.length:=O
 have hp:b.part i=b.ps[i.toNat]:=by simp [Bk.part,List.getD_eq_getElem?_getD,hk]
 have hf:=hb.ps _ (List.getElem_mem hk)
 rw [←hp] at hf
 unfold Pt.fine at hf
 refine asc_len (lo:=(b.part i).r.lo) (m:=3) (numbers_asc _) fun x hx=>?_
 obtain⟨t,ht,rfl⟩:=bearsOf_mem.1 hx
 have:=bears_in h.1 h.2 (mem_cases.1 ht).1
 omega
section
theorem noLessR_c(he:Env ro)(hvb:BkV ro vb b)(hvd:BkV ro vd d)(hb:checkBook b=0)(hd:checkBook d=0)(nb:cases b≠ [])(nd:cases d≠ [])(hl:NoLess b d)(hg:0≤g∧g<b.gs.length)(hn:1≤n∧n≤99):
  CallR prog (JM prog Q) (fnv 15) [vb,vd, .int .i64 g, .int .i64 n] ro (fun w _=>w= .bool true):=by
 have hJ:Closed prog true (JM prog Q):=JM.closed
 let main:=true
 let J:=JM prog Q
 have gb:=good_of hb
 have gd:=good_of hd
 have sb:=short_of (not_great hb)
 have sd:=short_of (not_great hd)
 have hg2:0≤g∧g<d.gs.length:=by rw [hl.gs];exact hg
 have wl1:=weak_len gb (n:=n) hg.1 hg.2
 have wl2:=weak_len gd (n:=n) hg2.1 hg2.2
 have hml:=hl.most g hg.1 hg.2
 have hin:insideL (weak d g n) (weak b g n)=true:=by
  unfold insideL;rw [List.all_eq_true];intro x hx;rw [List.contains_iff_mem];exact hl.weak g n hg.1 hg.2 x hx
 have m1:=mostR_eq hb nb hg
 have m2:=mostR_eq hd nd hg2
 have w1:=weakR_eq hb nb hg hn
 have w2:=weakR_eq hd nd hg2 hn
 have hvb0:=hvb
 have hvd0:=hvd
 obtain⟨_,_,_,_,rfl,hb1⟩:=hvb
 obtain⟨_,_,rfl⟩:=hb1.1.form
 obtain⟨_,_,rfl⟩:=hb1.2.1.form
 obtain⟨_,_,rfl⟩:=hb1.2.2.1.form
 obtain⟨_,_,rfl⟩:=hb1.2.2.2.form
 obtain⟨_,_,_,_,rfl,hd1⟩:=hvd
 obtain⟨_,_,rfl⟩:=hd1.1.form
 obtain⟨_,_,rfl⟩:=hd1.2.1.form
 obtain⟨_,_,rfl⟩:=hd1.2.2.1.form
 obtain⟨_,_,rfl⟩:=hd1.2.2.2.form
 refine ER 175 hJ F15 W fun c cs tail hret C=>Xu W<|Bx Z fun p4=>Bx Z fun p5=>Ae W<|Xu W<|Rq W G27 B27 V Tk5<|Ro W<|R.callR C U U U U (most_c hJ he hvb0 sb g) fun v1 ro1 hl1 hq1=>?_
 subst hq1
 rw [m1]
 refine Ro W<|Re Z<|Re Z<|Rg Y<|Ae W<|Xu W<|Rq W G27 B27 V Tk5<|Ro W<|R.callR C U U U U (most_c hJ (he.mono hl1) (hvd0.mono hl1) sd g) fun v2 ro2 hl2 hq2=>?_
 subst hq2
 rw [m2]
 have k2:=RO.le_trans hl1 hl2
 refine Ro W<|Re Z<|Re Z<|Rg Y<|Ae W<|Xu W<|Rq W G27 B27 V Tk5<|Oo W W<|R.callR C U U U U (weak_c hJ (he.mono k2) (hvb0.mono k2) sb g n) fun v3 ro3 hl3 hq3=>?_
 obtain⟨y3,z3,rfl⟩:=hq3
 have k3:=RO.le_trans k2 hl3
 refine Ro W<|Re Z<|Re Z<|Rg Y<|Ae W<|Xu W<|Rq W G27 B27 V Tk5<|Oo W W<|R.callR C U U U U (weak_c hJ (he.mono k3) (hvd0.mono k3) sd g n) fun v4 ro4 hl4 hq4=>?_
 obtain⟨y4,z4,rfl⟩:=hq4
 have k4:=RO.le_trans k3 hl4
 rw [w1] at z3⊢
 rw [w2] at z4⊢
 simp only at z3 z4
 obtain⟨_,_,rfl⟩:=z3.form
 obtain⟨_,_,rfl⟩:=z4.form
 refine Ro W<|Re Z<|Re Z<|Rg Y<|Ae W<|Xx W<|Ro W<|Ri Z b_neq<|FF 58 U (by rfl)<|Oo W W<|Ri Z b_neq<|FF 61 U (by rfl)<|Pf Z<|Oo W W<|Ri Z b_neq<|FF 65 U (by rfl)<|Pf Z<|Oo W W<|Ri Z b_neq<|FF 69 U (by rfl)<|Pf Z<|Oo W W<|Ro W<|Ri Z b_lss<|FF 74 U (by(refine congrArg Value.bool ?_;rw [dF];exact Int.not_lt.2 hml)) ?_;refine Pf Z<|Oo W W<|Ro W<|Cp Z (inside2R_c hJ z4 (z3.mono hl4) O O)<|Rh Y<|FF 80 U (by(rw [hin];rfl))<|Pf Z<|Zc U (fun h=>nomatch h) (fun _=>?_)
 refine Xz<|Xu W<|Rq W G27 B27 V Tk5<|R.callR C U U U U ((fewestG_c (he.mono k4) (hvb0.mono k4) sb)) fun v5 ro5 hl5 hq5=>?_
 obtain⟨y5,z5,rfl⟩:=hq5
 obtain⟨_,_,rfl⟩:=z5.form
 have k5:=RO.le_trans k4 hl5
 refine Ro W<|Re Z<|Re Z<|Re Z<|Rg Y<|Rg Y<|Ae W<|Xu W<|Rq W G27 B27 V Tk5<|R.callR C U U U U ((fewestG_c (he.mono k5) (hvd0.mono k5) sd)) fun v6 ro6 hl6 hq6=>?_
 obtain⟨y6,z6,rfl⟩:=hq6
 obtain⟨_,_,rfl⟩:=z6.form
 have k6:=RO.le_trans k5 hl6
 refine Ro W<|Re Z<|Re Z<|Re Z<|Rg Y<|Rg Y<|Ae W<|Xu W<|Rq W G27 B27 V Tk5<|R.callR C U U U U ((share_c (he.mono k6) (hvb0.mono k6) sb)) fun v7 ro7 hl7 hq7=>?_
 obtain⟨y7,z7,rfl⟩:=hq7
 obtain⟨_,_,rfl⟩:=z7.form
 have k7:=RO.le_trans k6 hl7
 refine Ro W<|Re Z<|Re Z<|Re Z<|Rg Y<|Rg Y<|Ae W<|Xu W<|Rq W G27 B27 V Tk5<|R.callR C U U U U ((share_c (he.mono k7) (hvd0.mono k7) sd)) fun v8 ro8 hl8 hq8=>?_
 obtain⟨y8,z8,rfl⟩:=hq8
 obtain⟨_,_,rfl⟩:=z8.form
 have k8:=RO.le_trans k7 hl8
 refine Ro W<|Re Z<|Re Z<|Re Z<|Rg Y<|Rg Y<|Ae W<|Xu W<|Rq W G27 B27 V Tk5<|R.callR C U U U U ((renew_c (he.mono k8) (hvb0.mono k8) sb)) fun v9 ro9 hl9 hq9=>?_
 obtain⟨y9,z9,rfl⟩:=hq9
 obtain⟨_,_,rfl⟩:=z9.form
 have k9:=RO.le_trans k8 hl9
 refine Ro W<|Re Z<|Re Z<|Re Z<|Rg Y<|Rg Y<|Ae W<|Xu W<|Rq W G27 B27 V Tk5<|R.callR C U U U U ((renew_c (he.mono k9) (hvd0.mono k9) sd)) fun v10 ro10 hl10 hq10=>?_
 obtain⟨y10,z10,rfl⟩:=hq10
 obtain⟨_,_,rfl⟩:=z10.form
 have k10:=RO.le_trans k9 hl10
 have f1:=hl.fewest hb hd nb nd
 have f2:=hl.share hb hd nb nd
 have f3:=hl.renew hb hd nb nd
 rw [fewestR_zero hb nb,fewestR_zero hd nd,shareR_zero hb nb,shareR_zero hd nd,renewR_zero hb nb,renewR_zero hd nd]
 generalize(fewestR b).1=fb at f1⊢
 generalize(fewestR d).1=fd at f1⊢
 generalize(shareR b).1=hb' at f2⊢
 generalize(shareR d).1=hd' at f2⊢
 generalize(renewR b).1=rb at f3⊢
 generalize(renewR d).1=rd at f3⊢
 refine Ro W<|Re Z<|Re Z<|Re Z<|Rg Y<|Rg Y<|Ae W<|Xm W W<|Ri Z b_eql<|FT 119 U (by rfl)<|Oo W W<|Ri Z b_eql<|FT 122 U (by rfl)<|Pp Z<|Oo W W<|Ri Z b_eql<|FT 126 U (by rfl)<|Pp Z<|Oo W W<|Ri Z b_eql<|FT 130 U (by rfl)<|Pp Z<|Oo W W<|Ri Z b_eql<|FT 134 U (by rfl)<|Pp Z<|Oo W W<|Ri Z b_eql<|FT 138 U (by rfl)<|Pp Z<|Oo W W<|Rh Y<|Ro W ?_;refine R.fix (t:=143) U (fun g1=>?_) (fun g1=>?_)
 ·refine Rp W<|Rp W<|Rp W<|Rp W<|Rp W<|Rp W<|Rp W<|Rp W<|Pp Z<|Pp Z<|Oo W W<|Rh Y<|Ro W<|R.fix (t:=157) U (fun g2=>?_) (fun g2=>?_)
  ·refine Rp W<|Pp Z<|Pp Z<|Oo W W<|Rh Y<|Ro W<|R.fix (t:=164) U (fun g3=>?_) (fun g3=>?_)
   ·refine Rp W<|Rp W<|Rp W<|Rp W<|Rp W<|Rp W<|Rp W<|Rp W<|Pp Z<|Pp Z<|Ae W<|Xw F15<|Hr hret k10 ?_
    rfl
   ·have q3:=f3 (by simpa using g3)
    refine Ro W<|FT 165 U (by(rw [q3.1]))<|Oo W W<|Rt W A58<|Ro W<|Rt W A58<|Ri Z b_leq<|FT 171 U (by(refine congrArg Value.bool ?_;rw [decide_eq_true_iff];have:=q3.2;omega)) ?_;refine Pp Z<|Pf Z<|Pp Z<|Ae W<|Xw F15<|Hr hret k10 ?_
    rfl
  ·have q2:=f2 (by simpa using g2)
   refine Ro W<|FT 158 U (by(rw [q2]))<|Pf Z<|Pp Z<|Oo W W<|Rh Y<|Ro W<|R.fix (t:=164) U (fun g3=>?_) (fun g3=>?_)
   ·refine Rp W<|Rp W<|Rp W<|Rp W<|Rp W<|Rp W<|Rp W<|Rp W<|Pp Z<|Pp Z<|Ae W<|Xw F15<|Hr hret k10 ?_
    rfl
   ·have q3:=f3 (by simpa using g3)
    refine Ro W<|FT 165 U (by(rw [q3.1]))<|Oo W W<|Rt W A58<|Ro W<|Rt W A58<|Ri Z b_leq<|FT 171 U (by(refine congrArg Value.bool ?_;rw [decide_eq_true_iff];have:=q3.2;omega)) ?_;refine Pp Z<|Pf Z<|Pp Z<|Ae W<|Xw F15<|Hr hret k10 ?_
    rfl
 ·have q1:=f1 (by simpa using g1)
  refine Ro W<|FT 144 U (by(rw [q1.1]))<|Oo W W<|Rt W A58<|Ro W<|Rt W A58<|Ri Z b_leq<|FT 150 U (by(refine congrArg Value.bool ?_;rw [decide_eq_true_iff];have:=q1.2;omega)) ?_;refine Pp Z<|Pf Z<|Pp Z<|Oo W W<|Rh Y<|Ro W<|R.fix (t:=157) U (fun g2=>?_) (fun g2=>?_)
  ·refine Rp W<|Pp Z<|Pp Z<|Oo W W<|Rh Y<|Ro W<|R.fix (t:=164) U (fun g3=>?_) (fun g3=>?_)
   ·refine Rp W<|Rp W<|Rp W<|Rp W<|Rp W<|Rp W<|Rp W<|Rp W<|Pp Z<|Pp Z<|Ae W<|Xw F15<|Hr hret k10 ?_
    rfl
   ·have q3:=f3 (by simpa using g3)
    refine Ro W<|FT 165 U (by(rw [q3.1]))<|Oo W W<|Rt W A58<|Ro W<|Rt W A58<|Ri Z b_leq<|FT 171 U (by(refine congrArg Value.bool ?_;rw [decide_eq_true_iff];have:=q3.2;omega)) ?_;refine Pp Z<|Pf Z<|Pp Z<|Ae W<|Xw F15<|Hr hret k10 ?_
    rfl
  ·have q2:=f2 (by simpa using g2)
   refine Ro W<|FT 158 U (by(rw [q2]))<|Pf Z<|Pp Z<|Oo W W<|Rh Y<|Ro W<|R.fix (t:=164) U (fun g3=>?_) (fun g3=>?_)
   ·refine Rp W<|Rp W<|Rp W<|Rp W<|Rp W<|Rp W<|Rp W<|Rp W<|Pp Z<|Pp Z<|Ae W<|Xw F15<|Hr hret k10 ?_
    rfl
   ·have q3:=f3 (by simpa using g3)
    refine Ro W<|FT 165 U (by(rw [q3.1]))<|Oo W W<|Rt W A58<|Ro W<|Rt W A58<|Ri Z b_leq<|FT 171 U (by(refine congrArg Value.bool ?_;rw [decide_eq_true_iff];have:=q3.2;omega)) ?_;refine Pp Z<|Pf Z<|Pp Z<|Ae W<|Xw F15<|Hr hret k10 ?_
    rfl
theorem betterR_c(he:Env ro)(hvb:BkV ro vb b)(hvd:BkV ro vd d)(hb:checkBook b=0)(hd:checkBook d=0)(nd:cases d≠ [])(hl:Fewer b d)(hi:0≤i∧i<b.ps.length)(hg:0≤g∧g<b.gs.length)(hk:0≤k∧k<b.cs.length)(hn:1≤n∧n≤99):
  CallR prog (JM prog Q) (fnv 84) [vb,vd, .int .i64 i, .int .i64 g, .int .i64 k, .int .i64 n] ro (fun w _=>w= .bool true):=by
 have hJ:Closed prog true (JM prog Q):=JM.closed
 let main:=true
 let J:=JM prog Q
 have gb:=good_of hb
 have gd:=good_of hd
 have sb:=short_of (not_great hb)
 have sd:=short_of (not_great hd)
 have nb:cases b≠ []:=fun e=>by have:=hl.cases;rw [e] at this;exact nd (List.sublist_nil.1 this)
 have hno:=hl.noLess gb gd
 have hg2:0≤g∧g<d.gs.length:=by rw [hl.gs];exact hg
 have hi2:0≤i∧i<d.ps.length:=by rw [hl.np];exact hi
 have hk2:0≤k∧k<d.cs.length:=by rw [hl.nc];exact hk
 have bl1:=bearsOf_len gb hi
 have bl2:=bearsOf_len gd hi2
 have hlen:=hl.cases.length_le
 have hpos:=List.length_pos_iff.2 nd
 have hin:=hl.bears i
 have hmy:may b g k≠0→may d g k=may b g k:=hl.may nd
 have c1:=casesOf_eq hb
 have c2:=casesOf_eq hd
 have r1:=bearsR_eq hb nb hi
 have r2:=bearsR_eq hd nd hi2
 have m1:=mayR_eq hb nb hg hk
 have m2:=mayR_eq hd nd hg2 hk2
 have hvb0:=hvb
 have hvd0:=hvd
 obtain⟨_,_,_,_,rfl,hb1⟩:=hvb
 obtain⟨_,_,rfl⟩:=hb1.1.form
 obtain⟨_,_,rfl⟩:=hb1.2.1.form
 obtain⟨_,_,rfl⟩:=hb1.2.2.1.form
 obtain⟨_,_,rfl⟩:=hb1.2.2.2.form
 obtain⟨_,_,_,_,rfl,hd1⟩:=hvd
 obtain⟨_,_,rfl⟩:=hd1.1.form
 obtain⟨_,_,rfl⟩:=hd1.2.1.form
 obtain⟨_,_,rfl⟩:=hd1.2.2.1.form
 obtain⟨_,_,rfl⟩:=hd1.2.2.2.form
 refine ER 109 hJ func84 W fun c cs tail hret C=>Xu W<|Bx Z fun p6=>Bx Z fun p7=>Ae W<|Xu W<|Rq W G27 B27 V Tk5<|R.callR C U U U U (casesN_c hJ he hvb0 sb) fun v1 ro1 hl1 hq1=>?_
 subst hq1
 rw [c1]
 refine Ro W<|Re Z<|Re Z<|Rg Y<|Ae W<|Xu W<|Rq W G27 B27 V Tk5<|R.callR C U U U U (casesN_c hJ (he.mono hl1) (hvd0.mono hl1) sd) fun v2 ro2 hl2 hq2=>?_
 subst hq2
 rw [c2]
 have k2:=RO.le_trans hl1 hl2
 refine Ro W<|Re Z<|Re Z<|Rg Y<|Ae W<|Xu W<|Rq W G27 B27 V Tk5<|Ro W<|R.callR C U U U U (bears_c hJ (he.mono k2) (hvb0.mono k2) sb i) fun v3 ro3 hl3 hq3=>?_
 obtain⟨y3,z3,rfl⟩:=hq3
 have k3:=RO.le_trans k2 hl3
 refine Ro W<|Re Z<|Re Z<|Rg Y<|Ae W<|Xu W<|Rq W G27 B27 V Tk5<|Ro W<|R.callR C U U U U (bears_c hJ (he.mono k3) (hvd0.mono k3) sd i) fun v4 ro4 hl4 hq4=>?_
 obtain⟨y4,z4,rfl⟩:=hq4
 have k4:=RO.le_trans k3 hl4
 rw [r1] at z3⊢
 rw [r2] at z4⊢
 simp only at z3 z4
 obtain⟨_,_,rfl⟩:=z3.form
 obtain⟨_,_,rfl⟩:=z4.form
 refine Ro W<|Re Z<|Re Z<|Rg Y<|Ae W<|Xu W<|Rq W G27 B27 V Tk5<|Oo W W<|R.callR C U U U U (may_c hJ (he.mono k4) (hvb0.mono k4) sb g k) fun v5 ro5 hl5 hq5=>?_
 subst hq5
 rw [m1]
 have k5:=RO.le_trans k4 hl5
 refine Ro W<|Re Z<|Re Z<|Rg Y<|Ae W<|Xu W<|Rq W G27 B27 V Tk5<|Oo W W<|R.callR C U U U U (may_c hJ (he.mono k5) (hvd0.mono k5) sd g k) fun v6 ro6 hl6 hq6=>?_
 subst hq6
 rw [m2]
 have k6:=RO.le_trans k5 hl6
 generalize may b g k=ub at hmy⊢
 generalize may d g k=ud at hmy⊢
 by_cases hu:ub=0
 ·have _:=hu
  refine Ro W<|Re Z<|Re Z<|Rg Y<|Ae W<|Xx W<|Ro W<|Ri Z b_neq<|FF 62 U (by rfl)<|Oo W W<|Ri Z b_neq<|FF 65 U (by rfl)<|Pf Z<|Oo W W<|Ri Z b_neq<|FF 69 U (by rfl)<|Pf Z<|Oo W W<|Ri Z b_neq<|FF 73 U (by rfl)<|Pf Z<|Oo W W<|Ri Z b_neq<|FF 77 U (by rfl)<|Pf Z<|Oo W W<|Ri Z b_neq<|FF 81 U (by rfl)<|Pf Z<|Oo W W<|Ro W<|Cp Z (betweenR_c hJ _ _ _ _)<|FT 86 U (by(refine congrArg Value.bool ?_;rw [between_iff];omega)) ?_;refine Rh Y<|FF 87 U U<|FF 87 U (by rfl)<|Pf Z<|Oo W W<|Ro W<|Cp Z (inside2R_c hJ (z4.mono (RO.le_trans hl5 hl6)) (z3.mono (RO.le_trans hl4 (RO.le_trans hl5 hl6))) O O)<|Rh Y<|FF 93 U (by(rw [hin];rfl))<|Pf Z<|Oo W W<|Ri Z b_neq<|FF 97 U (by(refine congrArg Value.bool ?_;simp [hu])) ?_;refine Ro W<|Rp W<|Rp W<|Rp W<|Pf Z<|Pf Z<|Zc U (fun h=>nomatch h) (fun _=>?_)
  refine Xz<|Xu W<|Rq W G27 B27 V Tk5<|Rq W G27 B27 V Tk5<|Oo W W<|R.callR C U U U U (noLessR_c (he.mono k6) (hvb0.mono k6) (hvd0.mono k6) hb hd nb nd hno hg hn) fun v9 ro9 hl9 hq9=>Ae W<|Xw func84<|Hr hret (RO.le_trans k6 hl9) ?_
  exact hq9
 ·have hud:=hmy hu
  refine Ro W<|Re Z<|Re Z<|Rg Y<|Ae W<|Xx W<|Ro W<|Ri Z b_neq<|FF 62 U (by rfl)<|Oo W W<|Ri Z b_neq<|FF 65 U (by rfl)<|Pf Z<|Oo W W<|Ri Z b_neq<|FF 69 U (by rfl)<|Pf Z<|Oo W W<|Ri Z b_neq<|FF 73 U (by rfl)<|Pf Z<|Oo W W<|Ri Z b_neq<|FF 77 U (by rfl)<|Pf Z<|Oo W W<|Ri Z b_neq<|FF 81 U (by rfl)<|Pf Z<|Oo W W<|Ro W<|Cp Z (betweenR_c hJ _ _ _ _)<|FT 86 U (by(refine congrArg Value.bool ?_;rw [between_iff];omega)) ?_;refine Rh Y<|FF 87 U U<|FF 87 U (by rfl)<|Pf Z<|Oo W W<|Ro W<|Cp Z (inside2R_c hJ (z4.mono (RO.le_trans hl5 hl6)) (z3.mono (RO.le_trans hl4 (RO.le_trans hl5 hl6))) O O)<|Rh Y<|FF 93 U (by(rw [hin];rfl))<|Pf Z<|Oo W W<|Ri Z b_neq<|FT 97 U (by(refine congrArg Value.bool ?_;simp [hu])) ?_;refine Oo W W<|Ro W<|Ri Z b_neq<|FF 101 U (by(refine congrArg Value.bool ?_;simp [hud])) ?_;refine Pp Z<|Pf Z<|Zc U (fun h=>nomatch h) (fun _=>?_)
  refine Xz<|Xu W<|Rq W G27 B27 V Tk5<|Rq W G27 B27 V Tk5<|Oo W W<|R.callR C U U U U (noLessR_c (he.mono k6) (hvb0.mono k6) (hvd0.mono k6) hb hd nb nd hno hg hn) fun v9 ro9 hl9 hq9=>Ae W<|Xw func84<|Hr hret (RO.le_trans k6 hl9) ?_
  exact hq9
end
section
variable {main:Bool}{J:Goroutine→Mem→Prop}(hJ:Closed prog main J)
include hJ
theorem weighedR_c{v:Value}(hv:BkV ro v b)(hn:b.cs.length≤1000)(hi:0≤i∧i<b.cs.length)(r:Rc):CallR prog J (fnv 98) [v, .int .i64 i,r.val] ro (fun w ro'=>BkV ro' w (b.weighed i.toNat r)):=by
 obtain⟨vp,vg,vc,vt,rfl,hv⟩:=hv
 obtain⟨pb,pcap,rfl⟩:=hv.1.form
 obtain⟨gb,gcap,rfl⟩:=hv.2.1.form
 obtain⟨cb,ccap,rfl⟩:=hv.2.2.1.form
 obtain⟨tb,tcap,rfl⟩:=hv.2.2.2.form
 have hil:i.toNat<b.cs.length:=O
 have hfl:=flatMap_len Pc.len b.cs
 refine ER 19 hJ func98 W fun c cs tail hret C=>Xu W<|Bx Z fun p3=>Bx Z fun p5=>Al W K27 U fun p6=>Rz<|Xu W<|R.buildSlice C (vs:=_) U U (show pvals _ _=some (numbered 0 []) from rfl) U A24 B251 K251 Dd (.nil) fun p7=>Rv 3 W A27 U B24<|Rj W G24 V U<|R.append (kk:=3) C U U U U A24 A24 (fun _=>nofun) (show prog.info? 251=some Tryz.t251 by kernel_rfl) U U U Dd Dd (Buf.blk (cells:= []) (spare:= []) (len:=0) (cap:=0) U U (Nat.le_refl _)) (hv.2.2.1.rd Pc.len) (ones_cs b.cs) (by simp only [List.length_nil];omega) fun v' own' hb'=>Rv 3 W A27 U B24 ?_
 obtain⟨own1,rfl,hb1⟩:=hb'.unapp (tail:= [])
 rw [List.nil_append] at hb1
 obtain⟨p9,cap9,sp9,rfl,hcap9,rfl⟩:=blk_of Pc.len Dd hb1 (by intro h;rw [h] at hil;exact absurd hil (Nat.not_lt_zero _))
 refine Rs Z B24 Y V (.skip (.skip (.skip (.here .nil)))) ?_
 have hmf:=modify_flat (enc:=Pc.cells) (k:=3) Pc.len (fun p=>{p with r:=r}) b.cs i.toNat sp9 1 [.int .i64 r.lo, .int .i64 r.hi] hil (fun x _=> .skip Ph2)
 have hml:(b.cs.modify i.toNat fun p=>{p with r:=r}).length=b.cs.length:=by simp
 have eo:0+i.toNat*3+1=i.toNat*3+1:=O
 rw [←eo] at hmf
 refine Rz<|Xu W<|Rv 3 W A27 U B24<|Rj W G24 V U<|Ro W<|Rq W G45 B45 V Tk2<|Ry Y A24 B251<|R.fieldAddr C U U U A251 U B45 U<|Rs Z B45 Y V hmf<|Rz<|Xv<|X.persist C.1 fun ro4 hl4 h9=>?_
 have hls:Ls Pc.cells 3 ro4 (.slice (some ⟨p9,0,none⟩) b.cs.length cap9) (b.cs.modify i.toNat fun p=>{p with r:=r}):=⟨_,_,by rw [hml], .inr ⟨p9,0,_,_,_,rfl,h9,by rw [←flatMap_len Pc.len];exact Sub.front _ _⟩⟩
 have hv4:=hv.mono hl4
 refine Xg W<|Rq W G27 B27 V Tk5<|Rs Z B27 Y V Ph5<|Rz<|X.ret C U U func98 U (by exact(.agg U G27 B27 V Tk5 .nil))<|Hr hret hl4 ?_
 exact⟨_,_,_,_,rfl,hv4.1,hv4.2.1,hls,hv4.2.2.2⟩
end
end Go.Lg.B
