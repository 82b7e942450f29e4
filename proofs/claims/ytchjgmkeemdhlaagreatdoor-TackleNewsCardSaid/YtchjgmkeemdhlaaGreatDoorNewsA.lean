/-
  It is proved that the given function answers true for every input, whatever is scheduled: the statement News of the seat. Conditions: none but those of the given statement itself.
-/
import Derived.Test.YtchjgmkeemdhlaaGreatDoorKE
import Derived.WideShapes
import Derived.ChangeShapes
import Derived.Conc.Holds
set_option maxRecDepth 100000
set_option maxHeartbeats 2000000
set_option linter.all false
namespace Go.Lg
open Go
theorem Bv{a c:Bool}(h:a=c):Value.bool a=Value.bool c:=congrArg _ h
end Go.Lg
namespace Go.Lg.B
open Go Go.Conc Go.Lg
theorem pulls_bd{b:Bk}(hb:b.good){g l:Int}(h0:0≤g)(h1:g<b.gs.length)(hl:0≤l):∀y∈pulls b g l,0≤y∧y≤l:=fun y hy=>by
 simp only [pulls,List.mem_cons] at hy
 rcases hy with rfl|hy
 ·omega
 ·exact pullsGo_bd hb (hb.gear h0 h1).2.1 hl y hy
end Go.Lg.B
namespace Go.Lg
open Go Go.Conc
theorem R.neEq{P:Program}{main:Bool}{J:Goroutine→Mem→Prop}{b:Frame}(C:Ctx P main J b){cs:List Frame}{n:Nat}{ds:List Deferred}{σ:Slots}{k:List Item}{ops:Array Oper}{i:Nat}{rest:List Nat}{d:Nat}{ty:TypeId}{pos:String}{af:Array Edge}{g:Option (Nat×Bool)}
  {t t':TypeId} {x y:Operand} {p q:List Value} {r:Bool} {M:Mem} (ho:ops[i]? =some ⟨some d, .binOp .neq t x y t',ty,pos,af,g⟩) (hg:wantedS ops σ ⟨some d, .binOp .neq t x y t',ty,pos,af,g⟩=some true)
  (hx:ev σ x=some (.agg p.toArray)) (hy:ev σ y=some (.agg q.toArray)) (ht:Eq1 P 10000 t (.agg p.toArray) (.agg q.toArray) r) (hd:P.eqGuardType P.depth t=false)
  (h:R J b cs n ops rest k ds ((d, .bool (!r))::σ) M):R J b cs n ops (i::rest) k ds σ M:=
 R.v C ho hg rfl (fun a ha K hk=>by
  unfold execOp
  simp only [ha.ev hx,ha.ev hy]
  refine ex_v (Sm.bind ?_)
  unfold eqGuard
  refine Sm.bind (Sm.program (Sm.bind (Sm.program ?_)))
  rw [hd]
  refine Sm.pure ?_
  show Sm P M (binOp .neq t (.agg p.toArray) (.agg q.toArray)) _
  unfold binOp
  simp only
  exact Sm.bind (ht _ _ (Sm.pure hk))) h
theorem X.afterI{J:Goroutine→Mem→Prop}{b:Frame}{cs:List Frame}{n:Nat}{ds:List Deferred}{σ:Slots}{M:Mem}{k:List Item}{it:Item}{ι:Type}(Ex:ι→Prop)(σe:ι→Slots)(Me:ι→Mem)(hk:∀s,Ex s→X J b cs n k ds (σe s) (Me s))
  (h:(∀s,Ex s→X J b cs n k ds (σe s) (Me s))→X J b cs n (it::k) ds σ M):X J b cs n (it::k) ds σ M:=h hk
section
variable {P:Program}{main:Bool}{J:Goroutine→Mem→Prop}{b:Frame}(C:Ctx P main J b){cs:List Frame}{n:Nat}{ds:List Deferred}{σ:Slots}{k:List Item}{ops:Array Oper}{i:Nat}{rest:List Nat}
 {d:Nat} {ty:TypeId} {pos:String} {af:Array Edge} {g:Option (Nat×Bool)}
include C
end
end Go.Lg
namespace Go.Lg.B
open Go Go.Conc Go.Lg Go.Proofs Go.Proofs.Tryz
section
def Bk.borne(b:Bk)(i:Nat)(r:Rc):Bk:={b with ps:=b.ps.modify i fun p=>{p with r:=r} }
def tryH(b:Bk)(t:Ts):Int:=if checkBook b≠0 then checkBook b else openH (b.tried t) 0
def knowH(b:Bk)(i:Int)(y:Rc):Int:=
 if checkBook b≠0 then checkBook b else if there i b.ps.length≠0 then there i b.ps.length else if knownH (b.part i).r y 0≠0 then knownH (b.part i).r y 0 else openH (b.borne i.toNat ((b.part i).r.meet y)) 0
variable {main:Bool}{J:Goroutine→Mem→Prop}(hJ:Closed prog main J)
include hJ
omit hJ in
theorem Bk.short.borne{b:Bk}(h:b.short)(i:Nat)(r:Rc):(b.borne i r).short:=by
 refine⟨⟨by simpa [Bk.borne] using h.ps.1,fun p hp=>?_⟩,h.gs,h.cs,h.ts⟩
 obtain⟨j,hj,rfl⟩:=List.mem_iff_getElem.1 hp
 simp only [Bk.borne,List.getElem_modify]
 split
 ·exact h.ps.2 (b.ps[j]'(by simpa [Bk.borne] using hj)) (List.getElem_mem _)
 ·exact h.ps.2 _ (List.getElem_mem _)
theorem try_c{b:Bk}{v:Value}{ro:RO}(he:Env ro)(hv:BkV ro v b)(hs:b.short)(t:Ts):CallR prog J (fnv 85) [v,t.val] ro (fun w ro'=>NewV ro' (b.tried t) (tryH b t) w):=by
 have hvv:=hv
 obtain⟨vp,vg,vc,vt,rfl,hv⟩:=hv
 have hv':=hv
 obtain⟨pb,pcap,rfl⟩:=hv.1.form
 obtain⟨gb,gcap,rfl⟩:=hv.2.1.form
 obtain⟨cb,ccap,rfl⟩:=hv.2.2.1.form
 obtain⟨tb,tcap,rfl⟩:=hv.2.2.2.form
 refine CallR.intro hJ Kr fun c cs tail hret=>enter_X (n:=24) func85 U U (Nl U) ?_
 have C:Ctx prog main J (bf 85 .normal):=⟨hJ,by decide⟩
 refine Xr C U U<|R.box C U U U U fun p2=>R.box C U U U U fun p3=>R.alloc C U U zeroValue27 U fun p4=>Ad C U U<|Xs C<|Xr C U U<|R5 C U U isAgg27 sizeOf27 V Tk5<|R.callP C U U U U (checkBook_c hJ (by assumption) (by assumption) (by assumption))<|Ad C U U<|Xr C U U<|Rm C U U<|R.int C U U U U b_neq<|R.done C<|X.cond C.1 U (fun hh=>?_) (fun hh=>?_)
 ·have hh:checkBook b≠0:=by simpa using hh
  have e:tryH b t=checkBook b:=by rw [tryH,if_pos hh]
  refine Xr C U U ?_;refine R.build C U U U zeroValue27 U runUnderlying27 Kr .nil<|Rm C U U<|R.store C U U U U sizeOf27 U U U V Ph5<|Ad C U U<|X.ret C U U func85 U (by exact(.agg U isAgg27 sizeOf27 V Tk5 (.tmp U .nil)))<|Hr hret (RO.le_refl _) ?_
  rw [e];exact .inl ⟨hh,rfl⟩
 ·have hh:checkBook b=0:=by simpa using hh
  have hb:=good_of hh
  have hnt:=hb.nt
  have e:tryH b t=openH (b.tried t) 0:=by rw [tryH,if_neg (fun h=>h hh)]
  have hfl:(b.ts.flatMap Ts.cells).length=b.ts.length*3:=flatMap_len Ts.len _
  have hts:(b.tried t).ts.flatMap Ts.cells=b.ts.flatMap Ts.cells++t.cells:=by simp [Bk.tried]
  refine X.skip C.1<|Xs C<|X.afterI (ι:=Value×List (Nat×Obj)) (fun s=>Buf 92 3 [] s.1 ((b.tried t).ts.flatMap Ts.cells) s.2) (fun _=> [(2, .pointer (some ⟨p2,0,none⟩)),(4, .pointer (some ⟨p4,0,none⟩))])
   (fun s=>⟨ro,s.2++((p4, .cells [.int .i64 0, .slice none 0 0, .slice none 0 0, .slice none 0 0, .slice none 0 0].toArray 27 (0,0))::(p3, .cells t.cells.toArray 92 (0,0))::(p2, .cells [.int .i64 b.w, .slice pb b.ps.length pcap, .slice gb b.gs.length gcap, .slice cb b.cs.length ccap,s.1].toArray 27 (0,0))::tail)⟩) (fun s hsb=>?_) (fun hcont=>?_)
  rotate_left
  ·have _:=hts
   refine Xd C fun hok=>Df (off':=4) C 0 hok U U U runUnderlying27 U sizeOf25 U<|Dl 1 hok (fun _ _ A h=>R.loadOne C U (A.w U U) (A.x U U) isAgg25 Vm U h)<|Dl 3 hok (fun _ _ A h=>R.loadAgg C U (A.w U U) (A.x U U) isAgg92 sizeOf92 Vm Tk3 h)<|D.eP2 (i:=2) (i':=4) (dst:=(some 15)) (dst':=(some 17)) [true,false] [false,true] hok U U Kr Kr Kr (fun _ _ A hk=>?_) (fun _ _ A hk=>?_)
   ·
    refine R.call C U (A.w U U) (A.x U U) (A.s U U) (pre:= []) U (cloneT_c hJ hv'.2.2.2 O) fun w2 ro2 pre2 hl2 hp2=>hk _ _ ⟨(QFs.cons (QF.of U (fun _ _ A h=>R.loadAgg C U (A.w U U) (A.x U U) isAgg92 sizeOf92 Vm Tk3 h)) QFs.nil), ?_⟩
    obtain⟨hro2,hbuf⟩:=hp2
    subst hro2
    refine De 4 (some 17) [false] hok (fun _ _ A hk=>?_)
    refine R.buildSlice C (vs:=_) U (A.w U U) (show pvals _ _=some (numbered 0 [_]) from(A.p U U)) U runUnderlying25 sizeOf92 zeroValue92 Dd (Cat.one U U) fun p17=>hk _ _ ⟨QFs.nil, ?_⟩
    refine De 5 (some 18) [] hok (fun _ _ A hk=>?_)
    refine R.append1 (kk:=3) C U (A.w U U) (A.x U U) (A.x U U) runUnderlying25 runUnderlying25 (fun _=>nofun) (show prog.info? 92=some Tryz.t92 by kernel_rfl) U U U Dd Dd (hbuf.app _) U U (by(try simp only [List.length_append,List.length_cons,List.length_nil]);omega) fun v' own' hb'=>hk _ _ ⟨QFs.nil, ?_⟩
    refine Df (off':=4) C 6 hok U U U runUnderlying27 U sizeOf25 U<|De 7 none [] hok (fun _ _ A hk=>?_)
    obtain⟨own1,rfl,hb1⟩:=hb'.unapp (tail:= [])
    refine R.store C U (A.w U U) (A.x U U) (A.x U U) sizeOf25 hb'.cells1 U hb'.ones1 (by repeat (first|exact Uh|apply Ut|apply Upd.app)) (.skip (.skip (.skip (.skip (.here .nil))))) (hk undef _ ⟨QFs.nil, ?_⟩)
    refine D.done C hok Kr<|X.weaken ?_ (hcont (v',own1) (by rw [hts];exact hb1))
    exact⟨U,U,trivial⟩
   ·
    refine R.buildSlice C (vs:=_) U (A.w U U) (show pvals _ _=some (numbered 0 [_]) from(A.p U U)) U runUnderlying25 sizeOf92 zeroValue92 Dd (Cat.one U U) fun p17=>hk _ _ ⟨(QFs.cons (QF.of U (fun _ _ A h=>R.loadOne C U (A.w U U) (A.x U U) isAgg25 Vm U h)) QFs.nil), ?_⟩
    refine De 2 (some 15) [false] hok (fun _ _ A hk=>?_)
    refine R.call C U (A.w U U) (A.x U U) (A.s U U) (pre:= []) U (cloneT_c hJ hv'.2.2.2 O) fun w2 ro2 pre2 hl2 hp2=>hk _ _ ⟨QFs.nil, ?_⟩
    obtain⟨hro2,hbuf⟩:=hp2
    subst hro2
    refine De 5 (some 18) [] hok (fun _ _ A hk=>?_)
    refine R.perm C.1 List.perm_middle<|R.append1 (kk:=3) C U (A.w U U) (A.x U U) (A.x U U) runUnderlying25 runUnderlying25 (fun _=>nofun) (show prog.info? 92=some Tryz.t92 by kernel_rfl) U U U Dd Dd (hbuf.app _) U U (by(try simp only [List.length_append,List.length_cons,List.length_nil]);omega) fun v' own' hb'=>hk _ _ ⟨QFs.nil, ?_⟩
    refine Df (off':=4) C 6 hok U U U runUnderlying27 U sizeOf25 U<|De 7 none [] hok (fun _ _ A hk=>?_)
    obtain⟨own1,rfl,hb1⟩:=hb'.unapp (tail:= [])
    refine R.store C U (A.w U U) (A.x U U) (A.x U U) sizeOf25 hb'.cells1 U hb'.ones1 (by repeat (first|exact Uh|apply Ut|apply Upd.app)) (.skip (.skip (.skip (.skip (.here .nil))))) (hk undef _ ⟨QFs.nil, ?_⟩)
    refine D.done C hok Kr<|X.weaken ?_ (hcont (v',own1) (by rw [hts];exact hb1))
    exact⟨U,U,trivial⟩
  obtain⟨v',own1⟩:=s
  simp only at hsb⊢
  have hb2:=hsb
  refine Xs C<|X.finish C.1 Ts.len Dd (hb2.app _) fun ro4 hl4 hls=>?_
  have hv4:=hv'.mono hl4
  have hag:=agreed_c hJ (b:=b.tried t) (he.mono hl4) ⟨_,_,_,_,rfl,hv4.1,hv4.2.1,hv4.2.2.1,hls⟩ ⟨hs.ps,hs.gs,hs.cs,by simp [Bk.tried];omega⟩
  obtain⟨_,_,rfl⟩:=hls.form
  refine X.region C U U<|R5 C U U isAgg27 sizeOf27 V Tk5<|R.callR C U U U U (hag) fun w5 ro5 hl5 hp5=>?_
  rcases hp5 with⟨h1,rfl⟩|⟨h1,v5,hv5,rfl⟩
  ·
   refine R.ext C U U U U<|R.ext C U U U U<|R.store C U U U U sizeOf27 U U U V Ph5<|Ad C U U<|X.ret C U U func85 U (by exact(.agg U isAgg27 sizeOf27 V Tk5 (.tmp U .nil)))<|Hr hret (RO.le_trans hl4 hl5) ?_
   rw [e];exact .inl ⟨h1,rfl⟩
  ·
   have hv5':=hv5
   obtain⟨_,_,_,_,rfl,hv5⟩:=hv5
   obtain⟨_,_,rfl⟩:=hv5.1.form
   obtain⟨_,_,rfl⟩:=hv5.2.1.form
   obtain⟨_,_,rfl⟩:=hv5.2.2.1.form
   obtain⟨_,_,rfl⟩:=hv5.2.2.2.form
   refine R.ext C U U U U<|R.ext C U U U U<|R.store C U U U U sizeOf27 U U U V Ph5<|Ad C U U<|X.ret C U U func85 U (by exact(.agg U isAgg27 sizeOf27 V Tk5 (.tmp U .nil)))<|Hr hret (RO.le_trans hl4 hl5) ?_
   rw [e];exact .inr ⟨h1,_,hv5',rfl⟩
theorem know_c{b:Bk}{v:Value}{ro:RO}(he:Env ro)(hv:BkV ro v b)(hs:b.short)(i:Int)(y:Rc):CallR prog J (fnv 79) [v, .int .i64 i,y.val] ro (fun w ro'=>NewV ro' (b.borne i.toNat ((b.part i).r.meet y)) (knowH b i y) w):=by
 have hvv:=hv
 obtain⟨vp,vg,vc,vt,rfl,hv⟩:=hv
 have hv':=hv
 obtain⟨pb,pcap,rfl⟩:=hv.1.form
 obtain⟨gb,gcap,rfl⟩:=hv.2.1.form
 obtain⟨cb,ccap,rfl⟩:=hv.2.2.1.form
 obtain⟨tb,tcap,rfl⟩:=hv.2.2.2.form
 refine CallR.intro hJ Kr fun c cs tail hret=>enter_X (n:=44) func79 U U (Nl U) ?_
 have C:Ctx prog main J (bf 79 .normal):=⟨hJ,by decide⟩
 refine Xr C U U<|R.box C U U U U fun p3=>R.box C U U U U fun p5=>R.alloc C U U zeroValue27 U fun p6=>Ad C U U<|Xs C<|Xr C U U<|R5 C U U isAgg27 sizeOf27 V Tk5<|R.callP C U U U U (checkBook_c hJ (by assumption) (by assumption) (by assumption))<|Ad C U U<|Xr C U U<|Rm C U U<|R.int C U U U U b_neq<|R.done C<|X.cond C.1 U (fun hh=>?_) (fun hh=>?_)
 ·have hh:checkBook b≠0:=by simpa using hh
  have e:knowH b i y=checkBook b:=by rw [knowH,if_pos hh]
  refine Xr C U U ?_;refine R.build C U U U zeroValue27 U runUnderlying27 Kr .nil<|Rm C U U<|R.store C U U U U sizeOf27 U U U V Ph5<|Ad C U U<|X.ret C U U func79 U (by exact(.agg U isAgg27 sizeOf27 V Tk5 (.tmp U .nil)))<|Hr hret (RO.le_refl _) ?_
  rw [e];exact .inl ⟨hh,rfl⟩
 ·have hh:checkBook b=0:=by simpa using hh
  have hb:=good_of hh
  have hn:=hb.np
  refine X.skip C.1<|Xs C<|Xr C U U<|Rm C U U<|R5 C U U isAgg27 sizeOf27 V Tk5<|R.call C U U U U (pre:= []) U (yardOf_c hJ hv') fun w1 ro1 pre1 hl1 hp1=>?_
  obtain⟨rfl,m,rfl,rfl⟩:=hp1
  refine R.callP C U U U U (bound (askPart_c hJ hv' hb i m))<|Ad C U U<|Xr C U U<|Rm C U U<|R.int C U U U U b_neq<|R.done C<|X.cond C.1 U (fun hi0=>?_) (fun hi0=>?_)
  ·have hi0:there i b.ps.length≠0:=by simpa using hi0
   have e:knowH b i y=there i b.ps.length:=by rw [knowH,if_neg (fun h=>h hh),if_pos hi0]
   refine Xr C U U ?_;refine R.build C U U U zeroValue27 U runUnderlying27 Kr .nil<|Rm C U U<|R.store C U U U U sizeOf27 U U U V Ph5<|Ad C U U<|X.ret C U U func79 U (by exact(.agg U isAgg27 sizeOf27 V Tk5 (.tmp U .nil)))<|Hr hret (RO.le_refl _) ?_
   rw [e];exact .inl ⟨hi0,rfl⟩
  ·have hi0:there i b.ps.length=0:=by simpa using hi0
   have hib:=there_zero.1 hi0
   have hil:i.toNat<b.ps.length:=O
   have hpi:b.part i=b.ps[i.toNat]:=by simp [Bk.part,List.getD_eq_getElem?_getD,hil]
   have e0:knowH b i y=if knownH (b.part i).r y 0≠0 then knownH (b.part i).r y 0 else openH (b.borne i.toNat ((b.part i).r.meet y)) 0:=by rw [knowH,if_neg (fun h=>h hh),if_neg (fun h=>h hi0)]
   refine X.skip C.1<|Xr C U U<|Rf C 1 U U runUnderlying27 U sizeOf22<|Rl C U U isAgg22 V U<|R.call C U U U U (pre:= []) U (cloneP_c hJ hv'.1 O) fun w2 ro2 pre2 hl2 hp2=>?_
   obtain⟨hro2,hbuf⟩:=hp2
   subst hro2
   obtain⟨p9,cap9,sp9,rfl,hcap9,rfl⟩:=blk_of Pt.len Dd hbuf (by intro h;rw [h] at hil;exact absurd hil (Nat.not_lt_zero _))
   have hmf:=modify_flat (enc:=Pt.cells) (k:=4) Pt.len (fun p=>{p with r:=(b.part i).r.meet y}) b.ps i.toNat sp9 2 [.int .i64 (max (b.part i).r.lo y.lo), .int .i64 (min (b.part i).r.hi y.hi)] hil (fun x _=> .skip (.skip Ph2))
   have hml:(b.ps.modify i.toNat fun p=>{p with r:=(b.part i).r.meet y}).length=b.ps.length:=by simp
   have g0:=flat_get (sp:=sp9) Pt.len (l:=b.ps) hil (show 2<4 by decide)
   have g1:=flat_get (sp:=sp9) Pt.len (l:=b.ps) hil (show 2+1<4 by decide)
   have g2:=flat_get (sp:=sp9) Pt.len (l:=b.ps.modify i.toNat fun p=>{p with r:=(b.part i).r.meet y}) (i:=i.toNat) (by rw [hml];exact hil) (show 2<4 by decide)
   have g3:=flat_get (sp:=sp9) Pt.len (l:=b.ps.modify i.toNat fun p=>{p with r:=(b.part i).r.meet y}) (i:=i.toNat) (by rw [hml];exact hil) (show 2+1<4 by decide)
   rw [List.getElem_modify,if_pos rfl] at g2 g3
   rw [←hpi] at g0 g1
   have eo:0+i.toNat*4+2=i.toNat*4+2:=O
   have hkc:=known_c hJ (pb:=p9) (t:=67) (off:=0+i.toNat*4+2) (k:=0) (ro:=ro2) (r:=(b.part i).r) (y:=y) (by rw [eo];exact g0) (by rw [eo];exact g1) (by rw [eo];exact hmf) (by rw [eo];exact g2) (by rw [eo];exact g3)
   refine Rf C 1 U U runUnderlying27 U sizeOf22<|R.store C U U U U sizeOf22 U U U V (.skip (.here .nil))<|R.done C<|Xs C<|Xs C<|Xd C fun hok=>Df (off':=1) C 0 hok U U U runUnderlying27 U sizeOf22 U<|D1 C 1 hok U U isAgg22 V U<|Dm C 2 hok U U U<|Dx C 3 hok U U U runUnderlying22 sizeOf67<|Df C 4 hok U U U runUnderlying67 U sizeOf65 U<|D5 C 5 hok U U isAgg65 sizeOf65 V Tk2<|De 6 (some 35) [false,false] hok (fun _ _ A hk=>?_)
   refine R.call C U (A.w U U) (A.x U U) (A.s U U) (pre:= [_]) U hkc fun w3 ro3 pre3 hl3 hp3=>hk _ _ ⟨QFs.nil, ?_⟩
   obtain⟨rfl,hro3,hk0,l2,rfl⟩:=hp3
   subst hro3
   refine Da C 7 hok U U<|D.done C hok Kr<|Xr C U U<|Rm C U U<|R.int C U U U U b_neq<|R.done C<|X.cond C.1 U (fun hk=>?_) (fun hk=>?_)
   ·have hk:knownH (b.part i).r y 0≠0:=by simpa using hk
    have e:knowH b i y=knownH (b.part i).r y 0:=by rw [e0,if_pos hk]
    refine Xr C U U ?_;refine R.build C U U U zeroValue27 U runUnderlying27 Kr .nil<|Rm C U U<|R.store C U U U U sizeOf27 U U U V Ph5<|Ad C U U<|X.ret C U U func79 U (by exact(.agg U isAgg27 sizeOf27 V Tk5 (.tmp U .nil)))<|Hr hret (RO.le_refl _) ?_
    rw [e];exact .inl ⟨hk,rfl⟩
   ·have hk:knownH (b.part i).r y 0=0:=by simpa using hk
    have e:knowH b i y=openH (b.borne i.toNat ((b.part i).r.meet y)) 0:=by rw [e0,if_neg (fun h=>h hk)]
    rw [hk0 hk]
    refine X.skip C.1<|Xs C<|X.persist C.1 fun ro4 hl4 h9=>?_
    have hls:Ls Pt.cells 4 ro4 (.slice (some ⟨p9,0,none⟩) b.ps.length cap9) (b.ps.modify i.toNat fun p=>{p with r:=(b.part i).r.meet y}):=⟨_,_,by rw [hml], .inr ⟨p9,0,_,_,_,rfl,h9,by rw [←flatMap_len Pt.len];exact Sub.front _ _⟩⟩
    have hv4:=hv'.mono hl4
    have hag:=agreed_c hJ (b:=b.borne i.toNat ((b.part i).r.meet y)) (he.mono hl4) ⟨_,_,_,_,rfl,hls,hv4.2.1,hv4.2.2.1,hv4.2.2.2⟩ (hs.borne _ _)
    refine X.region C U U<|R5 C U U isAgg27 sizeOf27 V Tk5<|R.callR C U U U U (hag) fun w5 ro5 hl5 hp5=>?_
    rcases hp5 with⟨h1,rfl⟩|⟨h1,v5,hv5,rfl⟩
    ·
     refine R.ext C U U U U<|R.ext C U U U U<|R.store C U U U U sizeOf27 U U U V Ph5<|Ad C U U<|X.ret C U U func79 U (by exact(.agg U isAgg27 sizeOf27 V Tk5 (.tmp U .nil)))<|Hr hret (RO.le_trans hl4 hl5) ?_
     rw [e];exact .inl ⟨h1,rfl⟩
    ·
     have hv5':=hv5
     obtain⟨_,_,_,_,rfl,hv5⟩:=hv5
     obtain⟨_,_,rfl⟩:=hv5.1.form
     obtain⟨_,_,rfl⟩:=hv5.2.1.form
     obtain⟨_,_,rfl⟩:=hv5.2.2.1.form
     obtain⟨_,_,rfl⟩:=hv5.2.2.2.form
     refine R.ext C U U U U<|R.ext C U U U U<|R.store C U U U U sizeOf27 U U U V Ph5<|Ad C U U<|X.ret C U U func79 U (by exact(.agg U isAgg27 sizeOf27 V Tk5 (.tmp U .nil)))<|Hr hret (RO.le_trans hl4 hl5) ?_
     rw [e];exact .inr ⟨h1,_,hv5',rfl⟩
end
section
theorem cmpI_flip(x y:Int):cmpI y x= -cmpI x y:=by unfold cmpI;split<;>split<;>(try split)<;>omega
theorem cmpL_flip:∀a c:List Int,cmpL c a= -cmpL a c
 | [], []=>rfl
 | [],_::_=>rfl
 |_::_, []=>rfl
 |x::xs,y::ys=>by
  have h:=cmpI_flip x y
  have ih:=cmpL_flip xs ys
  simp only [cmpL]
  split<;>split<;>omega
theorem cmpL_zero:∀ {a c:List Int},cmpL a c=0→a=c
 | [], [],_=>rfl
 | [],_::_,h=>by simp [cmpL] at h
 |_::_, [],h=>by simp [cmpL] at h
 |x::xs,y::ys,h=>by
  simp only [cmpL] at h
  split at h
  ·contradiction
  ·rename_i hx
   simp only [ne_eq,Decidable.not_not] at hx
   rw [cmpI_zero.1 hx,cmpL_zero h]
theorem cmpL_refl:∀a:List Int,cmpL a a=0
 | []=>rfl
 |x::xs=>by
  have:cmpI x x=0:=cmpI_zero.2 rfl
  simp [cmpL,this,cmpL_refl xs]
theorem sameInts_iff{a c:List Int}:sameInts a c=decide (a=c):=by
 unfold sameInts earlier
 have h:=cmpL_flip a c
 by_cases e:a=c
 ·subst e;simp [cmpL_refl]
 ·have:cmpL a c≠0:=fun h=>e (cmpL_zero h)
  rw [decide_eq_false e]
  by_cases h1:cmpL a c<0
  ·simp [h1]
  ·have h2:cmpL c a<0:=O
   simp [h2]
section
variable {main:Bool}{J:Goroutine→Mem→Prop}(hJ:Closed prog main J)
include hJ
theorem isPieceR_c{b:Bk}{v:Value}{ro:RO}(hv:BkV ro v b)(hb:b.cs.length≤1000000)(k:Int):CallP prog J (fnv 107) [v, .int .i64 k] ro (.bool (between k 0 (b.cs.length-1))):=by
 obtain⟨vp,vg,vc,vt,rfl,hp,hg,hc,ht⟩:=hv
 obtain⟨b1,c1,rfl⟩:=hc.form
 refine CallP.intro hJ Kr fun c cs tail hret=>enter_X (n:=11) func107 U U (Nl U) ?_
 have C:Ctx prog main J (bf 107 .normal):=⟨hJ,by decide⟩
 refine Xr C U U<|R.box C U U U U fun p2=>Ad C U U<|Xr C U U<|Rm C U U<|Rf C 3 U U runUnderlying27 U sizeOf24<|Rl C U U isAgg24 V U<|Rn C U U runUnderlying24<|R.int C U U U U (b_sub O O)<|R.callP C U U U U (betweenR_c hJ _ _ _ _)<|Ad C U U<|Xt C func107<|Hp hret ?_
 simp_all [retVal]
end
end
end Go.Lg.B
namespace Go.Lg.B
open Go Go.Conc Go.Lg Go.Proofs Go.WideShapes Go.ChangeShapes Go.Proofs.Tryz
section
variable {H:Type}{enc0:TypeId×Value→H}{W:World}{base:Nat}{sp:Nat→Bool}{held:Bool}
theorem argRc{r:Reach}{b0:Nat}{v:Value}{d:DataW H}{p:List MemPlace}(hv:Value.okWide prog W r b0 65 v)(h:DataW.Trod enc0 prog W base sp held 65 v d p):∃s:Rc,v=s.val:=by
 obtain⟨cs,rfl,_⟩:=okWide_struct underlying65 hv
 obtain⟨n,h⟩:=h
 obtain⟨s,e⟩:=rc_of h
 exact⟨s,by rw [Rc.val, ←e];rfl⟩
theorem argTs{r:Reach}{b0:Nat}{v:Value}{d:DataW H}{p:List MemPlace}(hv:Value.okWide prog W r b0 92 v)(h:DataW.Trod enc0 prog W base sp held 92 v d p):∃s:Ts,v=s.val:=by
 obtain⟨cs,rfl,_⟩:=okWide_struct underlying92 hv
 obtain⟨n,h⟩:=h
 obtain⟨s,e⟩:=ts_of h
 exact⟨s,by rw [Ts.val, ←e];rfl⟩
theorem argInt{r:Reach}{b0:Nat}{v:Value}{d:DataW H}{p:List MemPlace}(hv:Value.okWide prog W r b0 3 v)(h:DataW.Trod enc0 prog W base sp held 3 v d p):∃n,v= .int .i64 n∧ -9223372036854775808≤n∧n≤9223372036854775807:=by
 obtain⟨x,rfl,_,_,wx⟩:=open_int underlying3 hv h
 exact⟨x,rfl,by simpa [Lit.wf,IntKind.min,IntKind.max,IntKind.signed,IntKind.bits] using wx⟩
end
end Go.Lg.B
namespace Go.Lg.B
open Go Go.Conc Go.Lg Go.Proofs Go.Proofs.Tryz
def allLift(b:Bk)(g n:Int):Bool:=(cases b).all fun t=>lifts b t.1 g n
end Go.Lg.B
namespace Go.Lg
open Go Go.Conc
theorem R.finish{P:Program}{main:Bool}{J:Goroutine→Mem→Prop}{b:Frame}{cs:List Frame}{n:Nat}{ds:List Deferred}{σ:Slots}{ro:RO}{own:List (Nat×Obj)}{k:List Item}{ops:Array Oper}{l:List Nat}{α:Type}{enc:α→List Value}{e:TypeId}{kk:Nat}{v:Value}{xs:List α}{tail:List (Nat×Obj)}(hJ:Closed P main J)(hk:∀x,(enc x).length=kk)(hkp:0<kk)(hb:Buf e kk tail v (xs.flatMap enc) own)
  (h:∀ro':RO,ro.le ro'→Ls enc kk ro' v xs→R J b cs n ops l k ds σ ⟨ro',tail⟩):R J b cs n ops l k ds σ ⟨ro,own⟩:=fun hok=>X.finish hJ hk hkp hb fun ro' hl hls=>h ro' hl hls hok
end Go.Lg
namespace Go.Lg.B
open Go Go.Conc Go.Lg Go.Proofs Go.Proofs.Tryz
section
theorem rz_take(lo:Int):∀m,rz lo (m+1)=rz lo m++ [lo+m]
 |0=>by simp [rz]
 |m+1=>by
  have:=rz_take (lo+1) m
  rw [rz,this,rz]
  simp only [List.cons_append]
  congr 2
  rw [show lo+1+(m:Int)=lo+((m+1:Nat):Int) by omega]
section
variable {main:Bool}{J:Goroutine→Mem→Prop}(hJ:Closed prog main J)
include hJ
theorem smallerR_c{va vb:Value}{ro:RO}{a d:List Int}(ha:LsI ro va a)(hc:LsI ro vb d)(h1:a.length≤1000000)(h2:d.length≤1000000):CallP prog J (fnv 65) [va,vb] ro (.bool (smaller a d)):=by
 have ha0:=ha
 have hc0:=hc
 obtain⟨ab,ac,rfl⟩:=ha.form
 obtain⟨db,dc,rfl⟩:=hc.form
 have hsm:smaller a d=(decide ((a.length:Int)<d.length)||(((a.length:Int)==d.length) && earlier a d)):=by
  unfold smaller earlier
  congr 1
  ·rw [decide_eq_decide];omega
  ·congr 1
   rw [Bool.eq_iff_iff];simp
   omega
 rw [hsm]
 refine CallP.intro hJ Kr fun c cs tail hret=>enter_X (n:=22) func65 U U (Nl U) ?_
 have C:Ctx prog main J (bf 65 .normal):=⟨hJ,by decide⟩
 refine Xr C U U<|Ad C U U<|Xr C U U<|Rm C U U<|Rn C U U runUnderlying28<|Rm C U U<|Rn C U U runUnderlying28<|R.int C U U U U b_lss<|Rm C U U<|R.fix (t:=10) U (fun q1=>?_) (fun q1=>?_)
 ·refine R.pass C U U<|R.pass C U U<|R.pass C U U<|R.pass C U U<|R.pass C U U<|R.pass C U U<|R.pass C U U<|R.pass C U U<|R.pass C U U<|R.pass C U U<|R.pickT C U U U U<|Ad C U U<|Xt C func65<|Hp hret ?_
  first|(simp_all [retVal];done)
 ·refine Rm C U U<|Rn C U U runUnderlying28<|Rm C U U<|Rn C U U runUnderlying28<|R.int C U U U U b_eql<|Rm C U U<|R.fix (t:=16) U (fun q2=>?_) (fun q2=>?_)
  ·refine Rm C U U<|Rm C U U<|R.callP C U U U U (earlier_c hJ ha0 hc0 h1 h2)<|R.pickT C U U U U<|R.pickF C U U U U<|Ad C U U<|Xt C func65<|Hp hret ?_
   first|(simp_all [retVal];done)
  ·refine R.pass C U U<|R.pass C U U<|R.pass C U U<|R.pickF C U U U U<|R.pickF C U U U U<|Ad C U U<|Xt C func65<|Hp hret ?_
   first|(simp_all [retVal];done)
end
end
section
theorem bitsFrom_mem(mask:Nat)(x:Int):∀ (m i:Nat),x∈bitsFrom mask i m↔ ∃j:Nat,i≤j∧j<i+m∧mask.testBit j=true∧x=j
 |0,i=>by
  simp only [bitsFrom,List.not_mem_nil,false_iff]
  rintro⟨j,h1,h2,_⟩;omega
 |m+1,i=>by
  have ih:=bitsFrom_mem mask x m (i+1)
  rw [bitsFrom]
  split
  ·rename_i h
   rw [List.mem_cons,ih]
   constructor
   ·rintro(rfl|⟨j,h1,h2,h3,h4⟩)
    ·exact⟨i,O,O,h,rfl⟩
    ·exact⟨j,O,O,h3,h4⟩
   ·rintro⟨j,h1,h2,h3,h4⟩
    by_cases e:j=i
    ·subst e;exact .inl h4
    ·exact .inr ⟨j,O,O,h3,h4⟩
  ·rename_i h
   rw [ih]
   constructor
   ·rintro⟨j,h1,h2,h3,h4⟩;exact⟨j,O,O,h3,h4⟩
   ·rintro⟨j,h1,h2,h3,h4⟩
    by_cases e:j=i
    ·subst e;exact absurd h3 h
    ·exact⟨j,O,O,h3,h4⟩
theorem bitsFrom_asc(mask:Nat):∀ (m i:Nat),(bitsFrom mask i m).Pairwise (· < ·)
 |0,_=> .nil
 |m+1,i=>by
  rw [bitsFrom]
  split
  ·refine List.pairwise_cons.2 ⟨fun x hx=>?_,bitsFrom_asc mask m (i+1)⟩
   obtain⟨j,h1,_,_,rfl⟩:=(bitsFrom_mem mask x m (i+1)).1 hx
   omega
  ·exact bitsFrom_asc mask m (i+1)
theorem listOf_mem{n mask:Nat}{x:Int}:x∈listOf n mask↔ ∃j:Nat,j<n∧mask.testBit j=true∧x=j:=by
 rw [listOf,bitsFrom_mem]
 constructor
 ·rintro⟨j,_,h2,h3,h4⟩;exact⟨j,O,h3,h4⟩
 ·rintro⟨j,h2,h3,h4⟩;exact⟨j,O,O,h3,h4⟩
theorem listOf_asc(n mask:Nat):(listOf n mask).Pairwise (· < ·):=bitsFrom_asc mask n 0
def maskL:List Int→Nat
 | []=>0
 |k::l=>2^k.toNat|||maskL l
theorem maskL_bit(i:Nat):∀ {l:List Int},(∀k∈l,0≤k)→((maskL l).testBit i=true↔(i:Int)∈l)
 | [],_=>by simp [maskL]
 |k::l,h=>by
  have hk:=h k Zi
  rw [maskL,Nat.testBit_or,Bool.or_eq_true,maskL_bit i (fun x hx=>h x (by simp [hx])),Nat.testBit_two_pow,decide_eq_true_eq,List.mem_cons]
  constructor
  ·rintro(h1|h1)
   ·exact .inl O
   ·exact .inr h1
  ·rintro(h1|h1)
   ·exact .inl O
   ·exact .inr h1
theorem maskL_lt{n:Nat}:∀ {l:List Int},(∀k∈l,0≤k∧k<n)→maskL l<2^n
 | [],_=>Nat.two_pow_pos n
 |k::l,h=>by
  have hk:=h k Zi
  exact Nat.or_lt_two_pow (Nat.pow_lt_pow_right O O) (maskL_lt fun x hx=>h x (by simp [hx]))
theorem listOf_mask{n:Nat}{l:List Int}(ha:l.Pairwise (· < ·))(h:∀k∈l,0≤k∧k<n):listOf n (maskL l)=l:=by
 refine asc_unique (listOf_asc _ _) ha fun x=>?_
 rw [listOf_mem]
 constructor
 ·rintro⟨j,_,h2,rfl⟩
  exact(maskL_bit j fun k hk=>(h k hk).1).1 h2
 ·intro hx
  have:=h x hx
  exact⟨x.toNat,O,(maskL_bit x.toNat fun k hk=>(h k hk).1).2 (by rw [show((x.toNat:Nat):Int)=x by omega];exact hx),O⟩
theorem smaller_iff{a c:List Int}:smaller a c=true↔a.length<c.length∨a.length=c.length∧cmpL a c<0:=by simp [smaller]
theorem cmpL_trans:∀ {a c e:List Int},cmpL a c<0→cmpL c e<0→cmpL a e<0
 | [], [],_,h,_=>by simp [cmpL] at h
 | [],_::_, [],_,h=>by simp [cmpL] at h
 | [],_::_,_::_,_,_=>by simp [cmpL]
 |_::_, [],_,h,_=>by simp [cmpL] at h
 |_::_,_::_, [],_,h=>by simp [cmpL] at h
 |x::xs,y::ys,z::zs,h1,h2=>by
  simp only [cmpL] at h1 h2⊢
  by_cases e1:cmpI x y=0
  ·rw [if_neg (by simp [e1])] at h1
   have:=cmpI_zero.1 e1
   subst this
   by_cases e2:cmpI x z=0
   ·rw [if_neg (by simp [e2])] at h2⊢
    exact cmpL_trans h1 h2
   ·rw [if_pos e2] at h2⊢;exact h2
  ·rw [if_pos e1] at h1
   have h3:=cmpI_neg.1 h1
   by_cases e2:cmpI y z=0
   ·have:=cmpI_zero.1 e2
    subst this
    rw [if_pos e1];exact h1
   ·rw [if_pos e2] at h2
    have h4:=cmpI_neg.1 h2
    have h5:cmpI x z<0:=cmpI_neg.2 O
    rw [if_pos O];exact h5
theorem smaller_trans{a c e:List Int}(h1:smaller a c=true)(h2:smaller c e=true):smaller a e=true:=by
 rw [smaller_iff] at*
 rcases h1 with h1|⟨h1,h1'⟩
 ·rcases h2 with h2|⟨h2,_⟩<;>exact .inl O
 ·rcases h2 with h2|⟨h2,h2'⟩
  ·exact .inl O
  ·exact .inr ⟨O,cmpL_trans h1' h2'⟩
theorem smaller_irr(a:List Int):¬smaller a a=true:=by rw [smaller_iff,cmpL_refl];omega
theorem smaller_total{a c:List Int}(h1:¬smaller a c=true)(h2:¬smaller c a=true):a=c:=by
 rw [smaller_iff] at*
 have h3:=cmpL_flip a c
 refine cmpL_zero ?_
 have e1:a.length=c.length:=O
 have e2:¬cmpL a c<0:=fun h=>h1 (.inr ⟨e1,h⟩)
 have e3:¬cmpL c a<0:=fun h=>h2 (.inr ⟨e1.symm,h⟩)
 omega
theorem offer_least:∀ (l:List (List Int)) (o:List Int),∃y,l.foldl offer (some o)=some y∧(y=o∨y∈l)∧(∀x,x=o∨x∈l→¬smaller x y=true)
 | [],o=>⟨o,rfl, .inl rfl,fun x hx=>by
  rcases hx with rfl|hx
  ·exact smaller_irr _
  ·cases hx⟩
 |x::l,o=>by
  rw [List.foldl_cons,offer]
  by_cases h:smaller x o=true
  ·rw [if_pos h]
   obtain⟨y,h1,h2,h3⟩:=offer_least l x
   refine⟨y,h1, ?_,fun z hz=>?_⟩
   ·rcases h2 with rfl|h2
    ·exact .inr Zi
    ·exact .inr (by simp [h2])
   ·rcases hz with rfl|hz
    ·exact fun hz=>h3 x (.inl rfl) (smaller_trans h hz)
    ·rcases List.mem_cons.1 hz with rfl|hz
     ·exact h3 _ (.inl rfl)
     ·exact h3 z (.inr hz)
  ·rw [if_neg h]
   obtain⟨y,h1,h2,h3⟩:=offer_least l o
   refine⟨y,h1, ?_,fun z hz=>?_⟩
   ·rcases h2 with rfl|h2
    ·exact .inl rfl
    ·exact .inr (by simp [h2])
   ·rcases hz with rfl|hz
    ·exact h3 _ (.inl rfl)
    ·rcases List.mem_cons.1 hz with rfl|hz
     ·intro hz
      have h4:=h3 o (.inl rfl)
      by_cases h5:smaller o z=true
      ·exact h4 (smaller_trans h5 hz)
      ·rw [smaller_total h h5] at hz
       exact h4 hz
     ·exact h3 z (.inr hz)
theorem fewestOf_none{n:Nat}{is:Nat→Bool}(h:∀m,m<2^n→is m=false):fewestOf n is=none:=by
 have:(List.range (2^n)).filter is= []:=by
  rw [List.filter_eq_nil_iff]
  intro m hm
  rw [h m (List.mem_range.1 hm)];simp
 rw [fewestOf,this];rfl
theorem fewestOf_some{n:Nat}{is:Nat→Bool}{m:Nat}(hm:m<2^n)(h:is m=true):∃y,fewestOf n is=some y∧(∃m',m'<2^n∧is m'=true∧y=listOf n m')∧∀m',m'<2^n→is m'=true→¬smaller (listOf n m') y=true:=by
 have hmem:m∈(List.range (2^n)).filter is:=List.mem_filter.2 ⟨List.mem_range.2 hm,h⟩
 have hall:∀m',m'∈(List.range (2^n)).filter is↔m'<2^n∧is m'=true:=fun m'=>by rw [List.mem_filter,List.mem_range]
 unfold fewestOf
 generalize(List.range (2^n)).filter is=L at hmem hall
 cases L with
 |nil=>cases hmem
 |cons k L=>
  obtain⟨y,h1,h2,h3⟩:=offer_least (L.map (listOf n)) (listOf n k)
  refine⟨y,by simpa [offer] using h1, ?_,fun m' hm' his=>?_⟩
  ·rcases h2 with rfl|h2
   ·have:=(hall k).1 Zi
    exact⟨k,this.1,this.2,rfl⟩
   ·obtain⟨m',hm',rfl⟩:=List.mem_map.1 h2
    have:=(hall m').1 (by simp [hm'])
    exact⟨m',this.1,this.2,rfl⟩
  ·have:=(hall m').2 ⟨hm',his⟩
   rcases List.mem_cons.1 this with rfl|this
   ·exact h3 _ (.inl rfl)
   ·exact h3 _ (.inr (List.mem_map_of_mem this))
theorem rz_asc:∀ (m:Nat) (n:Int),(rz n m).Pairwise (· < ·)
 |0,_=> .nil
 |m+1,n=>List.pairwise_cons.2 ⟨fun x hx=>by have:=mem_rz.1 hx;omega,rz_asc m (n+1)⟩
section
variable {main:Bool}{J:Goroutine→Mem→Prop}(hJ:Closed prog main J)
include hJ
theorem uptoR_c{n:Nat}(hn:n≤1000){ro:RO}:CallR prog J (fnv 70) [.int .i64 (n:Int)] ro (fun w ro'=>LsI ro' w (rz 0 n)):=by
 refine CallR.intro hJ Kr fun c cs tail hret=>enter_X (n:=15) func70 U U (Nl U) ?_
 have C:Ctx prog main J (bf 70 .normal):=⟨hJ,by decide⟩
 refine Xr C U U<|Ad C U U<|Xr C U U<|Ad C U U<|Xs C<|Xr C U U<|Ad C U U<|X.block C.1<|X.loopI (ι:=Nat×Value×List (Nat×Obj)) C.1 (fun s=>s.1≤n∧Buf 3 1 [] s.2.1 ((rz 0 s.1).flatMap ic) s.2.2) (fun s=> [(0, .int .i64 (n:Int)),(3,s.2.1),(4, .int .i64 (s.1:Int))])
  (fun s=>⟨ro,s.2.2++tail⟩) (fun s=>n-s.1) (0, .slice none 0 0, []) ⟨Nat.zero_le _, .nil⟩ rfl ⟨U,U,U,trivial⟩ fun s hs hnext=>?_
 obtain⟨i,v2,own2⟩:=s
 obtain⟨hi,hb2⟩:=hs
 simp only at hi hb2 hnext⊢
 have hfl:((rz 0 i).flatMap ic).length=i:=by rw [flat_len,rz_len]
 refine Xs C<|Xr C U U<|Rm C U U<|Rm C U U<|R.int C U U U U b_lss<|R.done C<|Xk C U (fun hlt=>?_) (fun hlt=>?_)
 ·have hi':i<n:=O
  refine X.skip C.1<|Xs C<|X.block C.1<|X.region C U U<|Rm C U U<|Rm C U U<|R.buildSlice C (vs:=_) U U (show pvals _ _=some (numbered 0 [_]) from rfl) U runUnderlying28 sizeOf3 zeroValue3 Dd (Cat.one U U) fun p12=>R.append1 (kk:=1) C U U U U runUnderlying28 runUnderlying28 (fun _=>nofun) (show prog.info? 3=some Tryz.t3 by kernel_rfl) U U U Dd Dd (hb2.app _) U U (by simp only [List.length_append,List.length_cons,List.length_nil];omega) fun v' own' hb'=>Ad C U U<|X.inBlock C.1<|X.region C U U<|Rm C U U<|Ra C U U U<|Ad C U U ?_
  obtain⟨own3,rfl,hb3⟩:=Buf.unapp (tail:= []) hb'
  have hcat:(rz 0 i).flatMap ic++ [Value.int .i64 (i:Int)]=(rz 0 (i+1)).flatMap ic:=by rw [rz_take,List.flatMap_append,Int.zero_add];rfl
  rw [hcat] at hb3
  refine X.weaken ?_ (hnext (i+1,_,own3) ⟨hi',hb3⟩ O)
  exact⟨rfl,rfl,by simp [look],trivial⟩
 ·obtain rfl:i=n:=by omega
  refine X.exit C.1 U<|Xr C U U<|R.finish C.1 ic_len Dd (hb2.app _) fun ro4 hl4 hls4=>Rm C U U<|Ad C U U<|Xt C func70<|Hr hret hl4 ?_
  exact hls4
end
end
section
theorem fewestOf_law{n:Nat}{is:Nat→Bool}{P:List Int→Bool}(h:∀m,m<2^n→is m=P (listOf n m)):
  (fewestOf n is=none∧∀x:List Int,x.Pairwise (· < ·)→(∀k∈x,0≤k∧k<(n:Int))→P x=false)∨
  ∃y,fewestOf n is=some y∧y.Pairwise (· < ·)∧(∀k∈y,0≤k∧k<(n:Int))∧P y=true∧∀x:List Int,x.Pairwise (· < ·)→(∀k∈x,0≤k∧k<(n:Int))→P x=true→¬smaller x y=true:=by
 have hm:∀x:List Int,x.Pairwise (· < ·)→(∀k∈x,0≤k∧k<(n:Int))→maskL x<2^n∧listOf n (maskL x)=x∧is (maskL x)=P x:=fun x h1 h2=>by
  have h3:=listOf_mask h1 h2
  exact⟨maskL_lt h2,h3,by rw [h _ (maskL_lt h2),h3]⟩
 by_cases hq:∃m,m<2^n∧is m=true
 ·obtain⟨m,h1,h2⟩:=hq
  obtain⟨y,h3,⟨m',h4,h5,rfl⟩,h6⟩:=fewestOf_some h1 h2
  refine .inr ⟨_,h3,listOf_asc _ _,fun k hk=>?_,by rw [←h _ h4];exact h5,fun x hx1 hx2 hx3=>?_⟩
  ·obtain⟨j,h7,_,rfl⟩:=listOf_mem.1 hk;omega
  ·obtain⟨k1,k2,k3⟩:=hm x hx1 hx2
   have:=h6 _ k1 (by rw [k3];exact hx3)
   rwa [k2] at this
 ·refine .inl ⟨fewestOf_none fun m hm=>?_,fun x hx1 hx2=>?_⟩
  ·cases e:is m
   ·rfl
   ·exact absurd ⟨m,hm,e⟩ hq
  ·obtain⟨k1,k2,k3⟩:=hm x hx1 hx2
   cases e:P x
   ·rfl
   ·exact absurd ⟨_,k1,k3.trans e⟩ hq
theorem testsGo_of{m:Int}:∀ {l:List Ts},(∀t∈l,(0≤t.g∧t.g<m)∧1≤t.l∧t.l≤99)→testsGo m l=0
 | [],_=>rfl
 |t::l,h=>by
  have ht:=h t Zi
  rw [testsGo,if_neg (fun e=>e (there_zero.2 ht.1)),if_neg (fun e=>e (loadH_zero.2 ht.2))]
  exact testsGo_of fun x hx=>h x (by simp [hx])
theorem check_ts{b:Bk}(hch:checkBook b=0){l:List Ts}(hn:l.length≤3)(h:∀t∈l,(0≤t.g∧t.g<b.gs.length)∧1≤t.l∧t.l≤99):checkBook {b with ts:=l}=0:=by
 obtain⟨w,p,g,c,_⟩:=check_parts hch
 have hts:Bk.testsH {b with ts:=l}=0:=by
  unfold Bk.testsH
  rw [if_neg (by show¬l.length>3;omega)]
  exact testsGo_of h
 have hw:Bk.winchH {b with ts:=l}=0:=w
 have hp:Bk.partsH {b with ts:=l}=0:=p
 have hg:Bk.gearsH {b with ts:=l}=0:=g
 have hc:Bk.piecesH {b with ts:=l}=0:=c
 unfold checkBook
 rw [hw,hp,hg,hc,hts];rfl
def Bk.onlyL(b:Bk)(l:List Int):Bk:={b with ts:=l.map fun k=>b.ts.getD k.toNat default}
def noneL(b:Bk)(l:List Int):Bool:=decide (cases (b.onlyL l)= [])
theorem selK_list{mask:Nat}{l:List Ts}:∀k,k≤l.length→selK mask l k=(bitsFrom mask 0 k).map fun i=>l.getD i.toNat default
 |0,_=>by simp [selK,bitsFrom]
 |k+1,h=>by
  rw [selK_succ O,bitsFrom_snoc,selK_list k O]
  simp only [Nat.zero_add]
  have hk:k<l.length:=O
  split
  ·simp [List.getD_eq_getElem?_getD,hk]
  ·simp
theorem only_list(b:Bk)(m:Nat):b.only m=b.onlyL (listOf b.ts.length m):=by
 unfold Bk.only Bk.onlyL selT
 rw [selK_list _ (Nat.le_refl _)];rfl
theorem noneLeft_list(b:Bk)(m:Nat):noneLeft b m=noneL b (listOf b.ts.length m):=by
 unfold noneLeft noneL
 rw [only_list];simp
theorem onlyL_check{b:Bk}(hch:checkBook b=0){l:List Int}(hn:l.length≤3)(hl:∀k∈l,0≤k∧k<(b.ts.length:Int)):checkBook (b.onlyL l)=0:=by
 refine check_ts hch (by simpa using hn) fun t ht=>?_
 obtain⟨k,hk,rfl⟩:=List.mem_map.1 ht
 have:=hl k hk
 have hk':k.toNat<b.ts.length:=O
 rw [show b.ts.getD k.toNat default=b.ts[k.toNat] by simp [List.getD_eq_getElem?_getD,hk']]
 exact(good_of hch).ts _ (List.getElem_mem hk')
theorem spread_ne{rs:List Rc}(h:∀r∈rs,r.lo≤r.hi):spread rs≠ []:=by
 have:rs.map (fun r=>r.lo)∈spread rs:=mem_spread.2 ⟨by simp,fun i r hr=>⟨r.lo,by simp [hr],Int.le_refl _,h r (List.mem_of_getElem? hr)⟩⟩
 intro e;rw [e] at this;cases this
theorem weightsL_ne{b:Bk}(hb:b.good):weightsL b≠ []:=spread_ne fun r hr=>by
 obtain⟨c,hc,rfl⟩:=List.mem_map.1 hr
 have:=hb.cs c hc
 unfold Pc.fine at this;omega
theorem rz_getD:∀ (l pre:List Ts),(rz pre.length l.length).map (fun k=>(pre++l).getD k.toNat default)=l
 | [],_=>rfl
 |t::l,pre=>by
  have ih:=rz_getD l (pre++ [t])
  rw [List.length_append,List.length_singleton,List.append_assoc,List.singleton_append] at ih
  rw [List.length_cons,rz,List.map_cons,show((pre.length:Int)+1)=((pre.length+1:Nat):Int) by omega,ih]
  simp [List.getD_eq_getElem?_getD]
theorem onlyL_all(b:Bk):b.onlyL (rz 0 b.ts.length)=b:=by
 have:=rz_getD b.ts []
 unfold Bk.onlyL
 rw [List.nil_append] at this
 rw [show(rz 0 b.ts.length).map (fun k=>b.ts.getD k.toNat default)=b.ts from this]
section
variable {main:Bool}{J:Goroutine→Mem→Prop}(hJ:Closed prog main J)
include hJ
theorem onlyR_c{b:Bk}{v vl:Value}{ro:RO}{l:List Int}(hv:BkV ro v b)(hl:LsI ro vl l)(hn:l.length≤1000)(hg:∀k∈l,0≤k∧k<(b.ts.length:Int))(hnt:b.ts.length≤1000):CallR prog J (fnv 62) [v,vl] ro (fun w ro'=>BkV ro' w (b.onlyL l)):=by
 obtain⟨vp,vg,vc,vt,rfl,hv⟩:=hv
 obtain⟨pb,pcap,rfl⟩:=hv.1.form
 obtain⟨gb,gcap,rfl⟩:=hv.2.1.form
 obtain⟨cb,ccap,rfl⟩:=hv.2.2.1.form
 obtain⟨tb,tcap,rfl⟩:=hv.2.2.2.form
 have hl0:=hl
 obtain⟨lb,lc,rfl⟩:=hl.form
 refine CallR.intro hJ Kr fun c cs tail hret=>enter_X (n:=29) func62 U U (Nl U) ?_
 have C:Ctx prog main J (bf 62 .normal):=⟨hJ,by decide⟩
 refine Xr C U U<|R.box C U U U U fun p2=>R.alloc C U U zeroValue27 U fun p4=>R.done C<|Xr C U U<|R5 C U U isAgg27 sizeOf27 V Tk5<|R.alloc C U U zeroValue27 U fun p5=>R.store C U U U U sizeOf27 U U U V Ph5<|R.done C<|Xr C U U<|Rf C 4 U U runUnderlying27 U sizeOf25<|R.store C U U U U sizeOf25 U U U V (.skip (.skip (.skip (.skip (.here .nil)))))<|R.done C<|Xs C<|Xr C U U<|Ad C U U<|X.block C.1<|X.loopI (ι:=Nat×Value×List (Nat×Obj)) C.1 (fun s=>s.1≤l.length∧Buf 92 3 [] s.2.1 ((b.onlyL (l.take s.1)).ts.flatMap Ts.cells) s.2.2)
  (fun s=> [(1, .slice lb l.length lc),(2, .pointer (some ⟨p2,0,none⟩)),(4, .pointer (some ⟨p4,0,none⟩)),(5, .pointer (some ⟨p5,0,none⟩)),(6, .int .i64 (s.1:Int))])
  (fun s=>⟨ro,(p5, .cells [.int .i64 b.w,_,_,_,s.2.1].toArray 27 (0,0))::(s.2.2++((p4, .cells [.int .i64 0, .slice none 0 0, .slice none 0 0, .slice none 0 0, .slice none 0 0].toArray 27 (0,0))::(p2, .cells [.int .i64 b.w, .slice pb b.ps.length pcap, .slice gb b.gs.length gcap, .slice cb b.cs.length ccap, .slice tb b.ts.length tcap].toArray 27 (0,0))::tail))⟩) (fun s=>l.length-s.1) (0, .slice none 0 0, []) ⟨Nat.zero_le _, .nil⟩ rfl ⟨U,U,U,U,U,trivial⟩ fun s hs' hnext=>?_
 obtain⟨i,v0,own0⟩:=s
 obtain⟨hi,hbuf⟩:=hs'
 simp only at hi hbuf hnext⊢
 obtain⟨bs0,cap0,rfl⟩:=hbuf.form Dd
 refine Xs C<|Xr C U U<|Rm C U U<|Rm C U U<|Rn C U U runUnderlying28<|R.int C U U U U b_lss<|R.done C<|Xk C U (fun hlt=>?_) (fun hlt=>?_)
 ·have hi':i<l.length:=O
  obtain⟨pl,offl,capl,ll,tl,fql,hsll,hropl,hsubl⟩:=hl0.at ic_len O
  cases hsll
  have hat:=ic_at hsubl hi'
  have hgi:=hg _ (List.getElem_mem hi')
  have hk:l[i].toNat<b.ts.length:=O
  obtain⟨pp,off,cap,lt,t,fq,hsl,hrop,hsub⟩:=hv.2.2.2.at Ts.len O
  cases hsl
  have hsi:=hsub l[i].toNat hk
  have hstep:(b.onlyL (l.take (i+1))).ts=(b.onlyL (l.take i)).ts++ [b.ts[l[i].toNat]]:=by
   unfold Bk.onlyL
   rw [List.take_succ_eq_append_getElem hi',List.map_append]
   simp [List.getD_eq_getElem?_getD,hk]
  have hfl:((b.onlyL (l.take i)).ts.flatMap Ts.cells).length=i*3:=by
   rw [flatMap_len Ts.len]
   simp [Bk.onlyL,List.length_take,Nat.min_eq_left hi]
  generalize b.ts[l[i].toNat]=co at hsi hstep
  have hcl:co.cells.length=3:=rfl
  generalize l[i]=z at hat hgi hk hsi
  refine X.skip C.1<|Xs C<|X.block C.1<|Xd C fun hok=>Df (off':=4) C 0 hok U U U runUnderlying27 U sizeOf25 U<|Dl 1 hok (fun _ _ A h=>R.loadOne C U (A.w U U) (A.x U U) isAgg25 Vm U h)<|Df (off':=4) C 2 hok U U U runUnderlying27 U sizeOf25 U<|Dl 3 hok (fun _ _ A h=>R.loadOne C U (A.w U U) (A.x U U) isAgg25 Vm U h)<|Dm C 4 hok U U U<|Dm C 5 hok U U U<|Dx C 6 hok U U U runUnderlying28 sizeOf3<|D2 C 7 hok U U isAgg3 hropl hat<|Dx C 8 hok U U U runUnderlying25 sizeOf92<|Dl 9 hok (fun _ _ A h=>R.loadAggRo C U (A.w U U) (A.x U U) isAgg92 sizeOf92 hrop hsi h)<|De 10 (some 25) [false,false,false,true] hok (fun _ _ A hk=>?_)
  refine R.buildSlice C (vs:=_) U (A.w U U) (show pvals _ _=some (numbered 0 [_]) from(A.p U U)) U runUnderlying25 sizeOf92 zeroValue92 Dd (Cat.one U U) fun p25=>hk _ _ ⟨(QFs.cons (QF.of U (fun _ _ A h=>R.loadOne C U (A.w U U) (A.x U U) isAgg25 Vm U h)) QFs.nil), ?_⟩
  refine De 11 (some 26) [false] hok (fun _ _ A hk=>?_)
  refine R.append2 (kk:=3) C [_] U (A.w U U) (A.x U U) (A.x U U) runUnderlying25 runUnderlying25 (fun _=>nofun) (show prog.info? 92=some Tryz.t92 by kernel_rfl) U U U Dd Dd (hbuf.app _) U U (by(try simp only [List.length_append,List.length_cons,List.length_nil]);omega) fun v' own' hb'=>hk _ _ ⟨QFs.nil, ?_⟩
  refine Df (off':=4) C 12 hok U U U runUnderlying27 U sizeOf25 U<|De 13 none [] hok (fun _ _ A hk=>?_)
  obtain⟨own1,rfl,hb1⟩:=hb'.unapp (tail:= [])
  refine R.store C U (A.w U U) (A.x U U) (A.x U U) sizeOf25 hb'.cells1 U hb'.ones1 (by repeat (first|exact Uh|apply Ut|apply Upd.app)) (.skip (.skip (.skip (.skip (.here .nil))))) (hk undef _ ⟨QFs.nil, ?_⟩)
  refine D.done C hok Kr<|X.inBlock C.1<|X.region C U U<|Rm C U U<|Ra C U U U<|Ad C U U<|X.weaken ?_ (hnext (i+1,v',own1) ⟨hi', ?_⟩ (by simp only;omega))
  ·exact⟨rfl,rfl,rfl,rfl,by simp [look],trivial⟩
  ·rw [hstep,List.flatMap_append];exact hb1
 ·obtain rfl:i=l.length:=by omega
  refine X.exit C.1 U<|Xs C<|X.finishA [_] C.1 Ts.len Dd (hbuf.app _) fun ro2 hl2 hls=>X.region C U U<|R5 C U U isAgg27 sizeOf27 V Tk5<|R.store C U U U U sizeOf27 U U U V Ph5<|R.done C<|X.ret C U U func62 U (by exact(.agg U isAgg27 sizeOf27 V Tk5 .nil))<|Hr hret hl2 ?_
  exact⟨_,_,_,_,rfl,hv.1.mono hl2,hv.2.1.mono hl2,hv.2.2.1.mono hl2,by rw [List.take_length] at hls⊢;exact hls⟩
end
end
section
theorem ones_ps(xs:List Pt):ones (xs.flatMap Pt.cells)=true:=ones_flat (fun _=>rfl) xs
section
variable {main:Bool}{J:Goroutine→Mem→Prop}(hJ:Closed prog main J)
include hJ
theorem borneR_c{b:Bk}{v:Value}{ro:RO}(hv:BkV ro v b)(hn:b.ps.length≤1000){i:Int}(hi:0≤i∧i<b.ps.length)(r:Rc):CallR prog J (fnv 75) [v, .int .i64 i,r.val] ro (fun w ro'=>BkV ro' w (b.borne i.toNat r)):=by
 obtain⟨vp,vg,vc,vt,rfl,hv⟩:=hv
 obtain⟨pb,pcap,rfl⟩:=hv.1.form
 obtain⟨gb,gcap,rfl⟩:=hv.2.1.form
 obtain⟨cb,ccap,rfl⟩:=hv.2.2.1.form
 obtain⟨tb,tcap,rfl⟩:=hv.2.2.2.form
 have hil:i.toNat<b.ps.length:=O
 have hfl:=flatMap_len Pt.len b.ps
 refine CallR.intro hJ Kr fun c cs tail hret=>enter_X (n:=19) func75 U U (Nl U) ?_
 have C:Ctx prog main J (bf 75 .normal):=⟨hJ,by decide⟩
 refine Xr C U U<|R.box C U U U U fun p3=>R.box C U U U U fun p5=>R.alloc C U U zeroValue27 U fun p6=>R.done C<|Xr C U U<|R.buildSlice C (vs:=_) U U (show pvals _ _=some (numbered 0 []) from rfl) U runUnderlying22 sizeOf67 zeroValue67 Dd (.nil) fun p7=>Rf C 1 U U runUnderlying27 U sizeOf22<|Rl C U U isAgg22 V U<|R.append (kk:=4) C U U U U runUnderlying22 runUnderlying22 (fun _=>nofun) (show prog.info? 67=some Tryz.t67 by kernel_rfl) U U U Dd Dd (Buf.blk (cells:= []) (spare:= []) (len:=0) (cap:=0) U U (Nat.le_refl _)) (hv.1.rd Pt.len) (ones_ps b.ps) (by simp only [List.length_nil];omega) fun v' own' hb'=>Rf C 1 U U runUnderlying27 U sizeOf22 ?_
 obtain⟨own1,rfl,hb1⟩:=hb'.unapp (tail:= [])
 rw [List.nil_append] at hb1
 obtain⟨p9,cap9,sp9,rfl,hcap9,rfl⟩:=blk_of Pt.len Dd hb1 (by intro h;rw [h] at hil;exact absurd hil (Nat.not_lt_zero _))
 refine R.store C U U U U sizeOf22 U U U V (.skip (.here .nil)) ?_
 have hmf:=modify_flat (enc:=Pt.cells) (k:=4) Pt.len (fun p=>{p with r:=r}) b.ps i.toNat sp9 2 [.int .i64 r.lo, .int .i64 r.hi] hil (fun x _=> .skip (.skip Ph2))
 have hml:(b.ps.modify i.toNat fun p=>{p with r:=r}).length=b.ps.length:=by simp
 have eo:0+i.toNat*4+2=i.toNat*4+2:=O
 rw [←eo] at hmf
 refine R.done C<|Xr C U U<|Rf C 1 U U runUnderlying27 U sizeOf22<|Rl C U U isAgg22 V U<|Rm C U U<|R5 C U U isAgg65 sizeOf65 V Tk2<|Rx C U U U runUnderlying22 sizeOf67<|R.fieldAddr C U U U runUnderlying67 U sizeOf65 U<|R.store C U U U U sizeOf65 U U U V hmf<|R.done C<|Xs C<|X.persist C.1 fun ro4 hl4 h9=>?_
 have hls:Ls Pt.cells 4 ro4 (.slice (some ⟨p9,0,none⟩) b.ps.length cap9) (b.ps.modify i.toNat fun p=>{p with r:=r}):=⟨_,_,by rw [hml], .inr ⟨p9,0,_,_,_,rfl,h9,by rw [←flatMap_len Pt.len];exact Sub.front _ _⟩⟩
 have hv4:=hv.mono hl4
 refine X.region C U U<|R5 C U U isAgg27 sizeOf27 V Tk5<|R.store C U U U U sizeOf27 U U U V Ph5<|R.done C<|X.ret C U U func75 U (by exact(.agg U isAgg27 sizeOf27 V Tk5 .nil))<|Hr hret hl4 ?_
 exact⟨_,_,_,_,rfl,hls,hv4.2.1,hv4.2.2.1,hv4.2.2.2⟩
end
end
end Go.Lg.B
namespace Go.Lg
open Go Go.Conc
inductive FsOk(P:Program)(d:Nat)(a b:List Value):List Field→Bool→Prop
 |nil:FsOk P d a b [] true
 |cons {f:Field} {fs:List Field} {x y:Value} {r rs:Bool}:f.name≠ "_" →(∀ (M:Mem) (K:Value→Mem→Prop),K x M→Sm P M (part f.type a.toArray f.offset) K)→(∀ (M:Mem) (K:Value→Mem→Prop),K y M→Sm P M (part f.type b.toArray f.offset) K)→Eq1 P d f.type x y r→FsOk P d a b fs rs→FsOk P d a b (f::fs) (r && rs)
theorem FsOk.run{P:Program}{d:Nat}{a b:List Value}{l:List Field}{r:Bool}(h:FsOk P d a b l r):∀ (M:Mem) (K:Option Bool×Unit→Mem→Prop),K (if r then(none,()) else(some false,())) M→Sm P M (forIn l ((none,()):Option Bool×Unit) fun f _=>(if f.name≠ "_" then do
   let x←part f.type a.toArray f.offset
   let y←part f.type b.toArray f.offset
   let r←Op.equalIn d f.type x y
   if(!r)=true then pure (ForInStep.done (some false,())) else pure (ForInStep.yield (none,()))
   else pure (ForInStep.yield (none,())))) K:=by
 induction h with
 |nil=>intro M K hk;rw [List.forIn_nil];exact Sm.pure hk
 |cons hn hx hy he _ ih=>
  rename_i r1 rs _
  intro M K hk
  refine Sm.forIn_cons ?_
  rw [if_pos hn]
  refine Sm.bind (hx _ _ (Sm.bind (hy _ _ (Sm.bind (he _ _ ?_)))))
  cases r1 with
  |true=>rw [if_neg Zi];exact Sm.pure (ih _ _ (by simpa using hk))
  |false=>rw [if_pos (show(!false)=true from rfl)];exact Sm.pure (by simpa using hk)
theorem Eq1.struct{P:Program}{d:Nat}{t:TypeId}{fields:Array Field}{a b:List Value}{r:Bool}(hu:∀w,Sem.run P (Go.underlying t) w= .ok (.struct fields) w)(hp:P.stoodInHeld t=false)(hf:FsOk P d a b fields.toList r):Eq1 P (d+1) t (.agg a.toArray) (.agg b.toArray) r:=by
 intro M K hk
 unfold Op.equalIn
 refine Sm.bind (Sm.underlying hu ?_)
 simp only
 refine Sm.bind (Sm.program ?_)
 simp only [hp,Bool.false_eq_true,if_false]
 rw [←Array.forIn_toList]
 refine Sm.bind (hf.run _ _ ?_)
 cases r
 ·exact Sm.pure hk
 ·exact Sm.pure hk
theorem Eq1.int{P:Program}{d:Nat}{t:TypeId}{x y:Int}(hu:∀w,Sem.run P (Go.underlying t) w= .ok (.int .i64) w):Eq1 P (d+1) t (.int .i64 x) (.int .i64 y) (x==y):=by
 intro M K hk
 unfold Op.equalIn
 refine Sm.bind (Sm.underlying hu ?_)
 simp only [if_true]
 exact Sm.pure hk
theorem Eq1.bool{P:Program}{d:Nat}{t:TypeId}{x y:Bool}(hu:∀w,Sem.run P (Go.underlying t) w= .ok .bool w):Eq1 P (d+1) t (.bool x) (.bool y) (x==y):=by
 intro M K hk
 unfold Op.equalIn
 refine Sm.bind (Sm.underlying hu ?_)
 exact Sm.pure hk
theorem bts_beq(x y:List UInt8):((⟨x.toArray⟩:ByteArray)==⟨y.toArray⟩)=(x==y):=by
 show(x.toArray==y.toArray)=(x==y)
 simp
theorem Eq1.str{P:Program}{d:Nat}{t:TypeId}{x y:List UInt8}(hu:∀w,Sem.run P (Go.underlying t) w= .ok .string w):Eq1 P (d+1) t (strV x) (strV y) (x==y):=by
 intro M K hk
 unfold Op.equalIn
 refine Sm.bind (Sm.underlying hu ?_)
 simp only [bts_beq]
 exact Sm.pure hk
theorem part_one{P:Program}{t:TypeId}{l:List Value}{off:Nat}{v:Value}(ha:∀w,Sem.run P (Go.isAgg t) w= .ok false w)(hv:l[off]? =some v):∀ (M:Mem) (K:Value→Mem→Prop),K v M→Sm P M (part t l.toArray off) K:=fun _ _ hk=>Sm.partOne ha hv hk
theorem part_agg{P:Program}{t:TypeId}{l out:List Value}{off n:Nat}(ha:∀w,Sem.run P (Go.isAgg t) w= .ok true w)(hz:∀w,Sem.run P (Go.sizeOf t) w= .ok n w)(hs:Sub off n l out):∀ (M:Mem) (K:Value→Mem→Prop),K (.agg out.toArray) M→Sm P M (part t l.toArray off) K:=fun _ _ hk=>Sm.partAgg ha hz hs hk
end Go.Lg
namespace Go.Lg.B
open Go Go.Conc Go.Lg Go.Proofs Go.Proofs.Tryz
section
theorem eqRc(x y:Rc):Eq1 prog 9999 65 x.val y.val (decide (x=y)):=by
 have h:=Eq1.struct (P:=prog) (d:=9998) (a:=x.cells) (b:=y.cells) runUnderlying65 Kr
  (.cons Dd (part_one isAgg3 rfl) (part_one isAgg3 rfl) (Eq1.int runUnderlying3)
   (.cons Dd (part_one isAgg3 rfl) (part_one isAgg3 rfl) (Eq1.int runUnderlying3) .nil))
 have e:(x.lo==y.lo && (x.hi==y.hi && true))=decide (x=y):=by
  cases x;cases y;simp only [Rc.mk.injEq,Bool.and_true];rw [Bool.eq_iff_iff];simp
 rwa [e] at h
theorem eqPt(x y:Pt):Eq1 prog 10000 67 x.val y.val (decide (x=y)):=by
 have h:=Eq1.struct (P:=prog) (d:=9999) (a:=x.cells) (b:=y.cells) runUnderlying67 Kr
  (.cons Dd (part_one isAgg9 rfl) (part_one isAgg9 rfl) (Eq1.str runUnderlying9)
   (.cons Dd (part_one isAgg3 rfl) (part_one isAgg3 rfl) (Eq1.int runUnderlying3)
    (.cons Dd (part_agg isAgg65 sizeOf65 (.skip (.skip Tk2))) (part_agg isAgg65 sizeOf65 (.skip (.skip Tk2))) (eqRc x.r y.r) .nil)))
 have e:(x.nm==y.nm && (x.sh==y.sh && (decide (x.r=y.r) && true)))=decide (x=y):=by
  cases x;cases y;simp only [Pt.mk.injEq,Bool.and_true];rw [Bool.eq_iff_iff];simp
 rwa [e] at h
theorem eqPc(x y:Pc):Eq1 prog 10000 79 x.val y.val (decide (x=y)):=by
 have h:=Eq1.struct (P:=prog) (d:=9999) (a:=x.cells) (b:=y.cells) runUnderlying79 Kr
  (.cons Dd (part_one isAgg9 rfl) (part_one isAgg9 rfl) (Eq1.str runUnderlying9)
   (.cons Dd (part_agg isAgg65 sizeOf65 (.skip Tk2)) (part_agg isAgg65 sizeOf65 (.skip Tk2)) (eqRc x.r y.r) .nil))
 have e:(x.nm==y.nm && (decide (x.r=y.r) && true))=decide (x=y):=by
  cases x;cases y;simp only [Pc.mk.injEq,Bool.and_true];rw [Bool.eq_iff_iff];simp
 rwa [e] at h
theorem eqTs(x y:Ts):Eq1 prog 10000 92 x.val y.val (decide (x=y)):=by
 have h:=Eq1.struct (P:=prog) (d:=9999) (a:=x.cells) (b:=y.cells) runUnderlying92 Kr
  (.cons Dd (part_one isAgg3 rfl) (part_one isAgg3 rfl) (Eq1.int runUnderlying3)
   (.cons Dd (part_one isAgg3 rfl) (part_one isAgg3 rfl) (Eq1.int runUnderlying3)
    (.cons Dd (part_one isAgg4 rfl) (part_one isAgg4 rfl) (Eq1.bool runUnderlying4) .nil)))
 have e:(x.g==y.g && (x.l==y.l && (x.held==y.held && true)))=decide (x=y):=by
  cases x;cases y;simp only [Ts.mk.injEq,Bool.and_true];rw [Bool.eq_iff_iff];simp
 rwa [e] at h
theorem take_next{α:Type}{l k:List α}{i:Nat}(h:i<l.length)(h':i<k.length)(ht:l.take i=k.take i)(e:l[i]=k[i]):l.take (i+1)=k.take (i+1):=by
 rw [List.take_succ_eq_append_getElem h,List.take_succ_eq_append_getElem h',ht,e]
theorem ne_at{α:Type}{l k:List α}{i:Nat}(h:i<l.length)(h':i<k.length)(e:¬l[i]=k[i]):l≠k:=fun hh=>by subst hh;exact e rfl
structure Bk.tiny(b:Bk):Prop where
 ps:b.ps.length≤1000
 gs:b.gs.length≤1000∧∀g∈b.gs,g.length≤1000
 cs:b.cs.length≤1000
 ts:b.ts.length≤1000
variable {main:Bool}{J:Goroutine→Mem→Prop}(hJ:Closed prog main J)
include hJ
theorem sameR_c{a b:Bk}{va vb:Value}{ro:RO}(ha:BkV ro va a)(hb:BkV ro vb b)(sa:a.tiny)(sb:b.tiny):CallP prog J (fnv 81) [va,vb] ro (.bool (decide (a=b))):=by
 obtain⟨ap,ag,ac,at',rfl,ha⟩:=ha
 obtain⟨apb,apc,rfl⟩:=ha.1.form
 obtain⟨agb,agc,rfl⟩:=ha.2.1.form
 obtain⟨acb,acc,rfl⟩:=ha.2.2.1.form
 obtain⟨atb,atc,rfl⟩:=ha.2.2.2.form
 obtain⟨bp,bg,bc,bt,rfl,hb⟩:=hb
 obtain⟨bpb,bpc,rfl⟩:=hb.1.form
 obtain⟨bgb,bgc,rfl⟩:=hb.2.1.form
 obtain⟨bcb,bcc,rfl⟩:=hb.2.2.1.form
 obtain⟨btb,btc,rfl⟩:=hb.2.2.2.form
 have no:∀ {p:Prop} [Decidable p],¬p→retVal [Value.bool false]=Value.bool (decide p):=fun {p} _ h=>by rw [decide_eq_false h];rfl
 have s1:=sa.ps
 have s2:=sa.gs.1
 have s3:=sa.cs
 have s4:=sa.ts
 refine CallP.intro hJ Kr fun c cs tail hret=>enter_X (n:=123) func81 U U (Nl U) ?_
 have C:Ctx prog main J (bf 81 .normal):=⟨hJ,by decide⟩
 by_cases e1:a.w=b.w
 ·by_cases e2:a.ps.length=b.ps.length
  ·by_cases e3:a.gs.length=b.gs.length
   ·by_cases e4:a.cs.length=b.cs.length
    ·by_cases e5:a.ts.length=b.ts.length
     ·have _:=e5
      refine Xr C U U<|R.box C U U U U fun p2=>R.box C U U U U fun p3=>Ad C U U<|Xs C<|Xr C U U<|Rf C 0 U U runUnderlying27 U sizeOf3<|Rl C U U isAgg3 V U<|Rf C 0 U U runUnderlying27 U sizeOf3<|Rl C U U isAgg3 V U<|R.int C U U U U b_neq<|R.fixv (t:=13) (v':= .bool false) U (Bv (by simp [e1])) ?_;refine Rm C U U<|Rf C 1 U U runUnderlying27 U sizeOf22<|Rl C U U isAgg22 V U<|Rn C U U runUnderlying22<|Rf C 1 U U runUnderlying27 U sizeOf22<|Rl C U U isAgg22 V U<|Rn C U U runUnderlying22<|R.int C U U U U b_neq<|R.fixv (t:=21) (v':= .bool false) U (Bv (by simp [e2])) ?_;refine R.pickF C U U U U<|Rm C U U<|Rf C 2 U U runUnderlying27 U sizeOf23<|Rl C U U isAgg23 V U<|Rn C U U runUnderlying23<|Rf C 2 U U runUnderlying27 U sizeOf23<|Rl C U U isAgg23 V U<|Rn C U U runUnderlying23<|R.int C U U U U b_neq<|R.fixv (t:=30) (v':= .bool false) U (Bv (by simp [e3])) ?_;refine R.pickF C U U U U<|Rm C U U<|Rf C 3 U U runUnderlying27 U sizeOf24<|Rl C U U isAgg24 V U<|Rn C U U runUnderlying24<|Rf C 3 U U runUnderlying27 U sizeOf24<|Rl C U U isAgg24 V U<|Rn C U U runUnderlying24<|R.int C U U U U b_neq<|R.fixv (t:=39) (v':= .bool false) U (Bv (by simp [e4])) ?_;refine R.pickF C U U U U<|Rm C U U<|Rf C 4 U U runUnderlying27 U sizeOf25<|Rl C U U isAgg25 V U<|Rn C U U runUnderlying25<|Rf C 4 U U runUnderlying27 U sizeOf25<|Rl C U U isAgg25 V U<|Rn C U U runUnderlying25<|R.int C U U U U b_neq<|R.fixv (t:=48) (v':= .bool false) U (Bv (by simp [e5])) ?_;refine R.pickF C U U U U<|R.done C<|X.cond C.1 U (fun h=>nomatch h) (fun _=>?_)
      refine X.skip C.1<|Xs C<|Xr C U U<|Ad C U U<|X.block C.1<|X.loopI (ι:=Nat) C.1 (fun i=>i≤a.ps.length∧a.ps.take i=b.ps.take i) (fun i=> [(2, .pointer (some ⟨p2,0,none⟩)),(3, .pointer (some ⟨p3,0,none⟩)),(5, .int .i64 (i:Int))])
       (fun _=>⟨ro,(p3, .cells [.int .i64 b.w, .slice bpb b.ps.length bpc, .slice bgb b.gs.length bgc, .slice bcb b.cs.length bcc, .slice btb b.ts.length btc].toArray 27 (0,0))::(p2, .cells [.int .i64 a.w, .slice apb a.ps.length apc, .slice agb a.gs.length agc, .slice acb a.cs.length acc, .slice atb a.ts.length atc].toArray 27 (0,0))::tail⟩) (fun i=>a.ps.length-i) 0 ⟨Nat.zero_le _,rfl⟩ rfl ⟨U,U,U,trivial⟩ fun i hi hnext=>?_
      obtain⟨hi,hq⟩:=hi
      refine Xs C<|Xr C U U<|Rm C U U<|Rf C 1 U U runUnderlying27 U sizeOf22<|Rl C U U isAgg22 V U<|Rn C U U runUnderlying22<|R.int C U U U U b_lss<|R.done C<|Xk C U (fun hlt=>?_) (fun hlt=>?_)
      ·have hi':i<a.ps.length:=O
       have hj':i<b.ps.length:=O
       obtain⟨p,off,cap,l,t,fq,hsl,hrop,hsub⟩:=ha.1.at Pt.len O
       cases hsl
       obtain⟨q,off2,cap2,l2,t2,fq2,hsl2,hrop2,hsub2⟩:=hb.1.at Pt.len O
       cases hsl2
       have hs1:=hsub i hi'
       have hs2:=hsub2 i hj'
       refine X.skip C.1<|Xs C<|X.block C.1<|Xs C<|Xd C fun hok=>Df (off':=1) C 0 hok U U U runUnderlying27 U sizeOf22 U<|D1 C 1 hok U U isAgg22 V U<|Dm C 2 hok U U U<|Dx C 3 hok U U U runUnderlying22 sizeOf67<|Dl 4 hok (fun _ _ A h=>R.loadAggRo C U (A.w U U) (A.x U U) isAgg67 sizeOf67 hrop hs1 h)<|Df (off':=1) C 5 hok U U U runUnderlying27 U sizeOf22 U<|D1 C 6 hok U U isAgg22 V U<|Dm C 7 hok U U U<|Dx C 8 hok U U U runUnderlying22 sizeOf67<|Dl 9 hok (fun _ _ A h=>R.loadAggRo C U (A.w U U) (A.x U U) isAgg67 sizeOf67 hrop2 hs2 h)<|Dp 10 hok (fun _ _ _ A h=>R.neEq C U (A.w U U) (A.x U U) (A.x U U) (eqPt _ _) Kr h)<|D.done C hok Kr<|X.cond C.1 U (fun hne=>?_) (fun hne=>?_)
       ·have hne:¬a.ps[i]=b.ps[i]:=by simpa using hne
        refine Xr C U U<|Ad C U U<|Xt C func81<|Hp hret ?_
        exact no fun h=>ne_at hi' hj' hne (congrArg Bk.ps h)
       ·have hne:a.ps[i]=b.ps[i]:=by simpa using hne
        refine X.skip C.1<|X.inBlock C.1<|X.region C U U<|Rm C U U<|Ra C U U U<|Ad C U U<|X.weaken ?_ (hnext (i+1) ⟨hi',take_next hi' hj' hq hne⟩ O)
        exact⟨rfl,rfl,by simp [look],trivial⟩
      ·obtain rfl:i=a.ps.length:=by omega
       have f2:a.ps=b.ps:=by rwa [List.take_length,e2,List.take_length] at hq
       refine X.exit C.1 U<|Xs C<|Xr C U U<|Ad C U U<|X.block C.1<|X.loopI (ι:=Nat) C.1 (fun i=>i≤a.gs.length∧a.gs.take i=b.gs.take i) (fun i=> [(2, .pointer (some ⟨p2,0,none⟩)),(3, .pointer (some ⟨p3,0,none⟩)),(6, .int .i64 (i:Int))])
        (fun _=>⟨ro,(p3, .cells [.int .i64 b.w, .slice bpb b.ps.length bpc, .slice bgb b.gs.length bgc, .slice bcb b.cs.length bcc, .slice btb b.ts.length btc].toArray 27 (0,0))::(p2, .cells [.int .i64 a.w, .slice apb a.ps.length apc, .slice agb a.gs.length agc, .slice acb a.cs.length acc, .slice atb a.ts.length atc].toArray 27 (0,0))::tail⟩) (fun i=>a.gs.length-i) 0 ⟨Nat.zero_le _,rfl⟩ rfl ⟨U,U,U,trivial⟩ fun i hi hnext=>?_
       obtain⟨hi,hq⟩:=hi
       refine Xs C<|Xr C U U<|Rm C U U<|Rf C 2 U U runUnderlying27 U sizeOf23<|Rl C U U isAgg23 V U<|Rn C U U runUnderlying23<|R.int C U U U U b_lss<|R.done C<|Xk C U (fun hlt2=>?_) (fun hlt2=>?_)
       ·have hi':i<a.gs.length:=O
        have hj':i<b.gs.length:=O
        obtain⟨p,off,cap,l,t,fq,hsl,hrop,hsub⟩:=ha.2.1.at O
        cases hsl
        obtain⟨q,off2,cap2,l2,t2,fq2,hsl2,hrop2,hsub2⟩:=hb.2.1.at O
        cases hsl2
        obtain⟨qb,qc,hld,hqc,hq1⟩:=hsub i hi'
        obtain⟨qb2,qc2,hld2,hqc2,hq2⟩:=hsub2 i hj'
        have hln1:=sa.gs.2 _ (List.getElem_mem hi')
        have hln2:=sb.gs.2 _ (List.getElem_mem hj')
        refine X.skip C.1<|Xs C<|X.block C.1<|Xs C<|Xd C fun hok=>Df (off':=2) C 0 hok U U U runUnderlying27 U sizeOf23 U<|D1 C 1 hok U U isAgg23 V U<|Dm C 2 hok U U U<|Dx C 3 hok U U U runUnderlying23 sizeOf28<|D2 C 4 hok U U isAgg28 hrop hld<|Df (off':=2) C 5 hok U U U runUnderlying27 U sizeOf23 U<|D1 C 6 hok U U isAgg23 V U<|Dm C 7 hok U U U<|Dx C 8 hok U U U runUnderlying23 sizeOf28<|D2 C 9 hok U U isAgg28 hrop2 hld2<|De 10 (some 85) [false,false,false,false] hok (fun _ _ A hk=>?_)
        refine R.callP C U (A.w U U) (A.x U U) (A.s U U) (sameInts_c hJ hq1 hq2 O O) (hk _ _ ⟨QFs.nil, ?_⟩)
        refine Dp 11 hok (fun _ _ _ A h=>R.not C U (A.w U U) (A.x U U) h)<|D.done C hok Kr<|X.cond C.1 U (fun hne=>?_) (fun hne=>?_)
        ·have hne:¬a.gs[i]=b.gs[i]:=by simpa [sameInts_iff] using hne
         refine Xr C U U<|Ad C U U<|Xt C func81<|Hp hret ?_
         exact no fun h=>ne_at hi' hj' hne (congrArg Bk.gs h)
        ·have hne:a.gs[i]=b.gs[i]:=by simpa [sameInts_iff] using hne
         refine X.skip C.1<|X.inBlock C.1<|X.region C U U<|Rm C U U<|Ra C U U U<|Ad C U U<|X.weaken ?_ (hnext (i+1) ⟨hi',take_next hi' hj' hq hne⟩ O)
         exact⟨rfl,rfl,by simp [look],trivial⟩
       ·obtain rfl:i=a.gs.length:=by omega
        have f3:a.gs=b.gs:=by rwa [List.take_length,e3,List.take_length] at hq
        refine X.exit C.1 U<|Xs C<|Xr C U U<|Ad C U U<|X.block C.1<|X.loopI (ι:=Nat) C.1 (fun i=>i≤a.cs.length∧a.cs.take i=b.cs.take i) (fun i=> [(2, .pointer (some ⟨p2,0,none⟩)),(3, .pointer (some ⟨p3,0,none⟩)),(7, .int .i64 (i:Int))])
         (fun _=>⟨ro,(p3, .cells [.int .i64 b.w, .slice bpb b.ps.length bpc, .slice bgb b.gs.length bgc, .slice bcb b.cs.length bcc, .slice btb b.ts.length btc].toArray 27 (0,0))::(p2, .cells [.int .i64 a.w, .slice apb a.ps.length apc, .slice agb a.gs.length agc, .slice acb a.cs.length acc, .slice atb a.ts.length atc].toArray 27 (0,0))::tail⟩) (fun i=>a.cs.length-i) 0 ⟨Nat.zero_le _,rfl⟩ rfl ⟨U,U,U,trivial⟩ fun i hi hnext=>?_
        obtain⟨hi,hq⟩:=hi
        refine Xs C<|Xr C U U<|Rm C U U<|Rf C 3 U U runUnderlying27 U sizeOf24<|Rl C U U isAgg24 V U<|Rn C U U runUnderlying24<|R.int C U U U U b_lss<|R.done C<|Xk C U (fun hlt3=>?_) (fun hlt3=>?_)
        ·have hi':i<a.cs.length:=O
         have hj':i<b.cs.length:=O
         obtain⟨p,off,cap,l,t,fq,hsl,hrop,hsub⟩:=ha.2.2.1.at Pc.len O
         cases hsl
         obtain⟨q,off2,cap2,l2,t2,fq2,hsl2,hrop2,hsub2⟩:=hb.2.2.1.at Pc.len O
         cases hsl2
         have hs1:=hsub i hi'
         have hs2:=hsub2 i hj'
         refine X.skip C.1<|Xs C<|X.block C.1<|Xs C<|Xd C fun hok=>Df (off':=3) C 0 hok U U U runUnderlying27 U sizeOf24 U<|D1 C 1 hok U U isAgg24 V U<|Dm C 2 hok U U U<|Dx C 3 hok U U U runUnderlying24 sizeOf79<|Dl 4 hok (fun _ _ A h=>R.loadAggRo C U (A.w U U) (A.x U U) isAgg79 sizeOf79 hrop hs1 h)<|Df (off':=3) C 5 hok U U U runUnderlying27 U sizeOf24 U<|D1 C 6 hok U U isAgg24 V U<|Dm C 7 hok U U U<|Dx C 8 hok U U U runUnderlying24 sizeOf79<|Dl 9 hok (fun _ _ A h=>R.loadAggRo C U (A.w U U) (A.x U U) isAgg79 sizeOf79 hrop2 hs2 h)<|Dp 10 hok (fun _ _ _ A h=>R.neEq C U (A.w U U) (A.x U U) (A.x U U) (eqPc _ _) Kr h)<|D.done C hok Kr<|X.cond C.1 U (fun hne=>?_) (fun hne=>?_)
         ·have hne:¬a.cs[i]=b.cs[i]:=by simpa using hne
          refine Xr C U U<|Ad C U U<|Xt C func81<|Hp hret ?_
          exact no fun h=>ne_at hi' hj' hne (congrArg Bk.cs h)
         ·have hne:a.cs[i]=b.cs[i]:=by simpa using hne
          refine X.skip C.1<|X.inBlock C.1<|X.region C U U<|Rm C U U<|Ra C U U U<|Ad C U U<|X.weaken ?_ (hnext (i+1) ⟨hi',take_next hi' hj' hq hne⟩ O)
          exact⟨rfl,rfl,by simp [look],trivial⟩
        ·obtain rfl:i=a.cs.length:=by omega
         have f4:a.cs=b.cs:=by rwa [List.take_length,e4,List.take_length] at hq
         refine X.exit C.1 U<|Xs C<|Xr C U U<|Ad C U U<|X.block C.1<|X.loopI (ι:=Nat) C.1 (fun i=>i≤a.ts.length∧a.ts.take i=b.ts.take i) (fun i=> [(2, .pointer (some ⟨p2,0,none⟩)),(3, .pointer (some ⟨p3,0,none⟩)),(8, .int .i64 (i:Int))])
          (fun _=>⟨ro,(p3, .cells [.int .i64 b.w, .slice bpb b.ps.length bpc, .slice bgb b.gs.length bgc, .slice bcb b.cs.length bcc, .slice btb b.ts.length btc].toArray 27 (0,0))::(p2, .cells [.int .i64 a.w, .slice apb a.ps.length apc, .slice agb a.gs.length agc, .slice acb a.cs.length acc, .slice atb a.ts.length atc].toArray 27 (0,0))::tail⟩) (fun i=>a.ts.length-i) 0 ⟨Nat.zero_le _,rfl⟩ rfl ⟨U,U,U,trivial⟩ fun i hi hnext=>?_
         obtain⟨hi,hq⟩:=hi
         refine Xs C<|Xr C U U<|Rm C U U<|Rf C 4 U U runUnderlying27 U sizeOf25<|Rl C U U isAgg25 V U<|Rn C U U runUnderlying25<|R.int C U U U U b_lss<|R.done C<|Xk C U (fun hlt4=>?_) (fun hlt4=>?_)
         ·have hi':i<a.ts.length:=O
          have hj':i<b.ts.length:=O
          obtain⟨p,off,cap,l,t,fq,hsl,hrop,hsub⟩:=ha.2.2.2.at Ts.len O
          cases hsl
          obtain⟨q,off2,cap2,l2,t2,fq2,hsl2,hrop2,hsub2⟩:=hb.2.2.2.at Ts.len O
          cases hsl2
          have hs1:=hsub i hi'
          have hs2:=hsub2 i hj'
          refine X.skip C.1<|Xs C<|X.block C.1<|Xs C<|Xd C fun hok=>Df (off':=4) C 0 hok U U U runUnderlying27 U sizeOf25 U<|D1 C 1 hok U U isAgg25 V U<|Dm C 2 hok U U U<|Dx C 3 hok U U U runUnderlying25 sizeOf92<|Dl 4 hok (fun _ _ A h=>R.loadAggRo C U (A.w U U) (A.x U U) isAgg92 sizeOf92 hrop hs1 h)<|Df (off':=4) C 5 hok U U U runUnderlying27 U sizeOf25 U<|D1 C 6 hok U U isAgg25 V U<|Dm C 7 hok U U U<|Dx C 8 hok U U U runUnderlying25 sizeOf92<|Dl 9 hok (fun _ _ A h=>R.loadAggRo C U (A.w U U) (A.x U U) isAgg92 sizeOf92 hrop2 hs2 h)<|Dp 10 hok (fun _ _ _ A h=>R.neEq C U (A.w U U) (A.x U U) (A.x U U) (eqTs _ _) Kr h)<|D.done C hok Kr<|X.cond C.1 U (fun hne=>?_) (fun hne=>?_)
          ·have hne:¬a.ts[i]=b.ts[i]:=by simpa using hne
           refine Xr C U U<|Ad C U U<|Xt C func81<|Hp hret ?_
           exact no fun h=>ne_at hi' hj' hne (congrArg Bk.ts h)
          ·have hne:a.ts[i]=b.ts[i]:=by simpa using hne
           refine X.skip C.1<|X.inBlock C.1<|X.region C U U<|Rm C U U<|Ra C U U U<|Ad C U U<|X.weaken ?_ (hnext (i+1) ⟨hi',take_next hi' hj' hq hne⟩ O)
           exact⟨rfl,rfl,by simp [look],trivial⟩
         ·obtain rfl:i=a.ts.length:=by omega
          have f5:a.ts=b.ts:=by rwa [List.take_length,e5,List.take_length] at hq
          have f:a=b:=by cases a;cases b;simp only [Bk.mk.injEq];exact⟨e1,f2,f3,f4,f5⟩
          refine X.exit C.1 U<|Xr C U U<|Ad C U U<|Xt C func81<|Hp hret ?_
          rw [decide_eq_true f];rfl
     ·have _:=e5
      refine Xr C U U<|R.box C U U U U fun p2=>R.box C U U U U fun p3=>Ad C U U<|Xs C<|Xr C U U<|Rf C 0 U U runUnderlying27 U sizeOf3<|Rl C U U isAgg3 V U<|Rf C 0 U U runUnderlying27 U sizeOf3<|Rl C U U isAgg3 V U<|R.int C U U U U b_neq<|R.fixv (t:=13) (v':= .bool false) U (Bv (by simp [e1])) ?_;refine Rm C U U<|Rf C 1 U U runUnderlying27 U sizeOf22<|Rl C U U isAgg22 V U<|Rn C U U runUnderlying22<|Rf C 1 U U runUnderlying27 U sizeOf22<|Rl C U U isAgg22 V U<|Rn C U U runUnderlying22<|R.int C U U U U b_neq<|R.fixv (t:=21) (v':= .bool false) U (Bv (by simp [e2])) ?_;refine R.pickF C U U U U<|Rm C U U<|Rf C 2 U U runUnderlying27 U sizeOf23<|Rl C U U isAgg23 V U<|Rn C U U runUnderlying23<|Rf C 2 U U runUnderlying27 U sizeOf23<|Rl C U U isAgg23 V U<|Rn C U U runUnderlying23<|R.int C U U U U b_neq<|R.fixv (t:=30) (v':= .bool false) U (Bv (by simp [e3])) ?_;refine R.pickF C U U U U<|Rm C U U<|Rf C 3 U U runUnderlying27 U sizeOf24<|Rl C U U isAgg24 V U<|Rn C U U runUnderlying24<|Rf C 3 U U runUnderlying27 U sizeOf24<|Rl C U U isAgg24 V U<|Rn C U U runUnderlying24<|R.int C U U U U b_neq<|R.fixv (t:=39) (v':= .bool false) U (Bv (by simp [e4])) ?_;refine R.pickF C U U U U<|Rm C U U<|Rf C 4 U U runUnderlying27 U sizeOf25<|Rl C U U isAgg25 V U<|Rn C U U runUnderlying25<|Rf C 4 U U runUnderlying27 U sizeOf25<|Rl C U U isAgg25 V U<|Rn C U U runUnderlying25<|R.int C U U U U b_neq<|R.fixv (t:=48) (v':= .bool true) U (Bv (by simp;omega)) ?_;refine R.pickF C U U U U<|R.done C<|X.cond C.1 U (fun _=>?_) (fun h=>nomatch h)
      refine Xr C U U<|Ad C U U<|Xt C func81<|Hp hret ?_
      exact no fun h=>e5 (by rw [h])
    ·have _:=e4
     refine Xr C U U<|R.box C U U U U fun p2=>R.box C U U U U fun p3=>Ad C U U<|Xs C<|Xr C U U<|Rf C 0 U U runUnderlying27 U sizeOf3<|Rl C U U isAgg3 V U<|Rf C 0 U U runUnderlying27 U sizeOf3<|Rl C U U isAgg3 V U<|R.int C U U U U b_neq<|R.fixv (t:=13) (v':= .bool false) U (Bv (by simp [e1])) ?_;refine Rm C U U<|Rf C 1 U U runUnderlying27 U sizeOf22<|Rl C U U isAgg22 V U<|Rn C U U runUnderlying22<|Rf C 1 U U runUnderlying27 U sizeOf22<|Rl C U U isAgg22 V U<|Rn C U U runUnderlying22<|R.int C U U U U b_neq<|R.fixv (t:=21) (v':= .bool false) U (Bv (by simp [e2])) ?_;refine R.pickF C U U U U<|Rm C U U<|Rf C 2 U U runUnderlying27 U sizeOf23<|Rl C U U isAgg23 V U<|Rn C U U runUnderlying23<|Rf C 2 U U runUnderlying27 U sizeOf23<|Rl C U U isAgg23 V U<|Rn C U U runUnderlying23<|R.int C U U U U b_neq<|R.fixv (t:=30) (v':= .bool false) U (Bv (by simp [e3])) ?_;refine R.pickF C U U U U<|Rm C U U<|Rf C 3 U U runUnderlying27 U sizeOf24<|Rl C U U isAgg24 V U<|Rn C U U runUnderlying24<|Rf C 3 U U runUnderlying27 U sizeOf24<|Rl C U U isAgg24 V U<|Rn C U U runUnderlying24<|R.int C U U U U b_neq<|R.fixv (t:=39) (v':= .bool true) U (Bv (by simp;omega)) ?_;refine R.pickF C U U U U<|Rm C U U<|R.pass C U U<|R.pass C U U<|R.pass C U U<|R.pass C U U<|R.pass C U U<|R.pass C U U<|R.pass C U U<|R.pickT C U U U U<|R.done C<|X.cond C.1 U (fun _=>?_) (fun h=>nomatch h)
     refine Xr C U U<|Ad C U U<|Xt C func81<|Hp hret ?_
     exact no fun h=>e4 (by rw [h])
   ·have _:=e3
    refine Xr C U U<|R.box C U U U U fun p2=>R.box C U U U U fun p3=>Ad C U U<|Xs C<|Xr C U U<|Rf C 0 U U runUnderlying27 U sizeOf3<|Rl C U U isAgg3 V U<|Rf C 0 U U runUnderlying27 U sizeOf3<|Rl C U U isAgg3 V U<|R.int C U U U U b_neq<|R.fixv (t:=13) (v':= .bool false) U (Bv (by simp [e1])) ?_;refine Rm C U U<|Rf C 1 U U runUnderlying27 U sizeOf22<|Rl C U U isAgg22 V U<|Rn C U U runUnderlying22<|Rf C 1 U U runUnderlying27 U sizeOf22<|Rl C U U isAgg22 V U<|Rn C U U runUnderlying22<|R.int C U U U U b_neq<|R.fixv (t:=21) (v':= .bool false) U (Bv (by simp [e2])) ?_;refine R.pickF C U U U U<|Rm C U U<|Rf C 2 U U runUnderlying27 U sizeOf23<|Rl C U U isAgg23 V U<|Rn C U U runUnderlying23<|Rf C 2 U U runUnderlying27 U sizeOf23<|Rl C U U isAgg23 V U<|Rn C U U runUnderlying23<|R.int C U U U U b_neq<|R.fixv (t:=30) (v':= .bool true) U (Bv (by simp;omega)) ?_;refine R.pickF C U U U U<|Rm C U U<|R.pass C U U<|R.pass C U U<|R.pass C U U<|R.pass C U U<|R.pass C U U<|R.pass C U U<|R.pass C U U<|R.pickT C U U U U<|Rm C U U<|R.pass C U U<|R.pass C U U<|R.pass C U U<|R.pass C U U<|R.pass C U U<|R.pass C U U<|R.pass C U U<|R.pickT C U U U U<|R.done C<|X.cond C.1 U (fun _=>?_) (fun h=>nomatch h)
    refine Xr C U U<|Ad C U U<|Xt C func81<|Hp hret ?_
    exact no fun h=>e3 (by rw [h])
  ·have _:=e2
   refine Xr C U U<|R.box C U U U U fun p2=>R.box C U U U U fun p3=>Ad C U U<|Xs C<|Xr C U U<|Rf C 0 U U runUnderlying27 U sizeOf3<|Rl C U U isAgg3 V U<|Rf C 0 U U runUnderlying27 U sizeOf3<|Rl C U U isAgg3 V U<|R.int C U U U U b_neq<|R.fixv (t:=13) (v':= .bool false) U (Bv (by simp [e1])) ?_;refine Rm C U U<|Rf C 1 U U runUnderlying27 U sizeOf22<|Rl C U U isAgg22 V U<|Rn C U U runUnderlying22<|Rf C 1 U U runUnderlying27 U sizeOf22<|Rl C U U isAgg22 V U<|Rn C U U runUnderlying22<|R.int C U U U U b_neq<|R.fixv (t:=21) (v':= .bool true) U (Bv (by simp;omega)) ?_;refine R.pickF C U U U U<|Rm C U U<|R.pass C U U<|R.pass C U U<|R.pass C U U<|R.pass C U U<|R.pass C U U<|R.pass C U U<|R.pass C U U<|R.pickT C U U U U<|Rm C U U<|R.pass C U U<|R.pass C U U<|R.pass C U U<|R.pass C U U<|R.pass C U U<|R.pass C U U<|R.pass C U U<|R.pickT C U U U U<|Rm C U U<|R.pass C U U<|R.pass C U U<|R.pass C U U<|R.pass C U U<|R.pass C U U<|R.pass C U U<|R.pass C U U<|R.pickT C U U U U<|R.done C<|X.cond C.1 U (fun _=>?_) (fun h=>nomatch h)
   refine Xr C U U<|Ad C U U<|Xt C func81<|Hp hret ?_
   exact no fun h=>e2 (by rw [h])
 ·have _:=e1
  refine Xr C U U<|R.box C U U U U fun p2=>R.box C U U U U fun p3=>Ad C U U<|Xs C<|Xr C U U<|Rf C 0 U U runUnderlying27 U sizeOf3<|Rl C U U isAgg3 V U<|Rf C 0 U U runUnderlying27 U sizeOf3<|Rl C U U isAgg3 V U<|R.int C U U U U b_neq<|R.fixv (t:=13) (v':= .bool true) U (Bv (by simp [e1])) ?_;refine Rm C U U<|R.pass C U U<|R.pass C U U<|R.pass C U U<|R.pass C U U<|R.pass C U U<|R.pass C U U<|R.pass C U U<|R.pickT C U U U U<|Rm C U U<|R.pass C U U<|R.pass C U U<|R.pass C U U<|R.pass C U U<|R.pass C U U<|R.pass C U U<|R.pass C U U<|R.pickT C U U U U<|Rm C U U<|R.pass C U U<|R.pass C U U<|R.pass C U U<|R.pass C U U<|R.pass C U U<|R.pass C U U<|R.pass C U U<|R.pickT C U U U U<|Rm C U U<|R.pass C U U<|R.pass C U U<|R.pass C U U<|R.pass C U U<|R.pass C U U<|R.pass C U U<|R.pass C U U<|R.pickT C U U U U<|R.done C<|X.cond C.1 U (fun _=>?_) (fun h=>nomatch h)
  refine Xr C U U<|Ad C U U<|Xt C func81<|Hp hret ?_
  exact no fun h=>e1 (by rw [h])
end
section
theorem ones_cs(xs:List Pc):ones (xs.flatMap Pc.cells)=true:=ones_flat (fun _=>rfl) xs
section
variable {main:Bool}{J:Goroutine→Mem→Prop}(hJ:Closed prog main J)
include hJ
theorem overlapR_c(x y:Rc)(ro:RO):CallP prog J (fnv 92) [x.val,y.val] ro (x.meet y).val:=by
 refine CallP.intro hJ Kr fun c cs tail hret=>enter_X (n:=16) func92 U U (Nl U) ?_
 have C:Ctx prog main J (bf 92 .normal):=⟨hJ,by decide⟩
 refine Xr C U U<|R.box C U U U U fun p2=>R.box C U U U U fun p3=>R.alloc C U U zeroValue65 U fun p4=>R.done C<|Xr C U U<|Rf C 0 U U runUnderlying65 U sizeOf3<|Rl C U U isAgg3 V U<|Rf C 0 U U runUnderlying65 U sizeOf3<|Rl C U U isAgg3 V U<|R.max2 C U U U U<|Rf C 1 U U runUnderlying65 U sizeOf3<|Rl C U U isAgg3 V U<|Rf C 1 U U runUnderlying65 U sizeOf3<|Rl C U U isAgg3 V U<|R.min2 C U U U U ?_;refine R.build C U U U zeroValue65 U runUnderlying65 Kr (Fills.part U U sizeOf3 U (.here .nil) (Fills.part U U sizeOf3 U (.skip (.here .nil)) .nil))<|R.store C U U U U sizeOf65 U U U V Ph2<|R.done C<|X.ret C U U func92 U (by exact(.agg U isAgg65 sizeOf65 V Tk2 .nil))<|Hp hret ?_
 rfl
theorem weighedR_c{b:Bk}{v:Value}{ro:RO}(hv:BkV ro v b)(hn:b.cs.length≤1000){i:Int}(hi:0≤i∧i<b.cs.length)(r:Rc):CallR prog J (fnv 77) [v, .int .i64 i,r.val] ro (fun w ro'=>BkV ro' w (b.weighed i.toNat r)):=by
 obtain⟨vp,vg,vc,vt,rfl,hv⟩:=hv
 obtain⟨pb,pcap,rfl⟩:=hv.1.form
 obtain⟨gb,gcap,rfl⟩:=hv.2.1.form
 obtain⟨cb,ccap,rfl⟩:=hv.2.2.1.form
 obtain⟨tb,tcap,rfl⟩:=hv.2.2.2.form
 have hil:i.toNat<b.cs.length:=O
 have hfl:=flatMap_len Pc.len b.cs
 refine CallR.intro hJ Kr fun c cs tail hret=>enter_X (n:=19) func77 U U (Nl U) ?_
 have C:Ctx prog main J (bf 77 .normal):=⟨hJ,by decide⟩
 refine Xr C U U<|R.box C U U U U fun p3=>R.box C U U U U fun p5=>R.alloc C U U zeroValue27 U fun p6=>R.done C<|Xr C U U<|R.buildSlice C (vs:=_) U U (show pvals _ _=some (numbered 0 []) from rfl) U runUnderlying24 sizeOf79 zeroValue79 Dd (.nil) fun p7=>Rf C 3 U U runUnderlying27 U sizeOf24<|Rl C U U isAgg24 V U<|R.append (kk:=3) C U U U U runUnderlying24 runUnderlying24 (fun _=>nofun) (show prog.info? 79=some Tryz.t79 by kernel_rfl) U U U Dd Dd (Buf.blk (cells:= []) (spare:= []) (len:=0) (cap:=0) U U (Nat.le_refl _)) (hv.2.2.1.rd Pc.len) (ones_cs b.cs) (by simp only [List.length_nil];omega) fun v' own' hb'=>Rf C 3 U U runUnderlying27 U sizeOf24 ?_
 obtain⟨own1,rfl,hb1⟩:=hb'.unapp (tail:= [])
 rw [List.nil_append] at hb1
 obtain⟨p9,cap9,sp9,rfl,hcap9,rfl⟩:=blk_of Pc.len Dd hb1 (by intro h;rw [h] at hil;exact absurd hil (Nat.not_lt_zero _))
 refine R.store C U U U U sizeOf24 U U U V (.skip (.skip (.skip (.here .nil)))) ?_
 have hmf:=modify_flat (enc:=Pc.cells) (k:=3) Pc.len (fun p=>{p with r:=r}) b.cs i.toNat sp9 1 [.int .i64 r.lo, .int .i64 r.hi] hil (fun x _=> .skip Ph2)
 have hml:(b.cs.modify i.toNat fun p=>{p with r:=r}).length=b.cs.length:=by simp
 have eo:0+i.toNat*3+1=i.toNat*3+1:=O
 rw [←eo] at hmf
 refine R.done C<|Xr C U U<|Rf C 3 U U runUnderlying27 U sizeOf24<|Rl C U U isAgg24 V U<|Rm C U U<|R5 C U U isAgg65 sizeOf65 V Tk2<|Rx C U U U runUnderlying24 sizeOf79<|R.fieldAddr C U U U runUnderlying79 U sizeOf65 U<|R.store C U U U U sizeOf65 U U U V hmf<|R.done C<|Xs C<|X.persist C.1 fun ro4 hl4 h9=>?_
 have hls:Ls Pc.cells 3 ro4 (.slice (some ⟨p9,0,none⟩) b.cs.length cap9) (b.cs.modify i.toNat fun p=>{p with r:=r}):=⟨_,_,by rw [hml], .inr ⟨p9,0,_,_,_,rfl,h9,by rw [←flatMap_len Pc.len];exact Sub.front _ _⟩⟩
 have hv4:=hv.mono hl4
 refine X.region C U U<|R5 C U U isAgg27 sizeOf27 V Tk5<|R.store C U U U U sizeOf27 U U U V Ph5<|R.done C<|X.ret C U U func77 U (by exact(.agg U isAgg27 sizeOf27 V Tk5 .nil))<|Hr hret hl4 ?_
 exact⟨_,_,_,_,rfl,hv4.1,hv4.2.1,hls,hv4.2.2.2⟩
end
end
section
theorem getLastD_snoc(l:List Int)(x:Int):(l++ [x]).getLastD 0=x:=by simp [List.getLastD_eq_getLast?]
variable {main:Bool}{J:Goroutine→Mem→Prop}(hJ:Closed prog main J)
include hJ
theorem behindR_c{n s:Int}(hn:0≤n∧n≤99)(hs:0≤s∧s≤4)(ro:RO):CallP prog J (fnv 171) [.int .i64 n, .int .i64 s] ro (.int .i64 (behind n s)):=by
 have hm:=mul_bd hn.1 hn.2 hs.1 hs.2
 refine CallP.intro hJ Kr fun c cs tail hret=>enter_X (n:=18) func171 U U (Nl U) ?_
 have C:Ctx prog main J (bf 171 .normal):=⟨hJ,by decide⟩
 refine Xr C U U<|Ad C U U<|Xr C U U<|Rm C U U<|Ra C U U U<|R.int C U U U U (b_mul O O)<|Ad C U U<|Xr C U U<|Rm C U U<|Rm C U U<|Ra C U U U<|R.int C U U U U (b_mul O O)<|Rm C U U<|Ra C U U U<|R.int C U U U U (b_sub O O)<|Rm C U U<|R.int C U U U U (b_quoP O O O)<|Ad C U U<|Xt C func171<|Hp hret ?_
 rfl
theorem pullsOfR_c{b:Bk}{v:Value}{ro:RO}(hv:BkV ro v b)(hb:b.good){g l:Int}(hg:0≤g∧g<b.gs.length)(hl:0≤l∧l≤99):CallR prog J (fnv 102) [v, .int .i64 g, .int .i64 l] ro (fun w ro'=>LsI ro' w (pulls b g l)):=by
 obtain⟨vp,vg,vc,vt,rfl,hp,hgs,hc,ht⟩:=hv
 obtain⟨pb,pc,rfl⟩:=hp.form
 obtain⟨cb,cc,rfl⟩:=hc.form
 obtain⟨tb,tc,rfl⟩:=ht.form
 obtain⟨pp,po,pcap,pl,ptt,pfq,hpe,hpro,hpsub⟩:=hp.at Pt.len (by have:=hb.np;omega)
 cases hpe
 obtain⟨gp,go,gcap,gl,gt,gfq,rfl,hgro,hgsub⟩:=hgs.at O
 obtain⟨qb,qc,hqat,hqcap,hq⟩:=hgsub g.toNat O
 have hgear:b.gs[g.toNat]' O=b.gear g:=by simp [Bk.gear,List.getD_eq_getElem?_getD,show g.toNat<b.gs.length by omega]
 rw [hgear] at hqat hqcap hq
 have hgn:=hb.gear hg.1 hg.2
 have hgl:=hb.gearLen hg.1 hg.2
 have hpl:pulls b g l=l::pullsGo b l (b.gear g):=rfl
 rw [hpl]
 generalize b.gear g=q at hqat hqcap hq hgn hgl
 refine CallR.intro hJ Kr fun c cs tail hret=>enter_X (n:=39) func102 U U (Nl U) ?_
 have C:Ctx prog main J (bf 102 .normal):=⟨hJ,by decide⟩
 refine Xr C U U<|R.box C U U U U fun p3=>Ad C U U<|Xr C U U<|Rm C U U<|R.buildSlice C (vs:=_) U U (show pvals _ _=some (numbered 0 [_]) from rfl) U runUnderlying28 sizeOf3 zeroValue3 Dd (Cat.one U U) fun p11=>Ad C U U<|Xr C U U<|Rf C 2 U U runUnderlying27 U sizeOf23<|Rl C U U isAgg23 V U<|Rm C U U<|Rx C U U U runUnderlying23 sizeOf28<|R.loadOneRo C U U U isAgg28 hgro hqat<|Ad C U U<|Xs C<|Xr C U U<|Ad C U U<|X.block C.1<|X.loopI (ι:=Nat×Value×List (Nat×Obj)) C.1 (fun s=>s.1≤q.length∧Buf 3 1 ((p3, .cells [.int .i64 b.w, .slice (some ⟨pp,po,none⟩) b.ps.length pc, .slice (some ⟨gp,go,none⟩) b.gs.length gcap, .slice cb b.cs.length cc, .slice tb b.ts.length tc].toArray 27 (0,0))::tail) s.2.1 ((l::pullsGo b l (q.take s.1)).flatMap ic) s.2.2)
  (fun s=> [(2, .int .i64 ((l::pullsGo b l (q.take s.1)).getLastD 0)),(7,s.2.1),(8, .slice qb q.length qc),(9, .int .i64 (s.1:Int)),(3, .pointer (some ⟨p3,0,none⟩))])
  (fun s=>⟨ro,s.2.2⟩) (fun s=>q.length-s.1) (0,_,_) ⟨Nat.zero_le _, ?_⟩ rfl ⟨U,U,U,U,U,trivial⟩ fun s hi hnext=>?_
 ·exact .blk (p:=p11) (cells:= [.int .i64 l]) (spare:= []) (cap:=1) (len:=1) rfl rfl (Nat.le_refl _)
 obtain⟨i,vo,own⟩:=s
 obtain⟨hi,hbuf⟩:=hi
 simp only at hi hbuf hnext⊢
 obtain⟨p9,cap9,spare9,rfl,rfl⟩:=bufAt hbuf (by simp [ic])
 refine Xs C<|Xr C U U<|Rm C U U<|Rm C U U<|Rn C U U runUnderlying28<|R.int C U U U U b_lss<|R.done C<|Xk C U (fun hlt=>?_) (fun hlt=>?_)
 ·have hi':i<q.length:=O
  obtain⟨p,off,cap,ll,t,fq,hsl',hrop,hsub⟩:=hq.at ic_len O
  cases hsl'
  have hat:=ic_at hsub hi'
  have hn:=hgn.2.1 _ (List.getElem_mem hi')
  have htk:q.take (i+1)=q.take i++ [q[i]]:=List.take_succ_eq_append_getElem hi'
  have hacc:=pullsGo_snoc b (q.take i) l q[i]
  rw [←htk] at hacc
  generalize q[i]=m at hat hn hacc
  have hs:=hb.sheaves hn.1 hn.2
  have hsh:(b.ps[m.toNat]' O).sh=b.sheaves m:=by simp [Bk.sheaves,List.getD_eq_getElem?_getD,show m.toNat<b.ps.length by omega]
  have hpt:=pt_sh (hpsub m.toNat O)
  rw [hsh] at hpt
  have hbd:0≤(l::pullsGo b l (q.take i)).getLastD 0∧(l::pullsGo b l (q.take i)).getLastD 0≤99:=by
   have h1:(l::pullsGo b l (q.take i)).getLastD 0∈l::pullsGo b l (q.take i):=by
    rw [List.getLastD_eq_getLast?,List.getLast?_eq_getLast Zi];exact List.getLast_mem _
   rcases List.mem_cons.1 h1 with h2|h2
   ·rw [h2];exact hl
   ·have:=pullsGo_bd hb (fun x hx=>hgn.2.1 x (List.mem_of_mem_take hx)) hl.1 _ h2;omega
  have hlen:(pullsGo b l (q.take i)).length=i:=by rw [pullsGo_len];simp;omega
  have hfl:((l::pullsGo b l (q.take i)).flatMap ic).length=i+1:=by rw [flat_len,List.length_cons,hlen]
  have hlast:(l::pullsGo b l (q.take (i+1))).getLastD 0=behind ((l::pullsGo b l (q.take i)).getLastD 0) (b.sheaves m):=by
   rw [hacc, ←List.cons_append,getLastD_snoc]
  generalize hx:(l::pullsGo b l (q.take i)).getLastD 0=x at hbd hacc hlast
  generalize b.sheaves m=sm at hs hpt hacc hlast
  refine X.skip C.1<|Xs C<|X.block C.1<|Xs C<|Xd C fun hok=>Dm C 0 hok U U U<|Df (off':=1) C 1 hok U U U runUnderlying27 U sizeOf22 U<|D1 C 2 hok U U isAgg22 V U<|Dm C 3 hok U U U<|Dm C 4 hok U U U<|Dx C 5 hok U U U runUnderlying28 sizeOf3<|D2 C 6 hok U U isAgg3 hrop hat<|Dx C 7 hok U U U runUnderlying22 sizeOf67<|Df C 8 hok U U U runUnderlying67 U sizeOf3 U<|D2 C 9 hok U U isAgg3 hpro hpt<|De 10 (some 33) [false,false,false] hok (fun _ _ A hk=>?_)
  refine R.callP C U (A.w U U) (A.x U U) (A.s U U) (behindR_c hJ hbd hs _) (hk _ _ ⟨QFs.nil, ?_⟩)
  refine Da C 11 hok U U<|D.done C hok Kr<|X.region C U U<|Rm C U U<|Rm C U U<|R.buildSlice C (vs:=_) U U (show pvals _ _=some (numbered 0 [_]) from rfl) U runUnderlying28 sizeOf3 zeroValue3 Dd (Cat.one U U) fun p36=>R.append1 (kk:=1) C U U U U runUnderlying28 runUnderlying28 (fun _=>nofun) (show prog.info? 3=some Tryz.t3 by kernel_rfl) U U U Dd Dd hbuf U U (by simp only [List.length_append,List.length_cons,List.length_nil];omega) fun v' own' hb'=>Ad C U U<|X.inBlock C.1<|X.region C U U<|Rm C U U<|Ra C U U U<|Ad C U U<|X.weaken ?_ (hnext (i+1,v',own') ⟨hi', ?_⟩ ?_)
  ·exact⟨by simp only [look];rw [hlast],rfl,rfl,by simp [look],rfl,trivial⟩
  ·rw [hacc, ←List.cons_append,List.flatMap_append]
   exact hb'
  ·simp only;omega
 ·obtain rfl:i=q.length:=by omega
  rw [List.take_length] at hbuf⊢
  refine X.exit C.1 U<|Xr C U U<|R.finish C.1 ic_len Dd hbuf fun ro' hle hls=>Rm C U U<|Ad C U U<|Xt C func102<|Hr hret hle ?_
  exact hls
theorem givesOfR_c{b:Bk}{v vp':Value}{ro:RO}{p:List Int}(hv:BkV ro v b)(hb:b.good)(hp0:LsI ro vp' p)(hpl:p.length=b.ps.length){g l:Int}(hg:0≤g∧g<b.gs.length)(hl:0≤l∧l≤99):CallR prog J (fnv 60) [v,vp', .int .i64 g, .int .i64 l] ro (fun w ro'=>LsI ro' w (gives b p g l)):=by
 have hvv:=hv
 obtain⟨vp,vg,vc,vt,rfl,hp,hgs,hc,ht⟩:=hv
 obtain⟨pb,pc,rfl⟩:=hp.form
 obtain⟨cb,cc,rfl⟩:=hc.form
 obtain⟨tb,tc,rfl⟩:=ht.form
 obtain⟨gp,go,gcap,gl,gt,gfq,rfl,hgro,hgsub⟩:=hgs.at O
 obtain⟨qb,qc,hqat,hqcap,hq⟩:=hgsub g.toNat O
 have hgear:b.gs[g.toNat]' O=b.gear g:=by simp [Bk.gear,List.getD_eq_getElem?_getD,show g.toNat<b.gs.length by omega]
 rw [hgear] at hqat hqcap hq
 have hgn:=hb.gear hg.1 hg.2
 have hgl:=hb.gearLen hg.1 hg.2
 have hpn:=pulls_len b g l
 have hnp:=hb.np
 have hwb:=hb.w
 have hpb:=pulls_bd hb hg.1 hg.2 hl.1
 obtain⟨kp,ko,kcap,kl,kt,kfq,hks,hkro,hksub⟩:=hp0.at ic_len O
 subst hks
 have hgv:gives b p g l=givesTo p (b.gear g) (pulls b g l) (b.gear g).length++(if b.w<(pulls b g l).getD (b.gear g).length 0 then [((b.gear g).length:Int)] else []):=rfl
 have hpo:=pullsOfR_c hJ hvv hb hg hl
 rw [hgv]
 generalize b.gear g=q at hqat hqcap hq hgn hgl hpn
 generalize pulls b g l=ls at hpn hpo hpb
 refine CallR.intro hJ Kr fun c cs tail hret=>enter_X (n:=58) func60 U U (Nl U) ?_
 have C:Ctx prog main J (bf 60 .normal):=⟨hJ,by decide⟩
 refine Xr C U U<|R.box C U U U U fun p4=>Ad C U U<|Xs C<|Xd C fun hok=>Df (off':=2) C 0 hok U U U runUnderlying27 U sizeOf23 U<|D1 C 1 hok U U isAgg23 V U<|Dm C 2 hok U U U<|Dx C 3 hok U U U runUnderlying23 sizeOf28<|D2 C 4 hok U U isAgg28 (by first|exact hgro|exact hl1 _ _ hgro) hqat<|D5 C 5 hok U U isAgg27 sizeOf27 V Tk5<|Dm C 6 hok U U U<|Dm C 7 hok U U U<|De 8 (some 21) [false,true,true] hok (fun _ _ A hk=>?_)
 refine R.callR C U (A.w U U) (A.x U U) (A.s U U) (hpo) fun w1 ro1 hl1 hw=>hk _ _ ⟨(QFs.cons (QF.of U (fun _ _ A h=>R.loadOneRo C U (A.w U U) (A.x U U) isAgg28 (by first|exact hgro|exact hl1 _ _ hgro) hqat h)) (QFs.cons (QF.of U (fun _ _ A h=>R.loadOne C U (A.w U U) (A.x U U) isAgg23 V U h)) QFs.nil)), ?_⟩
 obtain⟨wp,wo,wcap,wl,wt,wfq,rfl,hwro,hwsub⟩:=hw.at ic_len O
 refine Da C 9 hok U U<|Da C 10 hok U U<|D.done C hok Kr<|Xr C U U<|Ad C U U<|Xs C<|Xr C U U<|Ad C U U<|X.block C.1<|X.loopI (ι:=Nat×Value×List (Nat×Obj)) C.1 (fun s=>s.1≤q.length∧Buf 3 1 [] s.2.1 ((givesTo p q ls s.1).flatMap ic) s.2.2)
  (fun s=> [(1, .slice (some ⟨kp,ko,none⟩) p.length kcap),(9, .slice qb q.length qc),(10, .slice (some ⟨wp,wo,none⟩) ls.length wcap),(11,s.2.1),(12, .int .i64 (s.1:Int)),(4, .pointer (some ⟨p4,0,none⟩))])
  (fun s=>⟨ro1,s.2.2++((p4, .cells [.int .i64 b.w, .slice pb b.ps.length pc, .slice (some ⟨gp,go,none⟩) b.gs.length gcap, .slice cb b.cs.length cc, .slice tb b.ts.length tc].toArray 27 (0,0))::tail)⟩) (fun s=>q.length-s.1) (0, .slice none 0 0, []) ⟨Nat.zero_le _, .nil⟩ rfl ⟨U,U,U,U,U,U,trivial⟩ fun s hi hnext=>?_
 obtain⟨i,vo,own⟩:=s
 obtain⟨hi,hbuf⟩:=hi
 simp only at hi hbuf hnext⊢
 have hgn0:=givesTo_len p q ls i
 have hgn1:=flat_len (givesTo p q ls i)
 refine Xs C<|Xr C U U<|Rm C U U<|Rm C U U<|Rn C U U runUnderlying28<|R.int C U U U U b_lss<|R.done C<|Xk C U (fun hlt=>?_) (fun hlt=>?_)
 ·have hi':i<q.length:=O
  obtain⟨p9,off,cap,ll,t,fq,hsl',hrop,hsub⟩:=hq.at ic_len O
  cases hsl'
  have hat:=ic_at hsub hi'
  have hwat:=ic_at hwsub (i:=i) O
  have hn:=hgn.2.1 _ (List.getElem_mem hi')
  have hkl:q[i].toNat<p.length:=O
  have hkat:=ic_at hksub hkl
  have hstep:=givesTo_succ p q ls i
  have hgp:givesP p q ls i=decide (p[q[i].toNat]<ls[i]' O):=by
   unfold givesP nth
   simp [List.getD_eq_getElem?_getD,hi',hkl,show i<ls.length by omega]
  rw [hgp] at hstep
  generalize p[q[i].toNat]=y at hkat hstep
  generalize ls[i]' O=z at hwat hstep
  generalize q[i]=m at hat hn hkl hkat
  have hrop1:=hl1 _ _ hrop
  have hkro1:=hl1 _ _ hkro
  refine X.skip C.1<|Xs C<|X.block C.1<|Xs C<|Xd C fun hok=>Dm C 0 hok U U U<|Dm C 1 hok U U U<|Dx C 2 hok U U U runUnderlying28 sizeOf3<|D2 C 3 hok U U isAgg3 hwro hwat<|Dm C 4 hok U U U<|Dm C 5 hok U U U<|Dm C 6 hok U U U<|Dx C 7 hok U U U runUnderlying28 sizeOf3<|D2 C 8 hok U U isAgg3 hrop1 hat<|Dx C 9 hok U U U runUnderlying28 sizeOf3<|D2 C 10 hok U U isAgg3 hkro1 hkat<|Di C 11 hok U U U U U b_gtr<|D.done C hok Kr<|X.cond C.1 U (fun hgv1=>?_) (fun hgv1=>?_)
  ·rw [if_pos (by simpa using hgv1)] at hstep
   refine X.region C U U<|Rm C U U<|Rm C U U<|R.buildSlice C (vs:=_) U U (show pvals _ _=some (numbered 0 [_]) from rfl) U runUnderlying28 sizeOf3 zeroValue3 Dd (Cat.one U U) fun p42=>R.append1 (kk:=1) C U U U U runUnderlying28 runUnderlying28 (fun _=>nofun) (show prog.info? 3=some Tryz.t3 by kernel_rfl) U U U Dd Dd (hbuf.app _) U U (by simp only [List.length_append,List.length_cons,List.length_nil];omega) fun v' own' hb'=>Ad C U U<|X.inBlock C.1<|X.region C U U<|Rm C U U<|Ra C U U U<|Ad C U U ?_
   obtain⟨own3,rfl,hb3⟩:=Buf.unapp (tail:= []) hb'
   refine X.weaken ?_ (hnext (i+1,v',own3) ⟨hi', ?_⟩ (by simp only;omega))
   ·exact⟨rfl,rfl,rfl,rfl,by simp [look],rfl,trivial⟩
   ·rw [hstep,List.flatMap_append];exact hb3
  ·rw [if_neg (by simpa using hgv1)] at hstep
   refine X.skip C.1<|X.inBlock C.1<|X.region C U U<|Rm C U U<|Ra C U U U<|Ad C U U<|X.weaken ?_ (hnext (i+1,vo,own) ⟨hi',by rw [hstep];exact hbuf⟩ (by simp only;omega))
   exact⟨rfl,rfl,rfl,rfl,by simp [look],rfl,trivial⟩
 ·obtain rfl:i=q.length:=by omega
  have hwat:=ic_at hwsub (i:=q.length) O
  have hlsD:ls.getD q.length 0=ls[q.length]' O:=by simp [List.getD_eq_getElem?_getD,show q.length<ls.length by omega]
  rw [hlsD] at hret
  generalize ls[q.length]' O=z at hwat hlsD hret
  refine X.exit C.1 U<|Xs C<|Xs C<|Xd C fun hok=>Dm C 0 hok U U U<|Dm C 1 hok U U U<|Ds C 2 hok U U runUnderlying28<|Dx C 3 hok U U U runUnderlying28 sizeOf3<|D2 C 4 hok U U isAgg3 hwro hwat<|Df (off':=0) C 5 hok U U U runUnderlying27 U sizeOf3 U<|Dl 6 hok (fun _ _ A h=>R.loadOne C U (A.w U U) (A.x U U) isAgg3 Vm U h)<|Di C 7 hok U U U U U b_gtr<|D.done C hok Kr<|X.cond C.1 U (fun hz=>?_) (fun hz=>?_)
  ·have hz:b.w<z:=by simpa using hz
   refine X.region C U U<|Rm C U U<|Rm C U U<|Rn C U U runUnderlying28<|R.buildSlice C (vs:=_) U U (show pvals _ _=some (numbered 0 [_]) from rfl) U runUnderlying28 sizeOf3 zeroValue3 Dd (Cat.one U U) fun p55=>R.append1 (kk:=1) C U U U U runUnderlying28 runUnderlying28 (fun _=>nofun) (show prog.info? 3=some Tryz.t3 by kernel_rfl) U U U Dd Dd (hbuf.app _) U U (by simp only [List.length_append,List.length_cons,List.length_nil];omega) fun v' own' hb'=>Ad C U U<|Xs C ?_
   obtain⟨own3,rfl,hb3⟩:=Buf.unapp (tail:= []) hb'
   have hcat:(givesTo p q ls q.length).flatMap ic++ [Value.int .i64 (q.length:Int)]=(givesTo p q ls q.length++ [(q.length:Int)]).flatMap ic:=by rw [List.flatMap_append];rfl
   rw [hcat] at hb3
   refine X.finish C.1 ic_len Dd (hb3.app _) fun ro4 hl4 hls4=>X.region C U U<|Rm C U U<|Ad C U U<|Xt C func60<|Hr hret (RO.le_trans hl1 hl4) ?_
   rw [if_pos hz];exact hls4
  ·have hz:¬b.w<z:=by simpa using hz
   refine X.skip C.1<|Xs C<|X.finish C.1 ic_len Dd (hbuf.app _) fun ro4 hl4 hls4=>X.region C U U<|Rm C U U<|Ad C U U<|Xt C func60<|Hr hret (RO.le_trans hl1 hl4) ?_
   rw [if_neg hz,List.append_nil];exact hls4
theorem liftsOfR_c{b:Bk}{v vp':Value}{ro:RO}{p:List Int}(hv:BkV ro v b)(hb:b.good)(hp0:LsI ro vp' p)(hpl:p.length=b.ps.length){g l:Int}(hg:0≤g∧g<b.gs.length)(hl:1≤l∧l≤99):CallR prog J (fnv 59) [v,vp', .int .i64 g, .int .i64 l] ro (fun w _=>w= .bool (lifts b p g l)):=by
 have hvv:=hv
 obtain⟨vp,vg,vc,vt,rfl,hp,hgs,hc,ht⟩:=hv
 obtain⟨_,_,rfl⟩:=hp.form
 obtain⟨_,_,rfl⟩:=hgs.form
 obtain⟨_,_,rfl⟩:=hc.form
 obtain⟨_,_,rfl⟩:=ht.form
 have hgl:=gives_len b p g l
 have hgl2:=hb.gearLen hg.1 hg.2
 refine CallR.intro hJ Kr fun c cs tail hret=>enter_X (n:=16) func59 U U (Nl U) ?_
 have C:Ctx prog main J (bf 59 .normal):=⟨hJ,by decide⟩
 refine Xr C U U<|R.box C U U U U fun p4=>Ad C U U<|Xr C U U<|R5 C U U isAgg27 sizeOf27 V Tk5<|Rm C U U<|Rm C U U<|Rm C U U<|R.callR C U U U U (givesOfR_c hJ hvv hb hp0 hpl hg O) fun w1 ro1 hl1 hw=>?_
 obtain⟨_,_,rfl⟩:=hw.form
 refine Rn C U U runUnderlying28<|R.int C U U U U b_eql<|Ad C U U<|Xt C func59<|Hr hret hl1 ?_
 unfold lifts
 rw [show(l==0)=false by rw [beq_eq_false_iff_ne];omega,Bool.false_or]
 refine congrArg Value.bool ?_
 rw [Bool.eq_iff_iff,beq_iff_eq,beq_iff_eq];omega
theorem testedR_c{b:Bk}{v vp':Value}{ro:RO}{p:List Int}(hv:BkV ro v b)(hb:b.good)(hp0:LsI ro vp' p)(hpl:p.length=b.ps.length):CallR prog J (fnv 109) [v,vp'] ro (fun w _=>w= .bool (right b p)):=by
 have hvv:=hv
 obtain⟨vp,vg,vc,vt,rfl,hp,hgs,hc,ht⟩:=hv
 obtain⟨pb,pc,rfl⟩:=hp.form
 obtain⟨gb,gc,rfl⟩:=hgs.form
 obtain⟨cb,cc,rfl⟩:=hc.form
 obtain⟨tb,tc,rfl⟩:=ht.form
 have hnt:=hb.nt
 obtain⟨kb,kc,hks⟩:=hp0.form
 subst hks
 refine CallR.intro hJ Kr fun c cs tail hret=>enter_X (n:=29) func109 U U (Nl U) ?_
 have C:Ctx prog main J (bf 109 .normal):=⟨hJ,by decide⟩
 refine Xr C U U<|R.box C U U U U fun p2=>Ad C U U<|Xs C<|Xr C U U<|Ad C U U<|X.block C.1<|X.loopI (ι:=Nat×RO) C.1 (fun s=>s.1≤b.ts.length∧ro.le s.2∧∀j (hj:j<b.ts.length),j<s.1→(lifts b p (b.ts[j]).g (b.ts[j]).l==(b.ts[j]).held)=true) (fun s=> [(1, .slice kb p.length kc),(2, .pointer (some ⟨p2,0,none⟩)),(5, .int .i64 (s.1:Int))])
  (fun s=>⟨s.2,(p2, .cells [.int .i64 b.w, .slice pb b.ps.length pc, .slice gb b.gs.length gc, .slice cb b.cs.length cc, .slice tb b.ts.length tc].toArray 27 (0,0))::tail⟩) (fun s=>b.ts.length-s.1) (0,ro) ⟨Nat.zero_le _,RO.le_refl _,fun j _ hj=>absurd hj (Nat.not_lt_zero _)⟩ rfl ⟨U,U,U,trivial⟩ fun s hs hnext=>?_
 obtain⟨i,ro1⟩:=s
 obtain⟨hi,hle,hall⟩:=hs
 simp only at hi hle hall hnext⊢
 refine Xs C<|Xr C U U<|Rm C U U<|Rf C 4 U U runUnderlying27 U sizeOf25<|Rl C U U isAgg25 V U<|Rn C U U runUnderlying25<|R.int C U U U U b_lss<|R.done C<|Xk C U (fun hlt=>?_) (fun hlt=>?_)
 ·have hi':i<b.ts.length:=O
  obtain⟨pp,off,cap,ll,ty,fq,hsl,hrop,hsub⟩:=(ht.mono hle).at Ts.len O
  cases hsl
  have hsi:=hsub i hi'
  have hts:=hb.ts _ (List.getElem_mem hi')
  have hnx:(lifts b p (b.ts[i]).g (b.ts[i]).l==(b.ts[i]).held)=false→right b p=false:=fun h=>by
   unfold right
   rw [List.all_eq_false]
   exact⟨_,List.getElem_mem hi',by simp [h]⟩
  have hst:(lifts b p (b.ts[i]).g (b.ts[i]).l==(b.ts[i]).held)=true→∀j (hj:j<b.ts.length),j<i+1→(lifts b p (b.ts[j]).g (b.ts[j]).l==(b.ts[j]).held)=true:=fun h j hj hji=>by
   by_cases e:j=i
   ·subst e;exact h
   ·exact hall j hj O
  generalize b.ts[i]=t at hsi hts hnx hst
  have hsi:Sub (off+i*3) 3 ll [.int .i64 t.g, .int .i64 t.l, .bool t.held]:=hsi
  refine X.skip C.1<|Xs C<|X.block C.1<|Xr C U U<|Rf C 4 U U runUnderlying27 U sizeOf25<|Rl C U U isAgg25 V U<|Rm C U U<|Rx C U U U runUnderlying25 sizeOf92<|R.loadAggRo C U U U isAgg92 sizeOf92 hrop hsi<|R.alloc C U U zeroValue92 U fun p6=>R.store C U U U U sizeOf92 U U U V Ph3<|R.done C<|Xs C<|Xd C fun hok=>D5 C 0 hok U U isAgg27 sizeOf27 V Tk5<|Dm C 1 hok U U U<|Df (off':=0) C 2 hok U U U runUnderlying92 U sizeOf3 U<|D1 C 3 hok U U isAgg3 V U<|Df (off':=1) C 4 hok U U U runUnderlying92 U sizeOf3 U<|D1 C 5 hok U U isAgg3 V U<|Df (off':=2) C 7 hok U U U runUnderlying92 U sizeOf4 U<|D1 C 8 hok U U isAgg4 V U<|De 6 (some 25) [true,false,false,false] hok (fun _ _ A hk=>?_)
  refine R.callR C U (A.w U U) (A.x U U) (A.s U U) (liftsOfR_c hJ (hvv.mono hle) hb (hp0.mono hle) hpl hts.1 hts.2) fun w2 ro2 hl2 hw=>hk _ _ ⟨(QFs.cons (QF.of U (fun _ _ A h=>R.loadOne C U (A.w U U) (A.x U U) isAgg4 V U h)) QFs.nil), ?_⟩
  subst hw
  refine Dp 9 hok (fun _ _ _ A h=>R.neBool C U (A.w U U) (A.x U U) (A.x U U) runUnderlying4 h)<|D.done C hok Kr<|X.cond C.1 U (fun hne=>?_) (fun hne=>?_)
  ·have hne:(lifts b p t.g t.l==t.held)=false:=by simpa using hne
   refine Xr C U U<|Ad C U U<|Xt C func109<|Hr hret (RO.le_trans hle hl2) ?_
   rw [hnx hne];rfl
  ·have hne:(lifts b p t.g t.l==t.held)=true:=by simpa using hne
   refine X.skip C.1<|X.inBlock C.1<|X.region C U U<|Rm C U U<|Ra C U U U<|Ad C U U<|X.drop C.1 (own':=_::tail) (List.sublist_cons_self _ _)<|X.weaken ?_ (hnext (i+1,ro2) ⟨hi',RO.le_trans hle hl2,hst hne⟩ (by simp only;omega))
   exact⟨rfl,rfl,by simp [look],trivial⟩
 ·obtain rfl:i=b.ts.length:=by omega
  refine X.exit C.1 U<|Xr C U U<|Ad C U U<|Xt C func109<|Hr hret hle ?_
  have:right b p=true:=by
   unfold right
   rw [List.all_eq_true]
   intro t ht
   obtain⟨j,hj,rfl⟩:=List.getElem_of_mem ht
   exact hall j hj hj
  rw [this];rfl
end
section
def nothing:Bk:=⟨0, [], [], [], []⟩
def newB(b:Bk)(h:Int):Bk:=if h=0 then b else nothing
theorem noBk_v(ro:RO):BkV ro noBk nothing:=⟨_,_,_,_,rfl, .nil,⟨[], .nil,rfl,fun z hz=>by cases hz⟩, .nil, .nil⟩
theorem NewV.bk{ro:RO}{b:Bk}{h:Int}{w:Value}(hn:NewV ro b h w):∃v,BkV ro v (newB b h)∧w= .tuple [v, .int .i64 h].toArray:=by
 rcases hn with⟨h0,rfl⟩|⟨rfl,v,hv,rfl⟩
 ·exact⟨_,by rw [newB,if_neg h0];exact noBk_v ro,rfl⟩
 ·exact⟨v,hv,rfl⟩
theorem tiny_of{b:Bk}(hb:b.good):b.tiny:=
 ⟨by have:=hb.np;omega,⟨by have:=hb.ng;omega,fun g hg=>by
  obtain⟨_,h1,h2⟩:=hb.gs g hg
  have:=nodup_len h2 h1
  have:=hb.np;omega⟩,by have:=hb.nc;omega,by have:=hb.nt;omega⟩
theorem tiny_nothing:nothing.tiny:=⟨by decide,⟨by decide,fun g hg=>by cases hg⟩,by decide,by decide⟩
abbrev U16:={n:Int//0≤n∧n≤65535}
def uc(n:U16):List Value:= [.int .u16 n.1]
end
section
def grow(all:List (List Int))(r:Rc):List (List Int):=all.flatMap fun x=>r.nums.map fun n=>x++ [n]
theorem grow_spread:∀ (rs:List Rc) (all:List (List Int)),rs.foldl grow all=all.flatMap fun x=>(spread rs).map (x++ ·)
 | [],all=>by simp [spread]
 |r::rs,all=>by
  rw [List.foldl_cons,grow_spread rs,grow,List.flatMap_assoc]
  congr 1;funext x
  simp only [spread,List.flatMap_map,List.map_flatMap,List.map_map]
  congr 1;funext n;congr 1;funext l;simp
theorem grow_all(rs:List Rc):rs.foldl grow [[]]=spread rs:=by rw [grow_spread];simp
theorem grow_to(rs:List Rc){i:Nat}(h:i<rs.length):spread (rs.take (i+1))=grow (spread (rs.take i)) rs[i]:=by
 rw [←grow_all, ←grow_all,List.take_succ_eq_append_getElem h,List.foldl_append];rfl
theorem grow_take(l:List (List Int))(r:Rc){k:Nat}(h:k<l.length):grow (l.take (k+1)) r=grow (l.take k) r++r.nums.map fun n=>l[k]++ [n]:=by
 unfold grow;rw [List.take_succ_eq_append_getElem h,List.flatMap_append];simp
theorem grow_le(l:List (List Int)){r:Rc}(h:r.hi-r.lo<3):(grow l r).length≤3*l.length:=by
 unfold grow
 induction l with
 |nil=>simp
 |cons x l ih=>
  have:r.nums.length≤3:=by rw [Rc.nums,rz_len];omega
  rw [List.flatMap_cons,List.length_append,List.length_map,List.length_cons];omega
theorem rz_to(lo:Int):∀m,rz lo (m+1)=rz lo m++ [lo+m]
 |0=>by simp [rz]
 |m+1=>by
  rw [rz,rz_to (lo+1) m,rz,List.cons_append,show lo+1+(m:Int)=lo+((m+1:Nat):Int) by omega]
section
variable {main:Bool}{J:Goroutine→Mem→Prop}(hJ:Closed prog main J)
include hJ
theorem listsR_c{rs:List Rc}{v:Value}{ro:RO}(hv:Ls Rc.cells 2 ro v rs)(hn:rs.length≤4)(hr:∀r∈rs,0≤r.lo∧r.lo≤r.hi∧r.hi≤99∧r.hi-r.lo<3):CallR prog J (fnv 178) [v] ro (fun w ro'=>LsG ro' w (spread rs)):=by
 have hv0:=hv
 obtain⟨vb,vc,rfl⟩:=hv.form
 refine CallR.intro hJ Kr fun c cs tail hret=>enter_X (n:=49) func178 U U (Nl U) ?_
 have C:Ctx prog main J (bf 178 .normal):=⟨hJ,by decide⟩
 refine Xr C U U<|Ad C U U<|Xr C U U<|R.buildSlice C (vs:=_) U U (show pvals _ _=some (numbered 0 [_]) from rfl) U runUnderlying23 sizeOf28 zeroValue28 Dd (Cat.one U U) fun p8=>Ad C U U<|Xs C<|Xr C U U<|Ad C U U<|X.block C.1<|X.finish C.1 (enc:=fun z:Value×List Int=> [z.1]) (kk:=1) (e:=28) (xs:= [(.slice none 0 0, [])]) (fun _=>rfl) Dd (Buf.blk (cells:= [.slice none 0 0]) (spare:= []) (len:=1) (cap:=1) U U (Nat.le_refl _)) fun ro0 hl0 hls0=>X.loopI (ι:=Nat×RO×Value) C.1 (fun s=>s.1≤rs.length∧ro0.le s.2.1∧LsG s.2.1 s.2.2 (spread (rs.take s.1))) (fun s=> [(0, .slice vb rs.length vc),(3,s.2.2),(4, .int .i64 (s.1:Int))])
  (fun s=>⟨s.2.1,tail⟩) (fun s=>rs.length-s.1) (0,ro0, .slice (some ⟨p8,0,none⟩) 1 1) ⟨Nat.zero_le _,RO.le_refl _,_,hls0,rfl,fun z hz=>by simp at hz;subst hz;exact⟨Ls.nil,_,_,_,rfl,Nat.le_refl _⟩⟩ rfl ⟨U,U,U,trivial⟩ fun s hs hnext=>?_
 obtain⟨i,ro1,v1⟩:=s
 obtain⟨hi,hle1,hg1⟩:=hs
 simp only at hi hle1 hg1 hnext⊢
 refine Xs C<|Xr C U U<|Rm C U U<|Rm C U U<|Rn C U U runUnderlying210<|R.int C U U U U b_lss<|R.done C<|Xk C U (fun hlt=>?_) (fun hlt=>?_)
 ·have hi':i<rs.length:=O
  have hstep:=grow_to rs hi'
  have hri:=hr _ (List.getElem_mem hi')
  have hallx:∀x∈spread (rs.take i),x.length=i:=fun x hx=>by rw [spread_len x hx,List.length_take];omega
  have hal:(spread (rs.take i)).length≤81:=by
   have h1:=spread_le (rs:=rs.take i) fun r h=>(hr r (List.mem_of_mem_take h)).2.2.2
   have h2:3^ (rs.take i).length≤3^4:=Nat.pow_le_pow_right Dd (by rw [List.length_take];omega)
   omega
  obtain⟨rp,rof,rcap,rl,rt,rfq,hsl,hrro,hrsub⟩:=(hv0.mono (RO.le_trans hl0 hle1)).at (fun _=>rfl) O
  cases hsl
  have hsi:=hrsub i hi'
  generalize rs[i]=r at hstep hri hsi
  generalize spread (rs.take i)=all at hg1 hstep hallx hal
  have hlo:rl[rof+i*2+0]? =some (.int .i64 r.lo):=hsi.get 0 Dd
  have hhi:rl[rof+i*2+1]? =some (.int .i64 r.hi):=hsi.get 1 Dd
  obtain⟨ab,ac,rfl⟩:=hg1.form
  refine X.skip C.1<|Xs C<|X.block C.1<|Xr C U U<|Ad C U U<|Xs C<|Xr C U U<|Ad C U U<|X.block C.1<|X.loopI (ι:=Nat×RO×Value×List (Value×List Int)×List (Nat×Obj)) C.1 (fun s=>s.1≤all.length∧ro1.le s.2.1∧Buf 28 1 tail s.2.2.1 (s.2.2.2.1.flatMap fun z=> [z.1]) s.2.2.2.2∧s.2.2.2.1.map (·.2)=grow (all.take s.1) r∧∀z∈s.2.2.2.1,LsI s.2.1 z.1 z.2∧capOk z.1) (fun s=> [(0, .slice (some ⟨rp,rof,none⟩) rs.length vc),(3, .slice ab all.length ac),(4, .int .i64 (i:Int)),(5,s.2.2.1),(6, .int .i64 (s.1:Int))])
   (fun s=>⟨s.2.1,s.2.2.2.2⟩) (fun s=>all.length-s.1) (0,ro1, .slice none 0 0, [],tail) ⟨Nat.zero_le _,RO.le_refl _, .nil,by simp [grow],fun _ h=>nomatch h⟩ rfl ⟨U,U,U,U,U,trivial⟩ fun s hs hnext2=>?_
  obtain⟨k,ro2,v2,zs2,own2⟩:=s
  obtain⟨hk,hle2,hb2,hzs2,hls2⟩:=hs
  simp only at hk hle2 hb2 hzs2 hls2 hnext2⊢
  refine Xs C<|Xr C U U<|Rm C U U<|Rm C U U<|Rn C U U runUnderlying23<|R.int C U U U U b_lss<|R.done C<|Xk C U (fun hlt2=>?_) (fun hlt2=>?_)
  ·have hk':k<all.length:=O
   obtain⟨ap,ao,acap,al,aty,afq,hasl,haro,hasub⟩:=hg1.at O
   cases hasl
   obtain⟨qb,qc,hqat,hqc,hqls⟩:=hasub k hk'
   have hgt:=grow_take all r hk'
   have hgl:=grow_le (all.take k) hri.2.2.2
   rw [List.length_take] at hgl
   have hxl:=hallx _ (List.getElem_mem hk')
   generalize all[k]=x at hqat hqc hqls hgt hxl
   have hrro2:=hle2 _ _ hrro
   have hrl:∃c:Nat,c=(r.hi+1-r.lo).toNat:=⟨_,rfl⟩
   obtain⟨c,hc⟩:=hrl
   have hnums:r.nums=rz r.lo c:=by rw [hc];rfl
   refine X.skip C.1<|Xs C<|X.block C.1<|Xr C U U<|Rm C U U<|Rm C U U<|Rx C U U U runUnderlying210 sizeOf65<|R.fieldAddr C U U U runUnderlying65 U sizeOf3 U<|R.loadOneRo C U U U isAgg3 hrro2 hlo<|Ad C U U<|X.block C.1<|X.loopI (ι:=Nat×RO×Value×List (Value×List Int)×List (Nat×Obj)) C.1 (fun s=>s.1≤c∧ro2.le s.2.1∧Buf 28 1 tail s.2.2.1 (s.2.2.2.1.flatMap fun z=> [z.1]) s.2.2.2.2∧s.2.2.2.1.map (·.2)=grow (all.take k) r++(rz r.lo s.1).map (fun n=>x++ [n])∧∀z∈s.2.2.2.1,LsI s.2.1 z.1 z.2∧capOk z.1) (fun s=> [(0, .slice (some ⟨rp,rof,none⟩) rs.length vc),(3, .slice (some ⟨ap,ao,none⟩) all.length ac),(4, .int .i64 (i:Int)),(5,s.2.2.1),(6, .int .i64 (k:Int)),(7, .int .i64 (r.lo+(s.1:Int)))])
    (fun s=>⟨s.2.1,s.2.2.2.2⟩) (fun s=>c-s.1) (0,ro2,v2,zs2,own2) ⟨Nat.zero_le _,RO.le_refl _,hb2,by simp [hzs2,rz],hls2⟩ rfl ⟨rfl,rfl,rfl,rfl,rfl,by simp [look],trivial⟩ fun s hs hnext3=>?_
   obtain⟨j,ro3,v3,zs3,own3⟩:=s
   obtain⟨hj,hle3,hb3,hzs3,hls3⟩:=hs
   simp only at hj hle3 hb3 hzs3 hls3 hnext3⊢
   have hlen3:=congrArg List.length hzs3
   rw [List.length_map,List.length_append,List.length_map,rz_len] at hlen3
   have hff3:(zs3.flatMap fun z:Value×List Int=> [z.1]).length=zs3.length:=by rw [flatMap_len (k:=1) (fun _=>rfl),Nat.mul_one]
   have hrro3:=hle3 _ _ hrro2
   have haro3:=hle3 _ _ (hle2 _ _ haro)
   have hqls3:=hqls.mono (RO.le_trans hle2 hle3)
   refine Xs C<|Xr C U U<|Rm C U U<|Rm C U U<|Rm C U U<|Rx C U U U runUnderlying210 sizeOf65<|R.fieldAddr C U U U runUnderlying65 U sizeOf3 U<|R.loadOneRo C U U U isAgg3 hrro3 hhi<|R.int C U U U U b_leq<|R.done C<|Xk C U (fun hlt3=>?_) (fun hlt3=>?_)
   ·have hfl:=flat_len x
    refine X.skip C.1<|Xs C<|X.block C.1<|X.region C U U<|Rm C U U<|R.buildSlice C (vs:=_) U U (show pvals _ _=some (numbered 0 []) from rfl) U runUnderlying28 sizeOf3 zeroValue3 Dd (.nil) fun p36=>Rm C U U<|Rm C U U<|Rx C U U U runUnderlying23 sizeOf28<|R.loadOneRo C U U U isAgg28 haro3 hqat<|R.append (kk:=1) C U U U U runUnderlying28 runUnderlying28 (fun _=>nofun) (show prog.info? 3=some Tryz.t3 by kernel_rfl) U U U Dd Dd (Buf.blk (cells:= []) (spare:= []) (len:=0) (cap:=0) U U (Nat.le_refl _)) (hqls3.rd ic_len) (ones_ic x) (by simp only [List.length_nil];omega) fun v' own' hb'=>Rm C U U<|R.buildSlice C (vs:=_) U U (show pvals _ _=some (numbered 0 [_]) from rfl) U runUnderlying28 sizeOf3 zeroValue3 Dd (Cat.one U U) fun p43=>R.append1 (kk:=1) C U U U U runUnderlying28 runUnderlying28 (fun _=>nofun) (show prog.info? 3=some Tryz.t3 by kernel_rfl) U U U Dd Dd hb' U U (by simp only [List.length_append,List.length_cons,List.length_nil];omega) fun v' own' hb'=>?_
    have e3:([]++x.flatMap ic)++ [Value.int .i64 (r.lo+(j:Int))]=(x++ [r.lo+(j:Int)]).flatMap ic:=by simp [List.flatMap_append,ic]
    rw [e3] at hb'
    have hco:=hb'.capOk
    refine R.finish C.1 ic_len Dd hb' fun ro4 hl4 hls4=>?_
    obtain⟨b4,c4,rfl⟩:=hls4.form
    refine R.buildSlice C (vs:=_) U U (show pvals _ _=some (numbered 0 [_]) from rfl) U runUnderlying23 sizeOf28 zeroValue28 Dd (Cat.one U U) fun p45=>R.append1 (kk:=1) C U U U U runUnderlying23 runUnderlying23 (fun _=>nofun) (show prog.info? 28=some Tryz.t28 by kernel_rfl) U U U Dd Dd hb3 U U (by simp only [List.length_append,List.length_cons,List.length_nil];omega) fun v' own' hb'=>Ad C U U<|X.inBlock C.1<|X.region C U U<|Rm C U U<|Ra C U U U<|Ad C U U<|X.weaken ?_ (hnext3 (j+1,ro4,_,zs3++ [(.slice b4 (x++ [r.lo+(j:Int)]).length c4,x++ [r.lo+(j:Int)])],_) ⟨O,RO.le_trans hle3 hl4,by simpa [List.flatMap_append] using hb', ?_,fun z hz=>?_⟩ (by simp only;omega))
    ·exact⟨rfl,rfl,rfl,rfl,rfl,by simp only [look];congr 2;omega,trivial⟩
    ·rw [List.map_append,hzs3,rz_to,List.map_append,List.append_assoc];rfl
    ·rcases List.mem_append.1 hz with hz|hz
     ·exact⟨(hls3 z hz).1.mono hl4,(hls3 z hz).2⟩
     ·rw [List.mem_singleton.1 hz];exact⟨hls4,hco⟩
   ·obtain rfl:j=c:=by omega
    rw [←hnums, ←hgt] at hzs3
    refine X.exit C.1 U<|X.inBlock C.1<|X.region C U U<|Rm C U U<|Ra C U U U<|Ad C U U<|X.weaken ?_ (hnext2 (k+1,ro3,v3,zs3,own3) ⟨hk',RO.le_trans hle2 hle3,hb3,hzs3,hls3⟩ (by simp only;omega))
    exact⟨rfl,rfl,rfl,rfl,by simp [look],trivial⟩
  ·obtain rfl:k=all.length:=by omega
   rw [List.take_length, ←hstep] at hzs2
   refine X.exit C.1 U<|X.region C U U ?_
   have hls2':=hls2
   refine R.finish C.1 (enc:=fun z:Value×List Int=> [z.1]) (fun _=>rfl) Dd hb2 fun ro3 hl3 hls3=>Rm C U U<|Ad C U U<|X.inBlock C.1<|X.region C U U<|Rm C U U<|Ra C U U U<|Ad C U U<|X.weaken ?_ (hnext (i+1,ro3,v2) ⟨hi',RO.le_trans hle1 (RO.le_trans hle2 hl3),zs2,hls3,hzs2,fun z hz=>⟨(hls2 z hz).1.mono hl3,(hls2 z hz).2⟩⟩ (by simp only;omega))
   exact⟨rfl,rfl,by simp [look],trivial⟩
 ·obtain rfl:i=rs.length:=by omega
  rw [List.take_length] at hg1
  refine X.exit C.1 U<|Xr C U U<|Rm C U U<|Ad C U U<|Xt C func178<|Hr hret (RO.le_trans hl0 hle1) ?_
  exact hg1
end
end
section
theorem grow_len(l:List (List Int))(r:Rc):(grow l r).length=l.length*r.nums.length:=by
 unfold grow
 induction l with
 |nil=>simp
 |cons x l ih=>rw [List.flatMap_cons,List.length_append,List.length_map,ih,List.length_cons,Nat.succ_mul];omega
theorem BkV.all{b:Bk}{v:Value}{ro:RO}(h:BkV ro v b):∃pb pc gb gc cb cc tb tc,v= .agg [.int .i64 b.w, .slice pb b.ps.length pc, .slice gb b.gs.length gc, .slice cb b.cs.length cc, .slice tb b.ts.length tc].toArray∧Ls Pt.cells 4 ro (.slice pb b.ps.length pc) b.ps∧LsG ro (.slice gb b.gs.length gc) b.gs∧Ls Pc.cells 3 ro (.slice cb b.cs.length cc) b.cs∧Ls Ts.cells 3 ro (.slice tb b.ts.length tc) b.ts:=by
 obtain⟨vp,vg,vc,vt,rfl,hp,hg,hc,ht⟩:=h
 obtain⟨pb,pc,rfl⟩:=hp.form
 obtain⟨gb,gc,rfl⟩:=hg.form
 obtain⟨cb,cc,rfl⟩:=hc.form
 obtain⟨tb,tc,rfl⟩:=ht.form
 exact⟨_,_,_,_,_,_,_,_,rfl,hp,hg,hc,ht⟩
theorem mul_bdY{x y:Int}(h1:0≤x)(h2:x≤27)(h3:1≤y)(h4:y≤3):0≤x*y∧x*y≤81:=by
 have:y=1∨y=2∨y=3:=O
 rcases this with rfl|rfl|rfl<;>omega
theorem LsG.nil{ro:RO}:LsG ro (.slice none 0 0) []:=⟨[],Ls.nil,rfl,fun _ h=>nomatch h⟩
theorem bearsL_each{b:Bk}:∀p∈bearsL b,p.length=b.ps.length:=fun p hp=>by
 rw [spread_len p (List.mem_filter.1 hp).1,List.length_map]
theorem bears_nil{b:Bk}(hb:b.good):cases b= []↔bearsL b= []:=by
 constructor
 ·intro h
  cases hl:bearsL b with
  |nil=>rfl
  |cons p l=>
   cases hw:weightsL b with
   |nil=>exact absurd hw (weightsL_ne hb)
   |cons w k=>
    have:((p,w):Tn)∈cases b:=mem_cases.2 ⟨by rw [hl];exact List.mem_cons_self,by rw [hw];exact List.mem_cons_self⟩
    rw [h] at this;exact nomatch this
 ·intro h;unfold cases;rw [h];rfl
def knownR(b:Bk)(h:Int):List (List Int)×Int:=if openH b h≠0 then([],openH b h) else(bearsL b,0)
section
variable {main:Bool}{J:Goroutine→Mem→Prop}(hJ:Closed prog main J)
include hJ
theorem bearsOfR_c{b:Bk}{v:Value}{ro:RO}(hv:BkV ro v b)(hb:b.good):CallR prog J (fnv 114) [v] ro (fun w ro'=>LsG ro' w (bearsL b)):=by
 have hvv:=hv
 obtain⟨pb,pc,gb,gc,cb,cc,tb,tc,rfl,hp,hg,hc,ht⟩:=hv.all
 have hnp:=hb.np
 have hml:(b.ps.map Pt.r).length=b.ps.length:=List.length_map ..
 refine CallR.intro hJ Kr fun c cs tail hret=>enter_X (n:=46) func114 U U (Nl U) ?_
 have C:Ctx prog main J (bf 114 .normal):=⟨hJ,by decide⟩
 refine Xr C U U<|R.box C U U U U fun p1=>Ad C U U<|Xr C U U<|Ad C U U<|Xs C<|Xr C U U<|Ad C U U<|X.block C.1<|X.loopI (ι:=Nat×Value×List (Nat×Obj)) C.1 (fun s=>s.1≤b.ps.length∧Buf 65 2 [] s.2.1 (((b.ps.map Pt.r).take s.1).flatMap Rc.cells) s.2.2)
  (fun s=> [(1, .pointer (some ⟨p1,0,none⟩)),(3,s.2.1),(4, .int .i64 (s.1:Int))]) (fun s=>⟨ro,s.2.2++((p1, .cells [.int .i64 b.w, .slice pb b.ps.length pc, .slice gb b.gs.length gc, .slice cb b.cs.length cc, .slice tb b.ts.length tc].toArray 27 (0,0))::tail)⟩) (fun s=>b.ps.length-s.1) (0, .slice none 0 0, []) ⟨Nat.zero_le _, .nil⟩ rfl ⟨U,U,U,trivial⟩ fun s hs hnext=>?_
 obtain⟨i,v1,own1⟩:=s
 obtain⟨hi,hbuf⟩:=hs
 simp only at hi hbuf hnext⊢
 have hfl:(((b.ps.map Pt.r).take i).flatMap Rc.cells).length=i*2:=by
  rw [flatMap_len (k:=2) (fun _=>rfl),List.length_take];omega
 obtain⟨bs0,cap0,rfl⟩:=hbuf.form Dd
 refine Xs C<|Xr C U U<|Rm C U U<|Rf C 1 U U runUnderlying27 U sizeOf22<|R.loadOne C U U U isAgg22 Vm U<|Rn C U U runUnderlying22<|R.int C U U U U b_lss<|R.done C<|Xk C U (fun hlt=>?_) (fun hlt=>?_)
 ·have hi':i<b.ps.length:=O
  obtain⟨pp,po,pcap,pl,pty,pfq,hsl,hrop,hsub⟩:=hp.at Pt.len O
  cases hsl
  have hsi:Sub (po+i*4+2) 2 pl (b.ps[i]).r.cells:=(hsub i hi').part (i:=2) (m:=2) Dd
  have hstep:(b.ps.map Pt.r).take (i+1)=(b.ps.map Pt.r).take i++ [(b.ps[i]).r]:=by rw [List.take_succ_eq_append_getElem O,List.getElem_map]
  generalize(b.ps[i]).r=r at hsi hstep
  have hrl:r.cells.length=2:=rfl
  refine X.skip C.1<|Xs C<|X.block C.1<|X.region C U U<|Rm C U U<|Rf C 1 U U runUnderlying27 U sizeOf22<|R.loadOne C U U U isAgg22 Vm U<|Rm C U U<|Rx C U U U runUnderlying22 sizeOf67<|R.fieldAddr C U U U runUnderlying67 U sizeOf65 U<|R.loadAggRo C U U U isAgg65 sizeOf65 hrop hsi<|R.buildSlice C (vs:=_) U U (show pvals _ _=some (numbered 0 [_]) from rfl) U runUnderlying210 sizeOf65 zeroValue65 Dd (Cat.one U U) fun p22=>R.append1 (kk:=2) C U U U U runUnderlying210 runUnderlying210 (fun _=>nofun) (show prog.info? 65=some Tryz.t65 by kernel_rfl) U U U Dd Dd (hbuf.app _) U U (by(try simp only [List.length_append,List.length_cons,List.length_nil]);omega) fun v' own' hb'=>Ad C U U<|X.inBlock C.1<|X.region C U U<|Rm C U U<|Ra C U U U<|Ad C U U ?_
  obtain⟨own2,rfl,hb1⟩:=hb'.unapp (tail:= [])
  refine X.weaken ?_ (hnext (i+1,v',own2) ⟨hi', ?_⟩ (by simp only;omega))
  ·exact⟨rfl,rfl,by simp [look],trivial⟩
  ·rw [hstep,List.flatMap_append];exact hb1
 ·obtain rfl:i=b.ps.length:=by omega
  rw [List.take_of_length_le O] at hbuf hfl⊢
  refine X.exit C.1 U<|Xs C<|X.finish C.1 (enc:=Rc.cells) (fun _=>rfl) Dd (hbuf.app _) fun ro1 hl1 hls1=>X.region C U U<|Rm C U U<|R.callR C U U U U ((listsR_c (rs:=b.ps.map Pt.r) hJ hls1 O (fun r h=>by obtain⟨q,hq,rfl⟩:=List.mem_map.1 h;exact(hb.ps q hq).2))) fun v2 ro2 hl2 hq2=>?_
  obtain⟨zs,hz1,hz2,hz3⟩:=hq2
  have hL2:=RO.le_trans hl1 hl2
  have hzl:zs.length≤81:=by
   have h1:=spread_le (rs:=b.ps.map Pt.r) fun r h=>by
    obtain⟨q,hq,rfl⟩:=List.mem_map.1 h
    exact(hb.ps q hq).2.2.2.2
   have h2:3^ (b.ps.map Pt.r).length≤3^4:=Nat.pow_le_pow_right Dd O
   rw [←hz2,List.length_map] at h1
   omega
  obtain⟨zb,zc,rfl⟩:=hz1.form
  refine Ad C U U<|Xr C U U<|Ad C U U<|Xs C<|Xr C U U<|Ad C U U<|X.block C.1<|X.loopI (ι:=Nat×RO×Value×List (Nat×Obj)) C.1 (fun s=>s.1≤zs.length∧ro2.le s.2.1∧Buf 28 1 [] s.2.2.1 (((zs.take s.1).filter fun z=>right b z.2).flatMap fun z=> [z.1]) s.2.2.2)
   (fun s=> [(1, .pointer (some ⟨p1,0,none⟩)),(5, .slice zb zs.length zc),(6,s.2.2.1),(7, .int .i64 (s.1:Int))]) (fun s=>⟨s.2.1,s.2.2.2++((p1, .cells [.int .i64 b.w, .slice pb b.ps.length pc, .slice gb b.gs.length gc, .slice cb b.cs.length cc, .slice tb b.ts.length tc].toArray 27 (0,0))::tail)⟩) (fun s=>zs.length-s.1) (0,ro2, .slice none 0 0, []) ⟨Nat.zero_le _,RO.le_refl _, .nil⟩ rfl ⟨U,U,U,U,trivial⟩ fun s hs hnext2=>?_
  obtain⟨k,ro3,v3,own3⟩:=s
  obtain⟨hk,hl3,hb3⟩:=hs
  simp only at hk hl3 hb3 hnext2⊢
  have hfl3:(((zs.take k).filter fun z=>right b z.2).flatMap fun z:Value×List Int=> [z.1]).length≤k:=by
   rw [flatMap_len (k:=1) (fun _=>rfl),Nat.mul_one]
   have:=List.length_filter_le (fun z:Value×List Int=>right b z.2) (zs.take k)
   rw [List.length_take] at this;omega
  obtain⟨bs3,cap3,rfl⟩:=hb3.form Dd
  refine Xs C<|Xr C U U<|Rm C U U<|Rm C U U<|Rn C U U runUnderlying23<|R.int C U U U U b_lss<|R.done C<|Xk C U (fun hlt2=>?_) (fun hlt2=>?_)
  ·have hk':k<zs.length:=O
   obtain⟨zp,zo,zcap,zl,zty,zfq,hsl,hzro,hzsub⟩:=hz1.at (fun _=>rfl) O
   cases hsl
   have hzk:zl[zo+k*1+0]? =some zs[k].1:=(hzsub k hk').get 0 Dd
   have hzi:=hz3 _ (List.getElem_mem hk')
   have hzlen:zs[k].2.length=b.ps.length:=by
    have:zs[k].2∈spread (b.ps.map Pt.r):=by rw [←hz2];exact List.mem_map.2 ⟨_,List.getElem_mem hk',rfl⟩
    rw [spread_len _ this,hml]
   have hstep:(zs.take (k+1)).filter (fun z=>right b z.2)=(zs.take k).filter (fun z=>right b z.2)++(if right b zs[k].2 then [zs[k]] else []):=by
    rw [List.take_succ_eq_append_getElem hk',List.filter_append,List.filter_cons,List.filter_nil]
   generalize zs[k]=z at hzk hzi hzlen hstep
   obtain⟨z1,z2⟩:=z
   simp only at hzk hzi hzlen hstep
   obtain⟨qb,qc,rfl⟩:=hzi.1.form
   have hzro3:=hl3 _ _ hzro
   refine X.skip C.1<|Xs C<|X.block C.1<|Xs C<|Xd C fun hok=>Dl 0 hok (fun _ _ A h=>R.loadAgg C U (A.w U U) (A.x U U) isAgg27 sizeOf27 Vm Tk5 h)<|Dm C 1 hok U U U<|Dm C 2 hok U U U<|Dx C 3 hok U U U runUnderlying23 sizeOf28<|D2 C 4 hok U U isAgg28 hzro3 hzk<|De 5 (some 37) [false,false] hok (fun _ _ A hk=>?_)
   refine R.callR C U (A.w U U) (A.x U U) (A.s U U) (testedR_c hJ (hvv.mono (RO.le_trans hL2 hl3)) hb (hzi.1.mono hl3) hzlen) fun v4 ro4 hl4 hq4=>hk _ _ ⟨QFs.nil, ?_⟩
   refine D.done C hok Kr ?_
   subst hq4
   refine X.cond C.1 U (fun hrt=>?_) (fun hrt=>?_)
   ·rw [if_pos hrt] at hstep
    have hzro4:=hl4 _ _ hzro3
    refine X.region C U U<|Rm C U U<|Rm C U U<|Rm C U U<|Rx C U U U runUnderlying23 sizeOf28<|R.loadOneRo C U U U isAgg28 hzro4 hzk<|R.buildSlice C (vs:=_) U U (show pvals _ _=some (numbered 0 [_]) from rfl) U runUnderlying23 sizeOf28 zeroValue28 Dd (Cat.one U U) fun p43=>R.append1 (kk:=1) C U U U U runUnderlying23 runUnderlying23 (fun _=>nofun) (show prog.info? 28=some Tryz.t28 by kernel_rfl) U U U Dd Dd (hb3.app _) U U (by simp only [List.length_append,List.length_cons,List.length_nil];omega) fun v' own' hb'=>Ad C U U<|X.inBlock C.1<|X.region C U U<|Rm C U U<|Ra C U U U<|Ad C U U ?_
    obtain⟨own5,rfl,hb5⟩:=hb'.unapp (tail:= [])
    refine X.weaken ?_ (hnext2 (k+1,ro4,v',own5) ⟨hk',RO.le_trans hl3 hl4, ?_⟩ (by simp only;omega))
    ·exact⟨rfl,rfl,rfl,by simp [look],trivial⟩
    ·rw [hstep,List.flatMap_append];exact hb5
   ·rw [if_neg (by rw [hrt];decide),List.append_nil] at hstep
    refine X.skip C.1<|X.inBlock C.1<|X.region C U U<|Rm C U U<|Ra C U U U<|Ad C U U<|X.weaken ?_ (hnext2 (k+1,ro4,_,own3) ⟨hk',RO.le_trans hl3 hl4,by rw [hstep];exact hb3⟩ (by simp only;omega))
    exact⟨rfl,rfl,rfl,by simp [look],trivial⟩
  ·obtain rfl:k=zs.length:=by omega
   rw [List.take_length] at hb3 hfl3⊢
   refine X.exit C.1 U<|Xs C<|X.finish C.1 (enc:=fun z:Value×List Int=> [z.1]) (fun _=>rfl) Dd (hb3.app _) fun ro5 hl5 hls5=>X.region C U U<|Rm C U U<|Ad C U U<|Xt C func114<|Hr hret (RO.le_trans hL2 (RO.le_trans hl3 hl5))<|⟨_,hls5, ?_,fun z hz=>?_⟩
   ·rw [bearsL, ←hz2,List.filter_map];rfl
   ·have:=hz3 z (List.mem_filter.1 hz).1
    exact⟨this.1.mono (RO.le_trans hl3 hl5),this.2⟩
theorem manyWeightsR_c{b:Bk}{v:Value}{ro:RO}(hv:BkV ro v b)(hb:b.good):CallP prog J (fnv 115) [v] ro (.int .i64 ((weightsL b).length:Int)):=by
 have hvv:=hv
 obtain⟨pb,pc,gb,gc,cb,cc,tb,tc,rfl,hp,hg,hc,ht⟩:=hv.all
 have hnc:=hb.nc
 have hml:(b.cs.map Pc.r).length=b.cs.length:=List.length_map ..
 refine CallP.intro hJ Kr fun c cs tail hret=>enter_X (n:=31) func115 U U (Nl U) ?_
 have C:Ctx prog main J (bf 115 .normal):=⟨hJ,by decide⟩
 refine Xr C U U<|R.box C U U U U fun p1=>Ad C U U<|Xr C U U<|Ad C U U<|Xs C<|Xr C U U<|Ad C U U<|X.block C.1<|X.loopI (ι:=Nat) C.1 (fun i=>i≤b.cs.length)
  (fun i=> [(1, .pointer (some ⟨p1,0,none⟩)),(3, .int .i64 ((spread ((b.cs.map Pc.r).take i)).length:Int)),(4, .int .i64 (i:Int))]) (fun _=>⟨ro,(p1, .cells [.int .i64 b.w, .slice pb b.ps.length pc, .slice gb b.gs.length gc, .slice cb b.cs.length cc, .slice tb b.ts.length tc].toArray 27 (0,0))::tail⟩) (fun i=>b.cs.length-i) 0 (Nat.zero_le _) rfl ⟨U,U,U,trivial⟩ fun i hi hnext=>?_
 refine Xs C<|Xr C U U<|Rm C U U<|Rf C 3 U U runUnderlying27 U sizeOf24<|Rl C U U isAgg24 V U<|Rn C U U runUnderlying24<|R.int C U U U U b_lss<|R.done C<|Xk C U (fun hlt=>?_) (fun hlt=>?_)
 ·have hi':i<b.cs.length:=O
  obtain⟨pp,po,pcap,pl,pty,pfq,hsl,hrop,hsub⟩:=hc.at Pc.len O
  cases hsl
  have hlo:pl[po+i*3+1]? =some (.int .i64 (b.cs[i]).r.lo):=(hsub i hi').get 1 Dd
  have hhi:pl[po+i*3+2]? =some (.int .i64 (b.cs[i]).r.hi):=(hsub i hi').get 2 Dd
  have hf:=hb.cs _ (List.getElem_mem hi')
  have hstep:spread ((b.cs.map Pc.r).take (i+1))=grow (spread ((b.cs.map Pc.r).take i)) (b.cs[i]).r:=by rw [grow_to _ O,List.getElem_map]
  have hle:(spread ((b.cs.map Pc.r).take i)).length≤27:=by
   have h1:=spread_le (rs:=(b.cs.map Pc.r).take i) fun r h=>by
    obtain⟨q,hq,rfl⟩:=List.mem_map.1 (List.mem_of_mem_take h)
    exact(hb.cs q hq).2.2.2
   have h2:3^ ((b.cs.map Pc.r).take i).length≤3^3:=Nat.pow_le_pow_right Dd (by rw [List.length_take];omega)
   omega
  have hl:=congrArg List.length hstep
  rw [grow_len,Rc.nums,rz_len] at hl
  have hf:1≤(b.cs[i]).r.lo∧(b.cs[i]).r.lo≤(b.cs[i]).r.hi∧(b.cs[i]).r.hi≤99∧(b.cs[i]).r.hi- (b.cs[i]).r.lo<3:=hf
  generalize(b.cs[i]).r=r at hlo hhi hf hl
  generalize(spread ((b.cs.map Pc.r).take i)).length=m at hle hl⊢
  have hm1:=mul_bdY (x:=(m:Int)) (y:=r.hi-r.lo+1) O O O O
  refine X.skip C.1<|Xs C<|X.block C.1<|Xd C fun hok=>Dm C 0 hok U U U<|Df (off':=3) C 1 hok U U U runUnderlying27 U sizeOf24 U<|D1 C 2 hok U U isAgg24 V U<|Dm C 3 hok U U U<|Dx C 4 hok U U U runUnderlying24 sizeOf79<|Df C 5 hok U U U runUnderlying79 U sizeOf65 U<|Df C 6 hok U U U runUnderlying65 U sizeOf3 U<|D2 C 7 hok U U isAgg3 hrop hhi<|Df (off':=3) C 8 hok U U U runUnderlying27 U sizeOf24 U<|D1 C 9 hok U U isAgg24 V U<|Dm C 10 hok U U U<|Dx C 11 hok U U U runUnderlying24 sizeOf79<|Df C 12 hok U U U runUnderlying79 U sizeOf65 U<|Df C 13 hok U U U runUnderlying65 U sizeOf3 U<|D2 C 14 hok U U isAgg3 hrop hlo<|Di C 15 hok U U U U U (b_sub O O)<|Di C 16 hok U U U U U (b_add O O)<|Di C 17 hok U U U U U (b_mul O O)<|Da C 18 hok U U<|D.done C hok Kr<|X.inBlock C.1<|X.region C U U<|Rm C U U<|Ra C U U U<|Ad C U U<|X.weaken ?_ (hnext (i+1) hi' O)
  refine⟨rfl, ?_,by simp [look],trivial⟩
  simp only [look]
  rw [hl,Int.natCast_mul,show(((r.hi+1-r.lo).toNat:Nat):Int)=r.hi-r.lo+1 by omega]
 ·obtain rfl:i=b.cs.length:=by omega
  rw [List.take_of_length_le O]
  refine X.exit C.1 U<|Xr C U U<|Rm C U U<|Ad C U U<|Xt C func115<|Hp hret ?_
  rfl
theorem knownR_c{b:Bk}{v:Value}{ro:RO}(hv:BkV ro v b)(hs:b.short)(h:Int):CallR prog J (fnv 120) [v, .int .i64 h] ro (fun w ro'=>∃vl,LsG ro' vl (knownR b h).1∧w= .tuple [vl, .int .i64 (knownR b h).2].toArray):=by
 have hvv:=hv
 obtain⟨pb,pc,gb,gc,cb,cc,tb,tc,rfl,hp,hg,hc,ht⟩:=hv.all
 refine CallR.intro hJ Kr fun c cs tail hret=>enter_X (n:=22) func120 U U (Nl U) ?_
 have C:Ctx prog main J (bf 120 .normal):=⟨hJ,by decide⟩
 refine Xr C U U<|R.box C U U U U fun p2=>R.asg C U U U<|Ad C U U<|Xs C<|Xr C U U<|R5 C U U isAgg27 sizeOf27 V Tk5<|R.callP C U U U U (checkBookR_c hJ hvv hs)<|Ad C U U<|Xr C U U<|Rm C U U<|R.int C U U U U b_neq<|R.done C<|X.cond C.1 U (fun h1=>?_) (fun h1=>?_)
 ·have h1:checkBook b≠0:=by simpa using h1
  have e0:openH b h=checkBook b:=by rw [openH,if_pos h1]
  have e:knownR b h=([],checkBook b):=by rw [knownR,e0,if_pos h1]
  refine Xr C U U<|Rm C U U<|R.asg C U U U<|Ad C U U<|X.ret C U U func120 U (by exact(.tmp U (.tmp U .nil)))<|Hr hret (RO.le_refl _) ?_
  rw [e];exact⟨_,LsG.nil,rfl⟩
 ·have h1:checkBook b=0:=by simpa using h1
  refine X.skip C.1<|Xs C<|Xr C U U<|Rm C U U<|R.int C U U U U b_neq<|R.done C<|X.cond C.1 U (fun h2=>?_) (fun h2=>?_)
  ·have h2:h≠0:=by simpa using h2
   have e0:openH b h=h:=by rw [openH,if_neg (by simp [h1]),if_pos h2]
   have e:knownR b h=([],h):=by rw [knownR,e0,if_pos h2]
   refine Xr C U U<|Rm C U U<|R.asg C U U U<|Ad C U U<|X.ret C U U func120 U (by exact(.tmp U (.tmp U .nil)))<|Hr hret (RO.le_refl _) ?_
   rw [e];exact⟨_,LsG.nil,rfl⟩
  ·have h2:h=0:=by simpa using h2
   have hb:=good_of h1
   have hle:=bearsL_le hb
   refine X.skip C.1<|Xr C U U<|R5 C U U isAgg27 sizeOf27 V Tk5<|R.callR C U U U U (bearsOfR_c hJ hvv hb) fun v1 ro1 hl1 hq1=>?_
   have hq:=hq1
   obtain⟨lb,lc,rfl⟩:=hq1.form
   refine Ad C U U<|Xs C<|Xr C U U<|Rm C U U<|Rn C U U runUnderlying23<|R.int C U U U U b_eql<|R.done C<|X.cond C.1 U (fun h3=>?_) (fun h3=>?_)
   ·have h3:cases b= []:=(bears_nil hb).2 (List.length_eq_zero_iff.1 (by simpa using h3))
    have e0:openH b h=9:=by rw [openH,if_neg (by simp [h1]),if_neg (by simp [h2]),if_pos h3]
    have e:knownR b h=([],9):=by rw [knownR,e0];rfl
    refine Xr C U U<|R.asg C U U U<|Ad C U U<|X.ret C U U func120 U (by exact(.tmp U (.tmp U .nil)))<|Hr hret hl1 ?_
    rw [e];exact⟨_,LsG.nil,rfl⟩
   ·have h3:¬cases b= []:=fun e=>by rw [(bears_nil hb).1 e] at h3;simp at h3
    have e0:openH b h=0:=by rw [openH,if_neg (by simp [h1]),if_neg (by simp [h2]),if_neg h3]
    have e:knownR b h=(bearsL b,0):=by rw [knownR,e0];rfl
    refine X.skip C.1<|Xr C U U<|Rm C U U<|R.asg C U U U<|Ad C U U<|X.ret C U U func120 U (by exact(.tmp U (.tmp U .nil)))<|Hr hret hl1 ?_
    rw [e];exact⟨_,hq,rfl⟩
end
end
section
theorem known_zero{b:Bk}{h:Int}(h0:openH b h=0):knownR b h=(bearsL b,0):=by rw [knownR,if_neg (fun e=>e h0)]
theorem known_not{b:Bk}{h:Int}(h0:openH b h≠0):knownR b h=([],openH b h):=by rw [knownR,if_pos h0]
theorem known_two{b:Bk}{h:Int}:(knownR b h).2=openH b h:=by
 by_cases h0:openH b h=0
 ·rw [known_zero h0,h0]
 ·rw [known_not h0]
theorem filter_flat{α β:Type}(l:List α)(f:α→List β)(q:β→Bool):(l.flatMap f).filter q=l.flatMap fun x=>(f x).filter q:=by
 induction l with
 |nil=>rfl
 |cons x l ih=>rw [List.flatMap_cons,List.filter_append,ih,List.flatMap_cons]
theorem flat_const{α β:Type}(l:List α)(f:α→List β)(m:Nat)(h:∀x∈l,(f x).length=m):(l.flatMap f).length=l.length*m:=by
 induction l with
 |nil=>simp
 |cons x l ih=>rw [List.flatMap_cons,List.length_append,ih fun y hy=>h y (by simp [hy]),h x Zi,List.length_cons,Nat.succ_mul];omega
end
end Go.Lg.B
namespace Go.Lg
open Go Go.Conc
theorem Buf.at{e:TypeId}{k:Nat}{tail own:List (Nat×Obj)}{v:Value}{cells:List Value}(h:Buf e k tail v cells own)(hp:0<cells.length):∃p len cap spare,v= .slice (some ⟨p,0,none⟩) len cap∧cells.length=len*k∧own=(p, .cells (cells++spare).toArray e (0,0))::tail∧∀cells':List Value,cells'.length=cells.length→Buf e k tail v cells' ((p, .cells (cells'++spare).toArray e (0,0))::tail):=by
 cases h with
 |nil=>simp at hp
 |blk c1 c2 c3=>exact⟨_,_,_,_,rfl,c1,rfl,fun cells' hc=> .blk (by rw [hc];exact c1) (by rw [List.length_append,hc, ←List.length_append];exact c2) c3⟩
end Go.Lg
namespace Go.Lg.B
open Go Go.Conc Go.Lg Go.Proofs Go.Proofs.Tryz
section
def ext(most:Int)(i:Nat)(l:List (List Int)):List (List Int):=(l.filter fun x=>decide ((x.length:Int)<most)).map fun x=>x++ [(i:Int)]
def sets(most:Int):Nat→List (List Int)
 |0=> [[]]
 |i+1=>sets most i++ext most i (sets most i)
theorem ext_le(most:Int)(i:Nat)(l:List (List Int)):(ext most i l).length≤l.length:=by
 unfold ext;rw [List.length_map];exact List.length_filter_le _ _
theorem sets_len(most:Int):∀n,(sets most n).length≤2^n
 |0=>by simp [sets]
 |n+1=>by
  have h1:=sets_len most n
  have h2:=ext_le most n (sets most n)
  simp only [sets,List.length_append]
  have:2^ (n+1)=2^n+2^n:=by rw [Nat.pow_succ];omega
  omega
theorem sets_pos(most:Int):∀n,0<(sets most n).length
 |0=>by simp [sets]
 |n+1=>by have:=sets_pos most n;simp only [sets,List.length_append];omega
theorem sets_each(most:Int):∀n,∀l∈sets most n,l.length≤n
 |0,l,h=>by simp [sets] at h;simp [h]
 |n+1,l,h=>by
  rcases List.mem_append.1 h with h|h
  ·have:=sets_each most n l h;omega
  ·obtain⟨x,hx,rfl⟩:=List.mem_map.1 h
   have:=sets_each most n x (List.mem_filter.1 hx).1
   simp;omega
theorem ext_take(most:Int)(i:Nat)(l:List (List Int)){k:Nat}(h:k<l.length):ext most i (l.take (k+1))=ext most i (l.take k)++(if(l[k].length:Int)<most then [l[k]++ [(i:Int)]] else []):=by
 unfold ext
 rw [List.take_add_one,List.getElem?_eq_getElem h,List.filter_append,List.map_append]
 congr 1
 by_cases hm:(l[k].length:Int)<most<;>simp [hm]
abbrev LE:=Value×List Int
def le(p:LE):List Value:= [p.1]
theorem le_len(p:LE):(le p).length=1:=rfl
theorem le_flat(xs:List LE):(xs.flatMap le).length=xs.length:=by rw [flatMap_len le_len,Nat.mul_one]
theorem le_get(xs:List LE)(sp:List Value){k:Nat}(h:k<xs.length):(xs.flatMap le++sp)[0+k*1]? =some xs[k].1:=by
 have hl:=le_flat xs
 rw [Nat.zero_add,Nat.mul_one,List.getElem?_append_left O]
 clear hl
 induction xs generalizing k with
 |nil=>simp at h
 |cons x xs ih=>
  cases k with
  |zero=>rfl
  |succ k=>exact ih (by simpa using h)
section
variable {main:Bool}{J:Goroutine→Mem→Prop}(hJ:Closed prog main J)
include hJ
theorem setsR_c{n:Nat}{most:Int}(hn:n≤5){ro:RO}:CallR prog J (fnv 137) [.int .i64 (n:Int), .int .i64 most] ro (fun x ro'=>LsG ro' x (sets most n)):=by
 refine CallR.intro hJ Kr fun c cs tail hret=>enter_X (n:=42) func137 U U (Nl U) ?_
 have C:Ctx prog main J (bf 137 .normal):=⟨hJ,by decide⟩
 refine Xr C U U<|Ad C U U<|Xr C U U<|R.buildSlice C (vs:=_) U U (show pvals _ _=some (numbered 0 [_]) from rfl) U runUnderlying23 sizeOf28 zeroValue28 Dd (Cat.one U U) fun p9=>Ad C U U<|Xs C<|Xr C U U<|Ad C U U<|X.block C.1<|X.loopI (ι:=Nat×RO×Value×List LE×List (Nat×Obj)) C.1 (fun s=>s.1≤n∧ro.le s.2.1∧Buf 28 1 tail s.2.2.1 (s.2.2.2.1.flatMap le) s.2.2.2.2∧s.2.2.2.1.map (·.2)=sets most s.1∧∀p∈s.2.2.2.1,LsI s.2.1 p.1 p.2∧capOk p.1) (fun s=> [(0, .int .i64 (n:Int)),(1, .int .i64 most),(5,s.2.2.1),(6, .int .i64 (s.1:Int))])
  (fun s=>⟨s.2.1,s.2.2.2.2⟩) (fun s=>n-s.1) (0,ro, .slice (some ⟨p9,0,none⟩) 1 1, [(.slice none 0 0, [])],(p9, .cells [.slice none 0 0].toArray 28 (0,0))::tail) ⟨Nat.zero_le _,RO.le_refl _,Buf.blk (cells:= [.slice none 0 0]) (spare:= []) (len:=1) (cap:=1) rfl rfl (Nat.le_refl _),rfl,fun p hp=>by simp at hp;subst hp;exact⟨Ls.nil,_,_,_,rfl,Nat.le_refl _⟩⟩ rfl ⟨U,U,U,U,trivial⟩ fun s hs hnext=>?_
 obtain⟨i,ro1,v1,xs1,own1⟩:=s
 obtain⟨hi,hle1,hb1,hxs1,hls1⟩:=hs
 simp only at hi hle1 hb1 hxs1 hls1 hnext⊢
 have hlen1:xs1.length=(sets most i).length:=by rw [←hxs1,List.length_map]
 have hspos:=sets_pos most i
 have hpow:(sets most i).length≤2^i:=sets_len most i
 have hpow5:2^i≤2^5:=Nat.pow_le_pow_right Dd O
 have hff1:=le_flat xs1
 obtain⟨b1,c1,hv1⟩:=hb1.form Dd
 rw [hff1,Nat.div_one] at hv1
 subst hv1
 refine Xs C<|Xr C U U<|Rm C U U<|Rm C U U<|R.int C U U U U b_lss<|R.done C<|Xk C U (fun hlt=>?_) (fun hlt=>?_)
 ·have hi':i<n:=O
  refine X.skip C.1<|Xs C<|X.block C.1<|Xr C U U<|Rm C U U<|Rn C U U runUnderlying23<|Ad C U U<|Xr C U U<|Ad C U U<|X.block C.1<|X.loopI (ι:=Nat×RO×Value×List LE×List (Nat×Obj)) C.1 (fun s=>s.1≤xs1.length∧ro1.le s.2.1∧Buf 28 1 tail s.2.2.1 (s.2.2.2.1.flatMap le) s.2.2.2.2∧s.2.2.2.1.map (·.2)=sets most i++ext most i ((sets most i).take s.1)∧∀p∈s.2.2.2.1,LsI s.2.1 p.1 p.2∧capOk p.1) (fun s=> [(0, .int .i64 (n:Int)),(1, .int .i64 most),(5,s.2.2.1),(6, .int .i64 (i:Int)),(7, .int .i64 (xs1.length:Int)),(8, .int .i64 (s.1:Int))])
   (fun s=>⟨s.2.1,s.2.2.2.2⟩) (fun s=>xs1.length-s.1) (0,ro1, .slice b1 xs1.length c1,xs1,own1) ⟨Nat.zero_le _,RO.le_refl _,hb1,by simp [hxs1,ext],hls1⟩ rfl ⟨U,U,U,U,U,U,trivial⟩ fun s hs hnext2=>?_
  obtain⟨k,ro2,v2,xs2,own2⟩:=s
  obtain⟨hk,hle2,hb2,hxs2,hls2⟩:=hs
  simp only at hk hle2 hb2 hxs2 hls2 hnext2⊢
  have hel:=ext_le most i ((sets most i).take k)
  have htk:((sets most i).take k).length≤(sets most i).length:=by rw [List.length_take];omega
  have hlen2:=congrArg List.length hxs2
  rw [List.length_map,List.length_append] at hlen2
  have hff2:=le_flat xs2
  obtain⟨p2',len2,cap2,spare2,rfl,hc2,rfl,hset2⟩:=hb2.at O
  obtain rfl:len2=xs2.length:=by omega
  refine Xs C<|Xr C U U<|Rm C U U<|Rm C U U<|R.int C U U U U b_lss<|R.done C<|Xk C U (fun hlt2=>?_) (fun hlt2=>?_)
  ·have hk1:k<(sets most i).length:=O
   have hk2:k<xs2.length:=O
   have hxk:xs2[k].2=(sets most i)[k]:=by
    have h1:(xs2.map (·.2))[k]? =some (sets most i)[k]:=by rw [hxs2,List.getElem?_append_left hk1,List.getElem?_eq_getElem hk1]
    rw [List.getElem?_map,List.getElem?_eq_getElem hk2] at h1
    simpa using h1
   have hlk:=(hls2 _ (List.getElem_mem hk2)).1
   have hx:=le_get xs2 spare2 hk2
   generalize hL:xs2[k].2=l at hxk hlk
   generalize xs2[k].1=vk at hx hlk
   have hll:l.length≤i:=by rw [hxk];exact sets_each most i _ (List.getElem_mem hk1)
   have hlk0:=hlk
   obtain⟨bk,ck,rfl⟩:=hlk.form
   have hext:=ext_take most i (sets most i) hk1
   rw [←hxk] at hext
   refine X.skip C.1<|Xs C<|X.block C.1<|Xr C U U<|Rm C U U<|Rm C U U<|Rx C U U U runUnderlying23 sizeOf28<|R.loadOne C U U U isAgg28 V hx<|Rn C U U runUnderlying28<|Rm C U U<|R.int C U U U U b_lss<|R.done C<|Xk C U (fun hm=>?_) (fun hm=>?_)
   ·rw [if_pos hm] at hext
    have hfl:=flat_len l
    refine X.region C U U<|Rm C U U<|R.buildSlice C (vs:=_) U U (show pvals _ _=some (numbered 0 []) from rfl) U runUnderlying28 sizeOf3 zeroValue3 Dd (.nil) fun p30=>Rm C U U<|Rm C U U<|Rx C U U U runUnderlying23 sizeOf28<|R.loadOne C U U U isAgg28 V hx<|R.append (kk:=1) C U U U U runUnderlying28 runUnderlying28 (fun _=>nofun) (show prog.info? 3=some Tryz.t3 by kernel_rfl) U U U Dd Dd (Buf.blk (cells:= []) (spare:= []) (len:=0) (cap:=0) U U (Nat.le_refl _)) (hlk0.rd ic_len) (ones_ic l) (by simp only [List.length_nil];omega) fun v' own' hb'=>Rm C U U<|R.buildSlice C (vs:=_) U U (show pvals _ _=some (numbered 0 [_]) from rfl) U runUnderlying28 sizeOf3 zeroValue3 Dd (Cat.one U U) fun p37=>R.append1 (kk:=1) C U U U U runUnderlying28 runUnderlying28 (fun _=>nofun) (show prog.info? 3=some Tryz.t3 by kernel_rfl) U U U Dd Dd hb' U U (by simp only [List.length_append,List.length_cons,List.length_nil];omega) fun v' own' hb'=>?_
    have e3:([]++l.flatMap ic)++ [Value.int .i64 (i:Int)]=(l++ [(i:Int)]).flatMap ic:=by simp [List.flatMap_append,ic]
    rw [e3] at hb'
    have hco:=hb'.capOk
    refine R.finish C.1 ic_len Dd hb' fun ro3 hl3 hls3=>?_
    obtain⟨b3,c3,rfl⟩:=hls3.form
    refine R.buildSlice C (vs:=_) U U (show pvals _ _=some (numbered 0 [_]) from rfl) U runUnderlying23 sizeOf28 zeroValue28 Dd (Cat.one U U) fun p39=>R.append1 (kk:=1) C U U U U runUnderlying23 runUnderlying23 (fun _=>nofun) (show prog.info? 28=some Tryz.t28 by kernel_rfl) U U U Dd Dd hb2 U U (by simp only [List.length_append,List.length_cons,List.length_nil];omega) fun v' own' hb'=>Ad C U U<|X.inBlock C.1<|X.region C U U<|Rm C U U<|Ra C U U U<|Ad C U U<|X.weaken ?_ (hnext2 (k+1,ro3,_,xs2++ [(.slice b3 (l++ [(i:Int)]).length c3,l++ [(i:Int)])],_) ⟨O,RO.le_trans hle2 hl3,by simpa [List.flatMap_append,le] using hb', ?_,fun p hp=>?_⟩ O)
    ·exact⟨rfl,rfl,rfl,rfl,rfl,by simp [look],trivial⟩
    ·rw [List.map_append,hxs2,hext,List.append_assoc];rfl
    ·rcases List.mem_append.1 hp with hp|hp
     ·exact⟨(hls2 p hp).1.mono hl3,(hls2 p hp).2⟩
     ·rw [List.mem_singleton.1 hp];exact⟨hls3,hco⟩
   ·rw [if_neg hm,List.append_nil] at hext
    refine X.skip C.1<|X.inBlock C.1<|X.region C U U<|Rm C U U<|Ra C U U U<|Ad C U U<|X.weaken ?_ (hnext2 (k+1,ro2,_,xs2,_) ⟨O,hle2,hb2,by rw [hxs2,hext],hls2⟩ O)
    exact⟨rfl,rfl,rfl,rfl,rfl,by simp [look],trivial⟩
  ·obtain rfl:k=xs1.length:=by omega
   rw [List.take_of_length_le O] at hxs2
   refine X.exit C.1 U<|X.inBlock C.1<|X.region C U U<|Rm C U U<|Ra C U U U<|Ad C U U<|X.weaken ?_ (hnext (i+1,ro2,_,xs2,_) ⟨hi',RO.le_trans hle1 hle2,hb2,hxs2,hls2⟩ O)
   exact⟨rfl,rfl,rfl,by simp [look],trivial⟩
 ·obtain rfl:i=n:=by omega
  refine X.exit C.1 U<|Xr C U U<|R.finish C.1 le_len Dd hb1 fun ro3 hl3 hls3=>Rm C U U<|Ad C U U<|Xt C func137<|Hr hret (RO.le_trans hle1 hl3) ?_
  exact⟨xs1,hls3,hxs1,fun p hp=>⟨(hls1 p hp).1.mono hl3,(hls1 p hp).2⟩⟩
end
end
section
theorem mem_sets{most:Int}:∀ {n:Nat},(n:Int)≤most→∀ {x:List Int},x∈sets most n↔x.Pairwise (· < ·)∧∀k∈x,0≤k∧k<(n:Int)
 |0,_,x=>by
  constructor
  ·intro h;simp [sets] at h;subst h;exact⟨.nil,fun k hk=>nomatch hk⟩
  ·rintro⟨_,h⟩
   cases x with
   |nil=>simp [sets]
   |cons y l=>have:=h y Zi;omega
 |n+1,hn,x=>by
  have ih:=fun {x}=>mem_sets (most:=most) (n:=n) O (x:=x)
  rw [sets,List.mem_append,ih]
  have he:x∈ext most n (sets most n)↔ ∃y∈sets most n,x=y++ [(n:Int)]:=by
   unfold ext
   rw [List.mem_map]
   constructor
   ·rintro⟨y,hy,rfl⟩;exact⟨y,(List.mem_filter.1 hy).1,rfl⟩
   ·rintro⟨y,hy,rfl⟩
    have:=sets_each most n y hy
    exact⟨y,List.mem_filter.2 ⟨hy,by rw [dT];omega⟩,rfl⟩
  rw [he]
  constructor
  ·rintro(⟨h1,h2⟩|⟨y,hy,rfl⟩)
   ·exact⟨h1,fun k hk=>by have:=h2 k hk;omega⟩
   ·obtain⟨h1,h2⟩:=ih.1 hy
    refine⟨List.pairwise_append.2 ⟨h1,List.pairwise_singleton _ _,fun a ha c hc=>?_⟩,fun k hk=>?_⟩
    ·rw [List.mem_singleton.1 hc];exact(h2 a ha).2
    ·rcases List.mem_append.1 hk with hk|hk
     ·have:=h2 k hk;omega
     ·rw [List.mem_singleton.1 hk];omega
  ·rintro⟨h1,h2⟩
   rcases List.eq_nil_or_concat x with rfl|⟨y,a,rfl⟩
   ·exact .inl ⟨.nil,fun k hk=>nomatch hk⟩
   ·rw [List.concat_eq_append] at h1 h2⊢
    obtain⟨h3,_,h4⟩:=List.pairwise_append.1 h1
    have h5:∀k∈y,0≤k∧k<a:=fun k hk=>⟨(h2 k (by simp [hk])).1,h4 k hk a Zi⟩
    have h6:=h2 a Zi
    by_cases e:a=n
    ·subst e;exact .inr ⟨y,ih.2 ⟨h3,h5⟩,rfl⟩
    ·refine .inl ⟨h1,fun k hk=>?_⟩
     rcases List.mem_append.1 hk with hk|hk
     ·have:=h5 k hk;omega
     ·rw [List.mem_singleton.1 hk];omega
theorem fewest_pick{n:Nat}{is:Nat→Bool}{P:List Int→Bool}(h:∀m,m<2^n→is m=P (listOf n m)){y:List Int}(hy:y∈sets n n)(h3:P y=true)(h4:∀x∈sets n n,P x=true→¬smaller x y=true):fewestOf n is=some y:=by
 obtain⟨h1,h2⟩:=(mem_sets (Int.le_refl _)).1 hy
 rcases fewestOf_law h with⟨_,h5⟩|⟨z,h5,h6,h7,h8,h9⟩
 ·have:=h5 y h1 h2;rw [h3] at this;cases this
 ·rw [h5];exact congrArg some (smaller_total (h4 z ((mem_sets (Int.le_refl _)).2 ⟨h6,h7⟩) h8) (h9 y h1 h2 h3))
def bestL(P:List Int→Bool)(z:List Int)(l:List (List Int)):List Int:=((l.filter P).foldl offer (some z)).getD []
theorem bestL_some(P:List Int→Bool)(z:List Int)(l:List (List Int)):(l.filter P).foldl offer (some z)=some (bestL P z l):=by
 obtain⟨y,h,_⟩:=offer_least (l.filter P) z
 rw [bestL,h];rfl
theorem bestL_take(P:List Int→Bool)(z:List Int)(l:List (List Int)){i:Nat}(h:i<l.length):bestL P z (l.take (i+1))=if(if smaller l[i] (bestL P z (l.take i)) then P l[i] else false)=true then l[i] else bestL P z (l.take i):=by
 have e:∀x y,((some x).getD y:List Int)=x:=fun _ _=>rfl
 rw [bestL,List.take_succ_eq_append_getElem h,List.filter_append,List.foldl_append,bestL_some]
 cases hp:P l[i]
 ·simp [List.filter_cons,hp]
 ·by_cases hs:smaller l[i] (bestL P z (l.take i))=true<;>simp [List.filter_cons,hp,offer,hs]
theorem bestL_law(P:List Int→Bool)(z:List Int)(l:List (List Int))(hz:P z=true):(bestL P z l=z∨bestL P z l∈l)∧P (bestL P z l)=true∧∀x∈l,P x=true→¬smaller x (bestL P z l)=true:=by
 obtain⟨y,h1,h2,h3⟩:=offer_least (l.filter P) z
 rw [bestL_some] at h1
 cases h1
 refine⟨h2.imp id fun h=>(List.mem_filter.1 h).1, ?_,fun x hx hp=>h3 x (.inr (List.mem_filter.2 ⟨hx,hp⟩))⟩
 rcases h2 with h|h
 ·rw [h];exact hz
 ·exact(List.mem_filter.1 h).2
theorem up_sets(n:Nat):rz 0 n∈sets n n:=(mem_sets (Int.le_refl _)).2 ⟨rz_asc _ _,fun k hk=>by have:=mem_rz.1 hk;omega⟩
end
section
def noneP(b:Bk)(x:List Int):Bool:=decide ((bearsL (b.onlyL x)).length=0)
theorem sets_range{n:Nat}:∀x∈sets (n:Int) n,∀k∈x,0≤k∧k<(n:Int):=fun _ hx=>((mem_sets (Int.le_refl _)).1 hx).2
theorem onlyL_good{b:Bk}(hch:checkBook b=0){x:List Int}(hl:x.length≤b.ts.length)(hx:∀k∈x,0≤k∧k<(b.ts.length:Int)):(b.onlyL x).good:=
 good_of (onlyL_check hch (Nat.le_trans hl (good_of hch).nt) hx)
theorem noneP_eq{b:Bk}(hch:checkBook b=0){x:List Int}(hl:x.length≤b.ts.length)(hx:∀k∈x,0≤k∧k<(b.ts.length:Int)):noneP b x=noneL b x:=by
 unfold noneP noneL
 exact decide_eq_decide.2 (List.length_eq_zero_iff.trans (bears_nil (onlyL_good hch hl hx)).symm)
theorem noneP_all{b:Bk}(hch:checkBook b=0)(hL:cases b= []):noneP b (rz 0 b.ts.length)=true:=by
 rw [noneP_eq hch (by rw [rz_len];exact Nat.le_refl _) (sets_range _ (up_sets _)),noneL,onlyL_all,hL];rfl
theorem clashR_best{b:Bk}(hch:checkBook b=0)(hL:cases b= []):clashR b=(bestL (noneP b) (rz 0 b.ts.length) (sets b.ts.length b.ts.length),0):=by
 rw [clashR,if_neg (fun e=>e hch),if_neg (fun e=>e hL)]
 obtain⟨h1,h2,h3⟩:=bestL_law (noneP b) (rz 0 b.ts.length) (sets b.ts.length b.ts.length) (noneP_all hch hL)
 have h4:bestL (noneP b) (rz 0 b.ts.length) (sets b.ts.length b.ts.length)∈sets b.ts.length b.ts.length:=by
  rcases h1 with h1|h1
  ·rw [h1];exact up_sets _
  ·exact h1
 have hP:∀x∈sets b.ts.length b.ts.length,noneP b x=noneL b x:=fun x hx=>noneP_eq hch (sets_each _ _ x hx) (sets_range x hx)
 rw [fewest_pick (P:=noneL b) (fun m _=>noneLeft_list b m) h4 (by rw [←hP _ h4];exact h2) fun x hx hx2=>h3 x hx (by rw [hP x hx];exact hx2)]
 rfl
def heldP(b:Bk)(L:List (List Int))(g k:Int):Nat:=(L.filter fun p=>lifts b p g k).length
theorem heldP_le(b:Bk)(L:List (List Int))(g k:Int):heldP b L g k≤L.length:=List.length_filter_le _ _
theorem heldP_take(b:Bk)(L:List (List Int))(g k:Int){i:Nat}(h:i<L.length):heldP b (L.take (i+1)) g k=heldP b (L.take i) g k+if lifts b L[i] g k then 1 else 0:=by
 unfold heldP
 rw [List.take_succ_eq_append_getElem h,List.filter_append,List.length_append,List.filter_cons,List.filter_nil]
 cases lifts b L[i] g k<;>rfl
theorem heldOf_mul(b:Bk)(g k:Int):heldOf b g k=heldP b (bearsL b) g k*(weightsL b).length:=by
 unfold heldOf heldP cases
 rw [filter_flat]
 induction bearsL b with
 |nil=>simp
 |cons p l ih=>
  have e:(((weightsL b).map fun w=>((p,w):Tn)).filter fun t=>lifts b t.1 g k)=if lifts b p g k then(weightsL b).map fun w=>((p,w):Tn) else []:=by
   rw [List.filter_map]
   cases h:lifts b p g k
   ·rw [List.filter_eq_nil_iff.2 (fun w _=>by simp [h])];rfl
   ·rw [List.filter_eq_self.2 (fun w _=>by simp [h])];rfl
  rw [List.flatMap_cons,List.length_append,ih,e,List.filter_cons]
  cases h:lifts b p g k
  ·simp
  ·simp [Nat.succ_mul];omega
theorem cases_times(b:Bk):(cases b).length=(bearsL b).length*(weightsL b).length:=by
 unfold cases;exact flat_const _ _ _ fun _ _=>List.length_map ..
def askPS(b:Bk)(L:List (List Int))(acc:Best3)(g k:Int):Best3:=if max (heldP b L g k:Int) ((L.length:Int) -heldP b L g k)<acc.2.2 then(g,k,max (heldP b L g k:Int) ((L.length:Int) -heldP b L g k)) else acc
def askPG(b:Bk)(L:List (List Int))(g:Int)(acc:Best3):Nat→Best3
 |0=>acc
 |i+1=>askPS b L (askPG b L g acc i) g ((i+1:Nat):Int)
def askPT(b:Bk)(L:List (List Int)):Nat→Best3
 |0=>(-1,0,(L.length:Int))
 |g+1=>askPG b L g (askPT b L g) 99
def timesW(W:Nat)(r:Best3):Best3:=(r.1,r.2.1,r.2.2*W)
theorem max_times{a c:Int}{W:Nat}:max (a*W) (c*W)=max a c*W:=by
 have hW:(0:Int)≤W:=Int.natCast_nonneg _
 rcases Int.le_total a c with h|h
 ·rw [Int.max_eq_right h,Int.max_eq_right (Int.mul_le_mul_of_nonneg_right h hW)]
 ·rw [Int.max_eq_left h,Int.max_eq_left (Int.mul_le_mul_of_nonneg_right h hW)]
theorem askStep_times{b:Bk}(hW:0<(weightsL b).length)(acc:Best3)(g k:Int):askStep b (timesW (weightsL b).length acc) g k=timesW (weightsL b).length (askPS b (bearsL b) acc g k):=by
 have hm:max (heldOf b g k:Int) (((cases b).length:Int) -heldOf b g k)=max (heldP b (bearsL b) g k:Int) (((bearsL b).length:Int) -heldP b (bearsL b) g k)*(weightsL b).length:=by
  rw [heldOf_mul,cases_times,Int.natCast_mul,Int.natCast_mul, ←Int.sub_mul,max_times]
 unfold askStep askPS
 rw [hm]
 generalize max (heldP b (bearsL b) g k:Int) (((bearsL b).length:Int) -heldP b (bearsL b) g k)=m
 have hWi:(0:Int)<((weightsL b).length:Int):=O
 by_cases h:m<acc.2.2
 ·rw [if_pos h,if_pos (show m*((weightsL b).length:Int)<(timesW (weightsL b).length acc).2.2 from Int.mul_lt_mul_of_pos_right h hWi)];rfl
 ·rw [if_neg h,if_neg (fun e:m*((weightsL b).length:Int)<(timesW (weightsL b).length acc).2.2=>h (Int.lt_of_mul_lt_mul_right e (Int.le_of_lt hWi)))]
theorem askTo_times{b:Bk}(hW:0<(weightsL b).length):∀G:Nat,askTo b G=timesW (weightsL b).length (askPT b (bearsL b) G)
 |0=>by rw [askTo,askPT,timesW,cases_times,Int.natCast_mul]
 |G+1=>by
  rw [askTo,askPT,askTo_times hW G]
  generalize askPT b (bearsL b) G=acc
  generalize 99=n
  induction n with
  |zero=>rfl
  |succ n ih=>rw [askGear,askPG,ih,askStep_times hW]
def AskB(L:List (List Int))(r:Best3):Prop:=0≤r.2.2∧r.2.2≤L.length
theorem askPS_bd{b:Bk}{L:List (List Int)}{acc:Best3}(h:AskB L acc)(g k:Int):AskB L (askPS b L acc g k):=by
 have hl:=heldP_le b L g k
 unfold AskB at*
 unfold askPS
 split
 ·exact⟨by simp only;omega,by simp only;omega⟩
 ·exact h
theorem askPG_bd{b:Bk}{L:List (List Int)}{acc:Best3}(h:AskB L acc)(g:Int):∀i,AskB L (askPG b L g acc i)
 |0=>h
 |i+1=>askPS_bd (askPG_bd h g i) _ _
theorem askPT_bd{b:Bk}{L:List (List Int)}:∀G,AskB L (askPT b L G)
 |0=>⟨by simp only [askPT];omega,by simp only [askPT];exact Int.le_refl _⟩
 |G+1=>askPG_bd (askPT_bd G) _ _
theorem new_tiny{b:Bk}{h:Int}(hc:h=0→b.good):(newB b h).tiny:=by
 unfold newB
 split
 ·exact tiny_of (hc ‹_›)
 ·exact tiny_nothing
theorem try_good{b:Bk}{t:Ts}(h:tryH b t=0):(b.tried t).good:=by
 unfold tryH at h
 split at h
 ·exact absurd h ‹_›
 ·exact(openH_good h).1
theorem know_good{b:Bk}{i:Int}{y:Rc}(h:knowH b i y=0):(b.borne i.toNat ((b.part i).r.meet y)).good:=by
 unfold knowH at h
 split at h
 ·exact absurd h ‹_›
 split at h
 ·exact absurd h ‹_›
 split at h
 ·exact absurd h ‹_›
 ·exact(openH_good h).1
theorem weigh_good{b:Bk}{i:Int}{y:Rc}(h:weighH b i y=0):(b.weighed i.toNat ((b.piece i).r.meet y)).good:=by
 unfold weighH at h
 split at h
 ·exact absurd h ‹_›
 split at h
 ·exact absurd h ‹_›
 split at h
 ·exact absurd h ‹_›
 ·exact(openH_good h).1
theorem Bk.short.tried{b:Bk}(h:b.short)(hn:b.ts.length≤3)(t:Ts):(b.tried t).short:=⟨h.ps,h.gs,h.cs,by simp [Bk.tried];omega⟩
theorem knownH_cases(r y:Rc)(l:Int):knownH r y l=if isReach y l 99=true then(if(r.meet y).hi<(r.meet y).lo then 9 else 0) else 1:=by
 unfold knownH;cases isReach y l 99<;>rfl
section
variable {main:Bool}{J:Goroutine→Mem→Prop}(hJ:Closed prog main J)
include hJ
theorem clashRef_c{b:Bk}{v:Value}{ro:RO}(hv:BkV ro v b)(hs:b.short):CallR prog J (fnv 83) [v] ro (fun w ro'=>∃vl,LsI ro' vl (clashR b).1∧w= .tuple [vl, .int .i64 (clashR b).2].toArray):=by
 have hvv:=hv
 obtain⟨pb,pc,gb,gc,cb,cc,tb,tc,rfl,hp,hg,hc,ht⟩:=hv.all
 refine CallR.intro hJ Kr fun c cs tail hret=>enter_X (n:=54) func83 U U (Nl U) ?_
 have C:Ctx prog main J (bf 83 .normal):=⟨hJ,by decide⟩
 refine Xr C U U<|R.box C U U U U fun p1=>R.asg C U U U<|Ad C U U<|Xs C<|Xr C U U<|R5 C U U isAgg27 sizeOf27 V Tk5<|R.callP C U U U U (checkBookR_c hJ hvv hs)<|Ad C U U<|Xr C U U<|Rm C U U<|R.int C U U U U b_neq<|R.done C<|X.cond C.1 U (fun h1=>?_) (fun h1=>?_)
 ·have h1:checkBook b≠0:=by simpa using h1
  refine Xr C U U<|Rm C U U<|R.asg C U U U<|Ad C U U<|X.ret C U U func83 U (by exact(.tmp U (.tmp U .nil)))<|Hr hret (RO.le_refl _) ?_
  rw [clashR,if_pos h1];exact⟨_,Ls.nil,rfl⟩
 ·have h1:checkBook b=0:=by simpa using h1
  have hb:=good_of h1
  have hle:=bearsL_le hb
  have hnt:=hb.nt
  refine X.skip C.1<|Xs C<|Xr C U U<|R5 C U U isAgg27 sizeOf27 V Tk5<|R.callR C U U U U (bearsOfR_c hJ hvv hb) fun v1 ro1 hl1 hq1=>?_
  obtain⟨lb,lc,rfl⟩:=hq1.form
  refine Rn C U U runUnderlying23<|R.int C U U U U b_gtr<|R.done C<|X.cond C.1 U (fun h2=>?_) (fun h2=>?_)
  ·have h2:cases b≠ []:=fun e=>by rw [(bears_nil hb).1 e] at h2;simp at h2
   refine Xr C U U<|R.asg C U U U<|Ad C U U<|X.ret C U U func83 U (by exact(.tmp U (.tmp U .nil)))<|Hr hret hl1 ?_
   rw [clashR,if_neg (fun e=>e h1),if_pos h2];exact⟨_,Ls.nil,rfl⟩
  ·have h2:cases b= []:=(bears_nil hb).2 (List.length_eq_zero_iff.1 (by simp only [dF] at h2;omega))
   have hcl:=clashR_best h1 h2
   have hz0:=noneP_all h1 h2
   refine X.skip C.1<|Xr C U U<|Rf C 4 U U runUnderlying27 U sizeOf25<|Rl C U U isAgg25 V U<|Rn C U U runUnderlying25<|Ad C U U<|Xr C U U<|Rm C U U<|R.callR C U U U U (uptoR_c hJ (n:=b.ts.length) O) fun v2 ro2 hl2 hq2=>Rm C U U<|Rm C U U<|R.callR C U U U U (setsR_c hJ (n:=b.ts.length) (most:=(b.ts.length:Int)) O) fun v3 ro3 hl3 hq3=>?_
   have hsl:=sets_len (b.ts.length:Int) b.ts.length
   have hse:=sets_each (b.ts.length:Int) b.ts.length
   have hsr:=sets_range (n:=b.ts.length)
   have hpw:2^b.ts.length≤2^3:=Nat.pow_le_pow_right Dd O
   have hbest:∀l:List (List Int),(∀x∈l,x.length≤b.ts.length)→(bestL (noneP b) (rz 0 b.ts.length) l).length≤b.ts.length:=fun l hl=>by
    rcases(bestL_law (noneP b) (rz 0 b.ts.length) l hz0).1 with h|h
    ·rw [h,rz_len];exact Nat.le_refl _
    ·exact hl _ h
   rw [hcl] at hret
   generalize sets (b.ts.length:Int) b.ts.length=S at hq3 hsl hse hsr hret
   obtain⟨sb,sc,rfl⟩:=hq3.form
   generalize rz 0 b.ts.length=z at hq2 hbest hret
   have hL3:=RO.le_trans hl1 (RO.le_trans hl2 hl3)
   have hz3:=hq2.mono hl3
   have hv3:=hvv.mono hL3
   refine R.asg C U U U<|Ad C U U<|Xs C<|Xr C U U<|Ad C U U<|X.block C.1<|X.loopI (ι:=Nat×RO×Value) C.1 (fun s=>s.1≤S.length∧ro3.le s.2.1∧LsI s.2.1 s.2.2 (bestL (noneP b) z (S.take s.1))) (fun s=> [(7, .slice sb S.length sc),(6,s.2.2),(8, .int .i64 (s.1:Int)),(1, .pointer (some ⟨p1,0,none⟩))]) (fun s=>⟨s.2.1,(p1, .cells [.int .i64 b.w, .slice pb b.ps.length pc, .slice gb b.gs.length gc, .slice cb b.cs.length cc, .slice tb b.ts.length tc].toArray 27 (0,0))::tail⟩) (fun s=>S.length-s.1) (0,ro3,_) ⟨Nat.zero_le _,RO.le_refl _,hz3⟩ U ⟨U,U,U,U,trivial⟩ fun s hs' hnext=>?_
   obtain⟨i,ro5,vz⟩:=s
   obtain⟨hi,hle5,hz⟩:=hs'
   simp only at hi hle5 hz hnext⊢
   have hzz:=hz
   obtain⟨b9,c9,rfl⟩:=hz.form
   have hv5:=hv3.mono hle5
   refine Xs C<|Xr C U U<|Rm C U U<|Rm C U U<|Rn C U U runUnderlying23<|R.int C U U U U b_lss<|R.done C<|Xk C U (fun hlt=>?_) (fun hlt=>?_)
   ·have hi':i<S.length:=O
    have hbl:=hbest (S.take i) fun x hx=>hse x (List.mem_of_mem_take hx)
    have hst:=bestL_take (noneP b) z S hi'
    have hxl:=hse _ (List.getElem_mem hi')
    have hxr:=hsr _ (List.getElem_mem hi')
    have hgo:=onlyL_good h1 hxl hxr
    obtain⟨ap,ao,acap,al,aty,afq,hasl,haro,hasub⟩:=(hq3.mono hle5).at O
    cases hasl
    obtain⟨qb,qc,hqat,hqc,hqls⟩:=hasub i hi'
    generalize S[i]=x at hst hxl hxr hgo hqat hqc hqls
    generalize bestL (noneP b) z (S.take i)=y at hz hzz hbl hst hnext⊢
    refine X.skip C.1<|Xs C<|X.block C.1<|Xs C<|Xd C fun hok=>Dm C 0 hok U U U<|Dm C 1 hok U U U<|Dx C 2 hok U U U runUnderlying23 sizeOf28<|D2 C 3 hok U U isAgg28 haro hqat<|Dm C 4 hok U U U<|De 5 (some 37) [false] hok (fun _ _ A hk=>?_)
    refine R.callP C U (A.w U U) (A.x U U) (A.s U U) (smallerR_c hJ hqls hzz O O) (hk _ _ ⟨QFs.nil, ?_⟩)
    refine Dm C 6 hok U U U<|D.fix (t:=38) U (fun hgd=>?_) (fun hgd=>?_)
    ·refine D5 C 7 hok U U isAgg27 sizeOf27 V Tk5<|Dm C 8 hok U U U<|Dm C 9 hok U U U<|Dx C 10 hok U U U runUnderlying23 sizeOf28<|D2 C 11 hok U U isAgg28 haro hqat<|De 12 (some 44) [false,false] hok (fun _ _ A hk=>?_)
     refine R.callR C U (A.w U U) (A.x U U) (A.s U U) (onlyR_c hJ hv5 hqls O hxr O) fun v6 ro6 hl6 hq6=>hk _ _ ⟨QFs.nil, ?_⟩
     refine De 13 (some 45) [] hok (fun _ _ A hk=>?_)
     refine R.callR C U (A.w U U) (A.x U U) (A.s U U) (bearsOfR_c hJ hq6 hgo) fun v7 ro7 hl7 hq7=>hk _ _ ⟨QFs.nil, ?_⟩
     have hble:=bearsL_le hgo
     have hl67:=RO.le_trans hl6 hl7
     have haro7:=hl67 _ _ haro
     obtain⟨kb,kc,rfl⟩:=hq7.form
     refine Ds C 14 hok U U runUnderlying23<|Di C 15 hok U U U U U b_eql<|Dp 16 hok (fun _ _ _ A h=>R.pickT C U (A.w U U) (A.x U U) (A.x U U) h)<|D.done C hok Kr<|X.cond C.1 U (fun hyes=>?_) (fun hyes=>?_)
     ·have hyes:noneP b x=true:=by unfold noneP;simpa using hyes
      rw [hgd,if_pos rfl,hyes,if_pos rfl] at hst
      refine X.region C U U<|Rm C U U<|Rm C U U<|Rx C U U U runUnderlying23 sizeOf28<|R.loadOneRo C U U U isAgg28 haro7 hqat<|Ad C U U<|X.inBlock C.1<|X.region C U U<|Rm C U U<|Ra C U U U<|Ad C U U<|X.weaken ?_ (hnext (i+1,ro7,_) ⟨hi',RO.le_trans hle5 hl67,by rw [hst];exact hqls.mono hl67⟩ (by simp only;omega))
      exact⟨rfl,rfl,by simp [look],rfl,trivial⟩
     ·have hyes:noneP b x=false:=by unfold noneP;simpa using hyes
      rw [hgd,if_pos rfl,hyes,if_neg Dd] at hst
      refine X.skip C.1<|X.inBlock C.1<|X.region C U U<|Rm C U U<|Ra C U U U<|Ad C U U<|X.weaken ?_ (hnext (i+1,ro7,_) ⟨hi',RO.le_trans hle5 hl67,by rw [hst];exact hzz.mono hl67⟩ (by simp only;omega))
      exact⟨rfl,rfl,by simp [look],rfl,trivial⟩
    ·replace hst:=hst.trans (show _=y by rw [hgd];rfl)
     refine Du C 7 hok U<|Du C 8 hok U<|Du C 9 hok U<|Du C 10 hok U<|Du C 11 hok U<|Du C 12 hok U<|Du C 13 hok U<|Du C 14 hok U<|Du C 15 hok U<|Dp 16 hok (fun _ _ _ A h=>R.pickF C U (A.w U U) (A.x U U) (A.x U U) h)<|D.done C hok Kr<|X.cond C.1 U (fun h=>nomatch h) (fun _=>?_)
     refine X.skip C.1<|X.inBlock C.1<|X.region C U U<|Rm C U U<|Ra C U U U<|Ad C U U<|X.weaken ?_ (hnext (i+1,ro5,_) ⟨hi',hle5,by rw [hst];exact hzz⟩ (by simp only;omega))
     exact⟨rfl,rfl,by simp [look],rfl,trivial⟩
   ·obtain rfl:i=S.length:=by omega
    rw [List.take_length] at hzz⊢
    refine X.exit C.1 U<|Xr C U U<|Rm C U U<|R.asg C U U U<|Ad C U U<|X.ret C U U func83 U (by exact(.tmp U (.tmp U .nil)))<|Hr hret (RO.le_trans hL3 hle5) ?_
    exact⟨_,hzz,rfl⟩
end
end
section
section
variable {main:Bool}{J:Goroutine→Mem→Prop}(hJ:Closed prog main J)
include hJ
theorem askRef_c{b:Bk}{v:Value}{ro:RO}(hv:BkV ro v b)(hs:b.short):CallR prog J (fnv 84) [v] ro (fun w _=>w= .tuple [.int .i64 (askR b).1.1, .int .i64 (askR b).1.2.1, .int .i64 (askR b).1.2.2, .int .i64 (askR b).2].toArray):=by
 have hvv:=hv
 obtain⟨pb,pc,gb,gc,cb,cc,tb,tc,rfl,hp,hg,hc,ht⟩:=hv.all
 refine CallR.intro hJ Kr fun c cs tail hret=>enter_X (n:=71) func84 U U (Nl U) ?_
 have C:Ctx prog main J (bf 84 .normal):=⟨hJ,by decide⟩
 refine Xr C U U<|R.box C U U U U fun p1=>R.asg C U U U<|R.asg C U U U<|R.asg C U U U<|Ad C U U<|Xr C U U<|R5 C U U isAgg27 sizeOf27 V Tk5<|R.callR C U U U U ((knownR_c hJ hvv hs 0)) fun v1 ro1 hl1 hq1=>?_
 obtain⟨vl,hL,rfl⟩:=hq1
 rw [known_two] at*
 obtain⟨lb,lc,rfl⟩:=hL.form
 refine Rm C U U<|R.ext C U U U U<|R.ext C U U U U<|R.asg C U U U<|Ad C U U<|Xs C<|Xr C U U<|Rm C U U<|R.int C U U U U b_neq<|R.done C<|X.cond C.1 U (fun h1=>?_) (fun h1=>?_)
 ·have h1:openH b 0≠0:=by simpa using h1
  refine Xr C U U<|Rm C U U<|R.asg C U U U<|R.asg C U U U<|R.asg C U U U<|Ad C U U<|X.ret C U U func84 U (by exact(.tmp U (.tmp U (.tmp U (.tmp U .nil)))))<|Hr hret hl1 ?_
  rw [askR,if_pos h1];rfl
 ·have h1:openH b 0=0:=by simpa using h1
  obtain⟨hb,_,hne,hch⟩:=openH_good h1
  have hng:=hb.ng
  have hble:=bearsL_le hb
  have hwle:=weightsL_le hb
  have hW:0<(weightsL b).length:=Nat.pos_of_ne_zero fun e=>weightsL_ne hb (List.length_eq_zero_iff.1 e)
  have hret2:askR b=(timesW (weightsL b).length (askPT b (bearsL b) b.gs.length),0):=by rw [askR,if_neg (fun e=>e h1),askTo_times hW]
  rw [hret2] at hret
  rw [known_zero h1] at hL
  rw [show(knownR b 0).1.length=(bearsL b).length by rw [known_zero h1]]
  simp only at hL
  have hLl:=bearsL_each (b:=b)
  generalize bearsL b=L at hL hret hble hLl⊢
  generalize hwg:(weightsL b).length=W at hret hwle hW
  refine X.skip C.1<|Xr C U U<|Rm C U U<|Rn C U U runUnderlying23<|R.asg C U U U<|R.asg C U U U<|Ad C U U<|Xs C<|Xr C U U<|Ad C U U<|X.block C.1<|X.loopI (ι:=Nat×RO) C.1 (fun s=>s.1≤b.gs.length∧ro1.le s.2) (fun s=> [(1, .pointer (some ⟨p1,0,none⟩)),(6, .slice lb L.length lc),(8, .int .i64 (askPT b L s.1).1),(9, .int .i64 (askPT b L s.1).2.1),(10, .int .i64 (askPT b L s.1).2.2),(11, .int .i64 (s.1:Int))]) (fun s=>⟨s.2,(p1, .cells [.int .i64 b.w, .slice pb b.ps.length pc, .slice gb b.gs.length gc, .slice cb b.cs.length cc, .slice tb b.ts.length tc].toArray 27 (0,0))::tail⟩) (fun s=>b.gs.length-s.1) (0,ro1) ⟨Nat.zero_le _,RO.le_refl _⟩ U ⟨U,U,U,U,U,U,trivial⟩ fun s hs' hnext=>?_
  obtain⟨i,ro2⟩:=s
  obtain⟨hi,hle2⟩:=hs'
  simp only at hi hle2 hnext⊢
  have hbd:=askPT_bd (b:=b) (L:=L) i
  have hnx:askPT b L (i+1)=askPG b L i (askPT b L i) 99:=rfl
  refine Xs C<|Xr C U U<|Rm C U U<|Rf C 2 U U runUnderlying27 U sizeOf23<|Rl C U U isAgg23 V U<|Rn C U U runUnderlying23<|R.int C U U U U b_lss<|R.done C<|Xk C U (fun hlt=>?_) (fun hlt=>?_)
  ·have hi':i<b.gs.length:=O
   obtain⟨acc,hacc⟩:∃x,x=askPT b L i:=⟨_,rfl⟩
   rw [←hacc] at hbd hnx⊢
   refine X.skip C.1<|Xs C<|X.block C.1<|Xr C U U<|Ad C U U<|X.block C.1<|X.loopI (ι:=Nat×RO) C.1 (fun s=>s.1≤99∧ro2.le s.2) (fun s=> [(1, .pointer (some ⟨p1,0,none⟩)),(6, .slice lb L.length lc),(8, .int .i64 (askPG b L i acc s.1).1),(9, .int .i64 (askPG b L i acc s.1).2.1),(10, .int .i64 (askPG b L i acc s.1).2.2),(11, .int .i64 (i:Int)),(12, .int .i64 ((s.1+1:Nat):Int))]) (fun s=>⟨s.2,(p1, .cells [.int .i64 b.w, .slice pb b.ps.length pc, .slice gb b.gs.length gc, .slice cb b.cs.length cc, .slice tb b.ts.length tc].toArray 27 (0,0))::tail⟩) (fun s=>99-s.1) (0,ro2) ⟨Nat.zero_le _,RO.le_refl _⟩ U ⟨U,U,U,U,U,U,U,trivial⟩ fun s hs' hnext2=>?_
   obtain⟨j,ro3⟩:=s
   obtain⟨hj,hle3⟩:=hs'
   simp only at hj hle3 hnext2⊢
   have hbd2:=askPG_bd (b:=b) hbd (i:Int) j
   have hnx2:askPG b L i acc (j+1)=askPS b L (askPG b L i acc j) i ((j+1:Nat):Int):=rfl
   have hL13:=RO.le_trans hle2 hle3
   refine Xs C<|Xr C U U<|Rm C U U<|R.int C U U U U b_leq<|R.done C<|Xk C U (fun hlt2=>?_) (fun hlt2=>?_)
   ·have hj':j<99:=O
    obtain⟨bst,hbst⟩:∃x,x=askPG b L i acc j:=⟨_,rfl⟩
    rw [←hbst] at hbd2 hnx2⊢
    refine X.skip C.1<|Xs C<|X.block C.1<|Xr C U U<|Ad C U U<|Xs C<|Xr C U U<|Ad C U U<|X.block C.1<|X.loopI (ι:=Nat×RO) C.1 (fun s=>s.1≤L.length∧ro3.le s.2) (fun s=> [(1, .pointer (some ⟨p1,0,none⟩)),(6, .slice lb L.length lc),(8, .int .i64 bst.1),(9, .int .i64 bst.2.1),(10, .int .i64 bst.2.2),(11, .int .i64 (i:Int)),(12, .int .i64 ((j+1:Nat):Int)),(13, .int .i64 (heldP b (L.take s.1) i ((j+1:Nat):Int):Int)),(14, .int .i64 (s.1:Int))]) (fun s=>⟨s.2,(p1, .cells [.int .i64 b.w, .slice pb b.ps.length pc, .slice gb b.gs.length gc, .slice cb b.cs.length cc, .slice tb b.ts.length tc].toArray 27 (0,0))::tail⟩) (fun s=>L.length-s.1) (0,ro3) ⟨Nat.zero_le _,RO.le_refl _⟩ U ⟨U,U,U,U,U,U,U,U,U,trivial⟩ fun s hs' hnext3=>?_
    obtain⟨k,ro4⟩:=s
    obtain⟨hk,hle4⟩:=hs'
    simp only at hk hle4 hnext3⊢
    have hL14:=RO.le_trans hL13 hle4
    refine Xs C<|Xr C U U<|Rm C U U<|Rm C U U<|Rn C U U runUnderlying23<|R.int C U U U U b_lss<|R.done C<|Xk C U (fun hlt3=>?_) (fun hlt3=>?_)
    ·have hk':k<L.length:=O
     have hst:=heldP_take b L i ((j+1:Nat):Int) hk'
     have hml:=heldP_le b (L.take k) i ((j+1:Nat):Int)
     rw [List.length_take] at hml
     have hpl:=hLl _ (List.getElem_mem hk')
     obtain⟨lp,lo,lcap,ll,lty,lfq,hlsl,hlro,hlsub⟩:=(hL.mono hL14).at O
     cases hlsl
     obtain⟨qb,qc,hqat,hqc,hqls⟩:=hlsub k hk'
     generalize L[k]=x at hst hpl hqat hqc hqls
     generalize heldP b (L.take k) i ((j+1:Nat):Int)=m at hst hml⊢
     refine X.skip C.1<|Xs C<|X.block C.1<|Xs C<|Xd C fun hok=>D5 C 0 hok U U isAgg27 sizeOf27 V Tk5<|Dm C 1 hok U U U<|Dm C 2 hok U U U<|Dx C 3 hok U U U runUnderlying23 sizeOf28<|D2 C 4 hok U U isAgg28 hlro hqat<|Dm C 5 hok U U U<|Dm C 6 hok U U U<|De 7 (some 50) [false,false] hok (fun _ _ A hk=>?_)
     refine R.callR C U (A.w U U) (A.x U U) (A.s U U) (liftsOfR_c hJ (hvv.mono (RO.le_trans hl1 hL14)) hb hqls hpl (g:=(i:Int)) (l:=((j+1:Nat):Int)) O O) fun v5 ro5 hl5 hq5=>hk _ _ ⟨QFs.nil, ?_⟩
     refine D.done C hok Kr ?_
     subst hq5
     refine X.cond C.1 U (fun hyes=>?_) (fun hyes=>?_)
     ·rw [if_pos hyes] at hst
      refine X.region C U U<|Rm C U U<|Ra C U U U<|Ad C U U<|X.inBlock C.1<|X.region C U U<|Rm C U U<|Ra C U U U<|Ad C U U<|X.weaken ?_ (hnext3 (k+1,ro5) ⟨hk',RO.le_trans hle4 hl5⟩ (by simp only;omega))
      exact⟨rfl,rfl,rfl,rfl,rfl,rfl,rfl,by simp only [look];rw [hst];rfl,by simp [look],trivial⟩
     ·rw [if_neg (by rw [hyes];decide)] at hst
      refine X.skip C.1<|X.inBlock C.1<|X.region C U U<|Rm C U U<|Ra C U U U<|Ad C U U<|X.weaken ?_ (hnext3 (k+1,ro5) ⟨hk',RO.le_trans hle4 hl5⟩ (by simp only;omega))
      exact⟨rfl,rfl,rfl,rfl,rfl,rfl,rfl,by simp only [look];rw [hst];rfl,by simp [look],trivial⟩
    ·obtain rfl:k=L.length:=by omega
     rw [List.take_length]
     have hml:=heldP_le b L i ((j+1:Nat):Int)
     have hbs:askPS b L bst i ((j+1:Nat):Int)=if max (heldP b L i ((j+1:Nat):Int):Int) ((L.length:Int) -heldP b L i ((j+1:Nat):Int))<bst.2.2 then((i:Int),((j+1:Nat):Int),max (heldP b L i ((j+1:Nat):Int):Int) ((L.length:Int) -heldP b L i ((j+1:Nat):Int))) else bst:=rfl
     rw [hbs] at hnx2
     generalize heldP b L i ((j+1:Nat):Int)=m at hml hnx2⊢
     refine X.exit C.1 U<|Xr C U U<|Rm C U U<|Rm C U U<|Rn C U U runUnderlying23<|Rm C U U<|R.int C U U U U (b_sub O O)<|R.max2 C U U U U<|Ad C U U<|Xr C U U<|Rm C U U<|Rm C U U<|R.int C U U U U b_lss<|R.done C<|X.cond C.1 U (fun hless=>?_) (fun hless=>?_)
     ·have hless:max (m:Int) ((L.length:Int) -m)<bst.2.2:=by simpa using hless
      rw [if_pos hless] at hnx2
      refine X.region C U U<|Rm C U U<|Rm C U U<|Rm C U U<|R.asg C U U U<|R.asg C U U U<|Ad C U U<|X.inBlock C.1<|X.region C U U<|Rm C U U<|Ra C U U U<|Ad C U U<|X.weaken ?_ (hnext2 (j+1,ro4) ⟨by simp only;omega,RO.le_trans hle3 hle4⟩ (by simp only;omega))
      exact⟨rfl,rfl,by simp only [look];rw [hnx2],by simp only [look];rw [hnx2],by simp only [look];rw [hnx2],rfl,by simp [look],trivial⟩
     ·have hless:¬max (m:Int) ((L.length:Int) -m)<bst.2.2:=by simpa using hless
      rw [if_neg hless] at hnx2
      refine X.skip C.1<|X.inBlock C.1<|X.region C U U<|Rm C U U<|Ra C U U U<|Ad C U U<|X.weaken ?_ (hnext2 (j+1,ro4) ⟨by simp only;omega,RO.le_trans hle3 hle4⟩ (by simp only;omega))
      exact⟨rfl,rfl,by simp only [look];rw [hnx2],by simp only [look];rw [hnx2],by simp only [look];rw [hnx2],rfl,by simp [look],trivial⟩
   ·obtain rfl:j=99:=by omega
    refine X.exit C.1 U<|X.inBlock C.1<|X.region C U U<|Rm C U U<|Ra C U U U<|Ad C U U<|X.weaken ?_ (hnext (i+1,ro3) ⟨hi',hL13⟩ (by simp only;omega))
    exact⟨rfl,rfl,by simp only [look];rw [hnx],by simp only [look];rw [hnx],by simp only [look];rw [hnx],by simp [look],trivial⟩
  ·obtain rfl:i=b.gs.length:=by omega
   have hmm:=manyWeightsR_c hJ (hvv.mono (RO.le_trans hl1 hle2)) hb
   rw [hwg] at hmm
   generalize askPT b L b.gs.length=acc at hbd hret⊢
   obtain⟨a1,a2,a3⟩:=acc
   unfold AskB at hbd
   simp only at hbd hret⊢
   have hmul:0≤a3*(W:Int)∧a3*(W:Int)≤81*27:=⟨Int.mul_nonneg hbd.1 O,Int.le_trans (Int.mul_le_mul_of_nonneg_right (show a3≤81 by omega) O) (Int.mul_le_mul_of_nonneg_left O O)⟩
   refine X.exit C.1 U<|Xr C U U<|Rm C U U<|Rm C U U<|Rm C U U<|R5 C U U isAgg27 sizeOf27 V Tk5<|R.callP C U U U U (hmm)<|R.int C U U U U (b_mul O O)<|R.asg C U U U<|R.asg C U U U<|R.asg C U U U<|Ad C U U<|X.ret C U U func84 U (by exact(.tmp U (.tmp U (.tmp U (.tmp U .nil)))))<|Hr hret (RO.le_trans hl1 hle2) ?_
   rfl
end
end
section
section
variable {main:Bool}{J:Goroutine→Mem→Prop}(hJ:Closed prog main J)
include hJ
theorem agreedR_c{b:Bk}{v:Value}{ro:RO}(hv:BkV ro v b)(hs:b.short):CallR prog J (fnv 151) [v] ro (fun w ro'=>NewV ro' b (openH b 0) w):=by
 have hvv:=hv
 obtain⟨pb,pc,gb,gc,cb,cc,tb,tc,rfl,hp,hg,hc,ht⟩:=hv.all
 refine CallR.intro hJ Kr fun c cs tail hret=>enter_X (n:=16) func151 U U (Nl U) ?_
 have C:Ctx prog main J (bf 151 .normal):=⟨hJ,by decide⟩
 refine Xr C U U<|R.box C U U U U fun p1=>R.alloc C U U zeroValue27 U fun p2=>Ad C U U<|Xs C<|Xr C U U<|R5 C U U isAgg27 sizeOf27 V Tk5<|R.callR C U U U U ((knownR_c hJ hvv hs 0)) fun v1 ro1 hl1 hq1=>?_
 obtain⟨vl,hL,rfl⟩:=hq1
 rw [known_two] at*
 obtain⟨lb,lc,rfl⟩:=hL.form
 refine Rm C U U<|R.ext C U U U U<|R.ext C U U U U<|R.asg C U U U<|Ad C U U<|Xr C U U<|Rm C U U<|R.int C U U U U b_neq<|R.done C<|X.cond C.1 U (fun h1=>?_) (fun h1=>?_)
 ·have h1:openH b 0≠0:=by simpa using h1
  refine Xr C U U ?_;refine R.build C U U U zeroValue27 U runUnderlying27 Kr .nil<|Rm C U U<|R.store C U U U U sizeOf27 U U U V Ph5<|Ad C U U<|X.ret C U U func151 U (by exact(.agg U isAgg27 sizeOf27 V Tk5 (.tmp U .nil)))<|Hr hret hl1 ?_
  exact .inl ⟨h1,rfl⟩
 ·have h1:openH b 0=0:=by simpa using h1
  refine X.skip C.1<|Xr C U U<|R5 C U U isAgg27 sizeOf27 V Tk5<|R.store C U U U U sizeOf27 U U U V Ph5<|Ad C U U<|X.ret C U U func151 U (by exact(.agg U isAgg27 sizeOf27 V Tk5 (.tmp U .nil)))<|Hr hret hl1 ?_
  exact .inr ⟨h1,_,hvv.mono hl1,rfl⟩
theorem tryR_c{b:Bk}{v:Value}{ro:RO}(hv:BkV ro v b)(hs:b.short)(t:Ts):CallR prog J (fnv 86) [v,t.val] ro (fun w ro'=>NewV ro' (b.tried t) (tryH b t) w):=by
 have hvv:=hv
 obtain⟨pb,pc,gb,gc,cb,cc,tb,tc,rfl,hp,hg,hc,ht⟩:=hv.all
 refine CallR.intro hJ Kr fun c cs tail hret=>enter_X (n:=19) func86 U U (Nl U) ?_
 have C:Ctx prog main J (bf 86 .normal):=⟨hJ,by decide⟩
 refine Xr C U U<|R.box C U U U U fun p2=>R.box C U U U U fun p3=>R.alloc C U U zeroValue27 U fun p4=>Ad C U U<|Xs C<|Xr C U U<|R5 C U U isAgg27 sizeOf27 V Tk5<|R.callP C U U U U (checkBookR_c hJ hvv hs)<|Ad C U U<|Xr C U U<|Rm C U U<|R.int C U U U U b_neq<|R.done C<|X.cond C.1 U (fun hh=>?_) (fun hh=>?_)
 ·have hh:checkBook b≠0:=by simpa using hh
  have e:tryH b t=checkBook b:=by rw [tryH,if_pos hh]
  refine Xr C U U ?_;refine R.build C U U U zeroValue27 U runUnderlying27 Kr .nil<|Rm C U U<|R.store C U U U U sizeOf27 U U U V Ph5<|Ad C U U<|X.ret C U U func86 U (by exact(.agg U isAgg27 sizeOf27 V Tk5 (.tmp U .nil)))<|Hr hret (RO.le_refl _) ?_
  rw [e];exact .inl ⟨hh,rfl⟩
 ·have hh:checkBook b=0:=by simpa using hh
  have hb:=good_of hh
  have hnt:=hb.nt
  have e:tryH b t=openH (b.tried t) 0:=by rw [tryH,if_neg (fun h=>h hh)]
  refine X.skip C.1<|Xr C U U<|R5 C U U isAgg27 sizeOf27 V Tk5<|R5 C U U isAgg92 sizeOf92 V Tk3<|R.callR C U U U U (tried_c hJ hvv O t) fun v1 ro1 hl1 hq1=>R.callR C U U U U (agreedR_c hJ hq1 (hs.tried hnt t)) fun v2 ro2 hl2 hq2=>?_
  have hq3:=hq2
  obtain⟨v3,hnb,rfl⟩:=hq2.bk
  obtain⟨_,_,_,_,rfl,hnb⟩:=hnb
  obtain⟨_,_,rfl⟩:=hnb.1.form
  obtain⟨_,_,rfl⟩:=hnb.2.1.form
  obtain⟨_,_,rfl⟩:=hnb.2.2.1.form
  obtain⟨_,_,rfl⟩:=hnb.2.2.2.form
  refine R.ext C U U U U<|R.ext C U U U U<|R.store C U U U U sizeOf27 U U U V Ph5<|Ad C U U<|X.ret C U U func86 U (by exact(.agg U isAgg27 sizeOf27 V Tk5 (.tmp U .nil)))<|Hr hret (RO.le_trans hl1 hl2) ?_
  rw [e];exact hq3
theorem knowR_c{b:Bk}{v:Value}{ro:RO}(hv:BkV ro v b)(hs:b.short)(i:Int)(y:Rc):CallR prog J (fnv 87) [v, .int .i64 i,y.val] ro (fun w ro'=>NewV ro' (b.borne i.toNat ((b.part i).r.meet y)) (knowH b i y) w):=by
 have hvv:=hv
 obtain⟨pb,pc,gb,gc,cb,cc,tb,tc,rfl,hp,hg,hc,ht⟩:=hv.all
 refine CallR.intro hJ Kr fun c cs tail hret=>enter_X (n:=46) func87 U U (Nl U) ?_
 have C:Ctx prog main J (bf 87 .normal):=⟨hJ,by decide⟩
 refine Xr C U U<|R.box C U U U U fun p3=>R.box C U U U U fun p5=>R.alloc C U U zeroValue27 U fun p6=>Ad C U U<|Xs C<|Xr C U U<|R5 C U U isAgg27 sizeOf27 V Tk5<|R.callP C U U U U (checkBookR_c hJ hvv hs)<|Ad C U U<|Xr C U U<|Rm C U U<|R.int C U U U U b_neq<|R.done C<|X.cond C.1 U (fun hh=>?_) (fun hh=>?_)
 ·have hh:checkBook b≠0:=by simpa using hh
  have e:knowH b i y=checkBook b:=by rw [knowH,if_pos hh]
  refine Xr C U U ?_;refine R.build C U U U zeroValue27 U runUnderlying27 Kr .nil<|Rm C U U<|R.store C U U U U sizeOf27 U U U V Ph5<|Ad C U U<|X.ret C U U func87 U (by exact(.agg U isAgg27 sizeOf27 V Tk5 (.tmp U .nil)))<|Hr hret (RO.le_refl _) ?_
  rw [e];exact .inl ⟨hh,rfl⟩
 ·have hh:checkBook b=0:=by simpa using hh
  have hb:=good_of hh
  have hn:=hb.np
  refine X.skip C.1<|Xs C<|Xr C U U<|R5 C U U isAgg27 sizeOf27 V Tk5<|Rm C U U<|R.callP C U U U U (isPartR_c hJ hvv O i)<|R.not C U U U<|R.done C<|X.cond C.1 U (fun hi0=>?_) (fun hi0=>?_)
  ·have hi0:between i 0 ((b.ps.length:Int) -1)=false:=by simpa using hi0
   have hth:there i b.ps.length=6:=by rw [there,hi0];rfl
   have e:knowH b i y=6:=by rw [knowH,if_neg (fun h=>h hh),hth];rfl
   refine Xr C U U ?_;refine R.build C U U U zeroValue27 U runUnderlying27 Kr .nil<|R.store C U U U U sizeOf27 U U U V Ph5<|Ad C U U<|X.ret C U U func87 U (by exact(.agg U isAgg27 sizeOf27 V Tk5 (.tmp U .nil)))<|Hr hret (RO.le_refl _) ?_
   rw [e];exact .inl ⟨by decide,rfl⟩
  ·have hi0:between i 0 ((b.ps.length:Int) -1)=true:=by simpa using hi0
   have hth:there i b.ps.length=0:=by rw [there,hi0];rfl
   have hib:=there_zero.1 hth
   have hil:i.toNat<b.ps.length:=O
   have hpi:b.ps[i.toNat]=(b.part i):=by simp [Bk.part,List.getD_eq_getElem?_getD,hil]
   have e0:knowH b i y=if knownH (b.part i).r y 0≠0 then knownH (b.part i).r y 0 else openH (b.borne i.toNat ((b.part i).r.meet y)) 0:=by rw [knowH,if_neg (fun h=>h hh),if_neg (fun h=>h hth)]
   rw [knownH_cases] at e0
   refine X.skip C.1<|Xs C<|Xr C U U<|R5 C U U isAgg65 sizeOf65 V Tk2<|R.callP C U U U U (insideR_c hJ y 0 99 _)<|R.not C U U U<|R.done C<|X.cond C.1 U (fun hr0=>?_) (fun hr0=>?_)
   ·have hr0:isReach y 0 99=false:=by simpa using hr0
    have e:knowH b i y=1:=by rw [e0,hr0];rfl
    refine Xr C U U ?_;refine R.build C U U U zeroValue27 U runUnderlying27 Kr .nil<|R.store C U U U U sizeOf27 U U U V Ph5<|Ad C U U<|X.ret C U U func87 U (by exact(.agg U isAgg27 sizeOf27 V Tk5 (.tmp U .nil)))<|Hr hret (RO.le_refl _) ?_
    rw [e];exact .inl ⟨by decide,rfl⟩
   ·have hr0:isReach y 0 99=true:=by simpa using hr0
    rw [hr0,if_pos rfl] at e0
    obtain⟨pp,po,pcap,pl,pty,pfq,hsl,hrop,hsub⟩:=hp.at Pt.len O
    cases hsl
    have hsi:Sub (po+i.toNat*4+2) 2 pl (b.part i).r.cells:=by rw [←hpi];exact(hsub i.toNat hil).part (i:=2) (m:=2) Dd
    have hrl:(b.part i).r.cells.length=2:=rfl
    refine X.skip C.1<|Xs C<|X.afterI (ι:=Nat) (fun _=>True) (fun p9=> [(1, .int .i64 i),(3, .pointer (some ⟨p3,0,none⟩)),(5, .pointer (some ⟨p5,0,none⟩)),(6, .pointer (some ⟨p6,0,none⟩)),(9, .pointer (some ⟨p9,0,none⟩))])
     (fun p9=>⟨ro,(p9, .cells [.int .i64 ((b.part i).r.meet y).lo, .int .i64 ((b.part i).r.meet y).hi].toArray 65 (0,0))::(p6, .cells [.int .i64 0, .slice none 0 0, .slice none 0 0, .slice none 0 0, .slice none 0 0].toArray 27 (0,0))::(p5, .cells y.cells.toArray 65 (0,0))::(p3, .cells [.int .i64 b.w, .slice (some ⟨pp,po,none⟩) b.ps.length pc, .slice gb b.gs.length gc, .slice cb b.cs.length cc, .slice tb b.ts.length tc].toArray 27 (0,0))::tail⟩) (fun p9 _=>?_) (fun hcont=>?_)
    rotate_left
    ·have _:=hsi
     refine Xd C fun hok=>Df (off':=1) C 0 hok U U U runUnderlying27 U sizeOf22 U<|D1 C 1 hok U U isAgg22 V U<|Dm C 2 hok U U U<|Dx C 3 hok U U U runUnderlying22 sizeOf67<|Df C 4 hok U U U runUnderlying67 U sizeOf65 U<|Dl 5 hok (fun _ _ A h=>R.loadAggRo C U (A.w U U) (A.x U U) isAgg65 sizeOf65 hrop hsi h)<|D5 C 6 hok U U isAgg65 sizeOf65 V Tk2<|D.eP2 (i:=7) (i':=8) (dst:=(some 32)) (dst':=(some 9)) [false,false,false] [true,true,true] hok U U Kr Kr Kr (fun _ _ A hk=>?_) (fun _ _ A hk=>?_)
     ·
      refine R.callP C U (A.w U U) (A.x U U) (A.s U U) (overlapR_c hJ (b.part i).r y _) (hk _ _ ⟨QFs.nil, ?_⟩)
      refine De 8 (some 9) [] hok (fun _ _ A hk=>?_)
      refine R.alloc C U (A.w U U) zeroValue65 U fun p9=>hk _ _ ⟨QFs.nil, ?_⟩
      refine De 9 none [] hok (fun _ _ A hk=>?_)
      refine R.store C U (A.w U U) (A.x U U) (A.x U U) sizeOf65 U U U V Ph2 (hk undef _ ⟨QFs.nil, ?_⟩)
      refine D.done C hok Kr<|X.weaken ?_ (hcont p9 trivial)
      exact⟨U,U,U,U,U,trivial⟩
     ·
      refine R.alloc C U (A.w U U) zeroValue65 U fun p9=>hk _ _ ⟨(QFs.cons (QF.of U (fun _ _ A h=>R.loadAgg C U (A.w U U) (A.x U U) isAgg65 sizeOf65 V Tk2 h)) (QFs.cons (QF.of U (fun _ _ A h=>R.loadAggRo C U (A.w U U) (A.x U U) isAgg65 sizeOf65 hrop hsi h)) (QFs.cons (QF.of U (fun _ _ A h=>R.loadOne C U (A.w U U) (A.x U U) isAgg22 V U h)) QFs.nil))), ?_⟩
      refine De 7 (some 32) [false,false,false] hok (fun _ _ A hk=>?_)
      refine R.callP C U (A.w U U) (A.x U U) (A.s U U) (overlapR_c hJ (b.part i).r y _) (hk _ _ ⟨QFs.nil, ?_⟩)
      refine De 9 none [] hok (fun _ _ A hk=>?_)
      refine R.store C U (A.w U U) (A.x U U) (A.x U U) sizeOf65 U U U V Ph2 (hk undef _ ⟨QFs.nil, ?_⟩)
      refine D.done C hok Kr<|X.weaken ?_ (hcont p9 trivial)
      exact⟨U,U,U,U,U,trivial⟩
    refine Xs C<|Xr C U U<|Rf C 0 U U runUnderlying65 U sizeOf3<|Rl C U U isAgg3 V U<|Rf C 1 U U runUnderlying65 U sizeOf3<|Rl C U U isAgg3 V U<|R.int C U U U U b_gtr<|R.done C<|X.cond C.1 U (fun hgt=>?_) (fun hgt=>?_)
    ·have hgt:((b.part i).r.meet y).hi<((b.part i).r.meet y).lo:=by simpa using hgt
     have e:knowH b i y=9:=by rw [e0,if_pos hgt];rfl
     refine Xr C U U ?_;refine R.build C U U U zeroValue27 U runUnderlying27 Kr .nil<|R.store C U U U U sizeOf27 U U U V Ph5<|Ad C U U<|X.ret C U U func87 U (by exact(.agg U isAgg27 sizeOf27 V Tk5 (.tmp U .nil)))<|Hr hret (RO.le_refl _) ?_
     rw [e];exact .inl ⟨by decide,rfl⟩
    ·have hgt:¬((b.part i).r.meet y).hi<((b.part i).r.meet y).lo:=by simpa using hgt
     have e:knowH b i y=openH (b.borne i.toNat ((b.part i).r.meet y)) 0:=by rw [e0,if_neg hgt];rfl
     have hl0:=RO.le_refl ro
     refine X.skip C.1<|Xr C U U<|R5 C U U isAgg27 sizeOf27 V Tk5<|Rm C U U<|R5 C U U isAgg65 sizeOf65 V Tk2<|R.callR C U U U U (borneR_c hJ (hvv.mono hl0) O hib ((b.part i).r.meet y)) fun v1 ro1 hl1 hq1=>R.callR C U U U U (agreedR_c hJ hq1 (hs.borne _ _)) fun v2 ro2 hl2 hq2=>?_
     have hq3:=hq2
     obtain⟨v3,hnb,rfl⟩:=hq2.bk
     obtain⟨_,_,_,_,rfl,hnb⟩:=hnb
     obtain⟨_,_,rfl⟩:=hnb.1.form
     obtain⟨_,_,rfl⟩:=hnb.2.1.form
     obtain⟨_,_,rfl⟩:=hnb.2.2.1.form
     obtain⟨_,_,rfl⟩:=hnb.2.2.2.form
     refine R.ext C U U U U<|R.ext C U U U U<|R.store C U U U U sizeOf27 U U U V Ph5<|Ad C U U<|X.ret C U U func87 U (by exact(.agg U isAgg27 sizeOf27 V Tk5 (.tmp U .nil)))<|Hr hret (RO.le_trans hl1 hl2) ?_
     rw [e];exact hq3
theorem weighR_c{b:Bk}{v:Value}{ro:RO}(hv:BkV ro v b)(hs:b.short)(i:Int)(y:Rc):CallR prog J (fnv 89) [v, .int .i64 i,y.val] ro (fun w ro'=>NewV ro' (b.weighed i.toNat ((b.piece i).r.meet y)) (weighH b i y) w):=by
 have hvv:=hv
 obtain⟨pb,pc,gb,gc,cb,cc,tb,tc,rfl,hp,hg,hc,ht⟩:=hv.all
 refine CallR.intro hJ Kr fun c cs tail hret=>enter_X (n:=46) func89 U U (Nl U) ?_
 have C:Ctx prog main J (bf 89 .normal):=⟨hJ,by decide⟩
 refine Xr C U U<|R.box C U U U U fun p3=>R.box C U U U U fun p5=>R.alloc C U U zeroValue27 U fun p6=>Ad C U U<|Xs C<|Xr C U U<|R5 C U U isAgg27 sizeOf27 V Tk5<|R.callP C U U U U (checkBookR_c hJ hvv hs)<|Ad C U U<|Xr C U U<|Rm C U U<|R.int C U U U U b_neq<|R.done C<|X.cond C.1 U (fun hh=>?_) (fun hh=>?_)
 ·have hh:checkBook b≠0:=by simpa using hh
  have e:weighH b i y=checkBook b:=by rw [weighH,if_pos hh]
  refine Xr C U U ?_;refine R.build C U U U zeroValue27 U runUnderlying27 Kr .nil<|Rm C U U<|R.store C U U U U sizeOf27 U U U V Ph5<|Ad C U U<|X.ret C U U func89 U (by exact(.agg U isAgg27 sizeOf27 V Tk5 (.tmp U .nil)))<|Hr hret (RO.le_refl _) ?_
  rw [e];exact .inl ⟨hh,rfl⟩
 ·have hh:checkBook b=0:=by simpa using hh
  have hb:=good_of hh
  have hn:=hb.nc
  refine X.skip C.1<|Xs C<|Xr C U U<|R5 C U U isAgg27 sizeOf27 V Tk5<|Rm C U U<|R.callP C U U U U (isPieceR_c hJ hvv O i)<|R.not C U U U<|R.done C<|X.cond C.1 U (fun hi0=>?_) (fun hi0=>?_)
  ·have hi0:between i 0 ((b.cs.length:Int) -1)=false:=by simpa using hi0
   have hth:there i b.cs.length=6:=by rw [there,hi0];rfl
   have e:weighH b i y=6:=by rw [weighH,if_neg (fun h=>h hh),hth];rfl
   refine Xr C U U ?_;refine R.build C U U U zeroValue27 U runUnderlying27 Kr .nil<|R.store C U U U U sizeOf27 U U U V Ph5<|Ad C U U<|X.ret C U U func89 U (by exact(.agg U isAgg27 sizeOf27 V Tk5 (.tmp U .nil)))<|Hr hret (RO.le_refl _) ?_
   rw [e];exact .inl ⟨by decide,rfl⟩
  ·have hi0:between i 0 ((b.cs.length:Int) -1)=true:=by simpa using hi0
   have hth:there i b.cs.length=0:=by rw [there,hi0];rfl
   have hib:=there_zero.1 hth
   have hil:i.toNat<b.cs.length:=O
   have hpi:b.cs[i.toNat]=(b.piece i):=by simp [Bk.piece,List.getD_eq_getElem?_getD,hil]
   have e0:weighH b i y=if knownH (b.piece i).r y 1≠0 then knownH (b.piece i).r y 1 else openH (b.weighed i.toNat ((b.piece i).r.meet y)) 0:=by rw [weighH,if_neg (fun h=>h hh),if_neg (fun h=>h hth)]
   rw [knownH_cases] at e0
   refine X.skip C.1<|Xs C<|Xr C U U<|R5 C U U isAgg65 sizeOf65 V Tk2<|R.callP C U U U U (insideR_c hJ y 1 99 _)<|R.not C U U U<|R.done C<|X.cond C.1 U (fun hr0=>?_) (fun hr0=>?_)
   ·have hr0:isReach y 1 99=false:=by simpa using hr0
    have e:weighH b i y=1:=by rw [e0,hr0];rfl
    refine Xr C U U ?_;refine R.build C U U U zeroValue27 U runUnderlying27 Kr .nil<|R.store C U U U U sizeOf27 U U U V Ph5<|Ad C U U<|X.ret C U U func89 U (by exact(.agg U isAgg27 sizeOf27 V Tk5 (.tmp U .nil)))<|Hr hret (RO.le_refl _) ?_
    rw [e];exact .inl ⟨by decide,rfl⟩
   ·have hr0:isReach y 1 99=true:=by simpa using hr0
    rw [hr0,if_pos rfl] at e0
    obtain⟨pp,po,pcap,pl,pty,pfq,hsl,hrop,hsub⟩:=hc.at Pc.len O
    cases hsl
    have hsi:Sub (po+i.toNat*3+1) 2 pl (b.piece i).r.cells:=by rw [←hpi];exact(hsub i.toNat hil).part (i:=1) (m:=2) Dd
    have hrl:(b.piece i).r.cells.length=2:=rfl
    refine X.skip C.1<|Xs C<|X.afterI (ι:=Nat) (fun _=>True) (fun p9=> [(1, .int .i64 i),(3, .pointer (some ⟨p3,0,none⟩)),(5, .pointer (some ⟨p5,0,none⟩)),(6, .pointer (some ⟨p6,0,none⟩)),(9, .pointer (some ⟨p9,0,none⟩))])
     (fun p9=>⟨ro,(p9, .cells [.int .i64 ((b.piece i).r.meet y).lo, .int .i64 ((b.piece i).r.meet y).hi].toArray 65 (0,0))::(p6, .cells [.int .i64 0, .slice none 0 0, .slice none 0 0, .slice none 0 0, .slice none 0 0].toArray 27 (0,0))::(p5, .cells y.cells.toArray 65 (0,0))::(p3, .cells [.int .i64 b.w, .slice pb b.ps.length pc, .slice gb b.gs.length gc, .slice (some ⟨pp,po,none⟩) b.cs.length cc, .slice tb b.ts.length tc].toArray 27 (0,0))::tail⟩) (fun p9 _=>?_) (fun hcont=>?_)
    rotate_left
    ·have _:=hsi
     refine Xd C fun hok=>Df (off':=3) C 0 hok U U U runUnderlying27 U sizeOf24 U<|D1 C 1 hok U U isAgg24 V U<|Dm C 2 hok U U U<|Dx C 3 hok U U U runUnderlying24 sizeOf79<|Df C 4 hok U U U runUnderlying79 U sizeOf65 U<|Dl 5 hok (fun _ _ A h=>R.loadAggRo C U (A.w U U) (A.x U U) isAgg65 sizeOf65 hrop hsi h)<|D5 C 6 hok U U isAgg65 sizeOf65 V Tk2<|D.eP2 (i:=7) (i':=8) (dst:=(some 32)) (dst':=(some 9)) [false,false,false] [true,true,true] hok U U Kr Kr Kr (fun _ _ A hk=>?_) (fun _ _ A hk=>?_)
     ·
      refine R.callP C U (A.w U U) (A.x U U) (A.s U U) (overlapR_c hJ (b.piece i).r y _) (hk _ _ ⟨QFs.nil, ?_⟩)
      refine De 8 (some 9) [] hok (fun _ _ A hk=>?_)
      refine R.alloc C U (A.w U U) zeroValue65 U fun p9=>hk _ _ ⟨QFs.nil, ?_⟩
      refine De 9 none [] hok (fun _ _ A hk=>?_)
      refine R.store C U (A.w U U) (A.x U U) (A.x U U) sizeOf65 U U U V Ph2 (hk undef _ ⟨QFs.nil, ?_⟩)
      refine D.done C hok Kr<|X.weaken ?_ (hcont p9 trivial)
      exact⟨U,U,U,U,U,trivial⟩
     ·
      refine R.alloc C U (A.w U U) zeroValue65 U fun p9=>hk _ _ ⟨(QFs.cons (QF.of U (fun _ _ A h=>R.loadAgg C U (A.w U U) (A.x U U) isAgg65 sizeOf65 V Tk2 h)) (QFs.cons (QF.of U (fun _ _ A h=>R.loadAggRo C U (A.w U U) (A.x U U) isAgg65 sizeOf65 hrop hsi h)) (QFs.cons (QF.of U (fun _ _ A h=>R.loadOne C U (A.w U U) (A.x U U) isAgg24 V U h)) QFs.nil))), ?_⟩
      refine De 7 (some 32) [false,false,false] hok (fun _ _ A hk=>?_)
      refine R.callP C U (A.w U U) (A.x U U) (A.s U U) (overlapR_c hJ (b.piece i).r y _) (hk _ _ ⟨QFs.nil, ?_⟩)
      refine De 9 none [] hok (fun _ _ A hk=>?_)
      refine R.store C U (A.w U U) (A.x U U) (A.x U U) sizeOf65 U U U V Ph2 (hk undef _ ⟨QFs.nil, ?_⟩)
      refine D.done C hok Kr<|X.weaken ?_ (hcont p9 trivial)
      exact⟨U,U,U,U,U,trivial⟩
    refine Xs C<|Xr C U U<|Rf C 0 U U runUnderlying65 U sizeOf3<|Rl C U U isAgg3 V U<|Rf C 1 U U runUnderlying65 U sizeOf3<|Rl C U U isAgg3 V U<|R.int C U U U U b_gtr<|R.done C<|X.cond C.1 U (fun hgt=>?_) (fun hgt=>?_)
    ·have hgt:((b.piece i).r.meet y).hi<((b.piece i).r.meet y).lo:=by simpa using hgt
     have e:weighH b i y=9:=by rw [e0,if_pos hgt];rfl
     refine Xr C U U ?_;refine R.build C U U U zeroValue27 U runUnderlying27 Kr .nil<|R.store C U U U U sizeOf27 U U U V Ph5<|Ad C U U<|X.ret C U U func89 U (by exact(.agg U isAgg27 sizeOf27 V Tk5 (.tmp U .nil)))<|Hr hret (RO.le_refl _) ?_
     rw [e];exact .inl ⟨by decide,rfl⟩
    ·have hgt:¬((b.piece i).r.meet y).hi<((b.piece i).r.meet y).lo:=by simpa using hgt
     have e:weighH b i y=openH (b.weighed i.toNat ((b.piece i).r.meet y)) 0:=by rw [e0,if_neg hgt];rfl
     have hl0:=RO.le_refl ro
     refine X.skip C.1<|Xr C U U<|R5 C U U isAgg27 sizeOf27 V Tk5<|Rm C U U<|R5 C U U isAgg65 sizeOf65 V Tk2<|R.callR C U U U U (weighedR_c hJ (hvv.mono hl0) O hib ((b.piece i).r.meet y)) fun v1 ro1 hl1 hq1=>R.callR C U U U U (agreedR_c hJ hq1 (hs.weighed _ _)) fun v2 ro2 hl2 hq2=>?_
     have hq3:=hq2
     obtain⟨v3,hnb,rfl⟩:=hq2.bk
     obtain⟨_,_,_,_,rfl,hnb⟩:=hnb
     obtain⟨_,_,rfl⟩:=hnb.1.form
     obtain⟨_,_,rfl⟩:=hnb.2.1.form
     obtain⟨_,_,rfl⟩:=hnb.2.2.1.form
     obtain⟨_,_,rfl⟩:=hnb.2.2.2.form
     refine R.ext C U U U U<|R.ext C U U U U<|R.store C U U U U sizeOf27 U U U V Ph5<|Ad C U U<|X.ret C U U func89 U (by exact(.agg U isAgg27 sizeOf27 V Tk5 (.tmp U .nil)))<|Hr hret (RO.le_trans hl1 hl2) ?_
     rw [e];exact hq3
end
end
section
theorem fewestOf_len(n:Nat)(is:Nat→Bool):((fewestOf n is).getD []).length≤n:=by
 by_cases h:∃m,m<2^n∧is m=true
 ·obtain⟨m,h1,h2⟩:=h
  obtain⟨y,h3,⟨m',_,_,rfl⟩,_⟩:=fewestOf_some h1 h2
  rw [h3];exact listOf_len m' n 0
 ·rw [fewestOf_none fun m hm=>by
   cases e:is m
   ·rfl
   ·exact absurd ⟨m,hm,e⟩ h]
  exact Nat.zero_le _
theorem sameInts_self6(l:List Int):sameInts l l=true:=by rw [sameInts_iff];simp
theorem clashR_len{b:Bk}:(clashR b).1.length≤1000000:=by
 unfold clashR
 split
 ·exact Nat.zero_le _
 split
 ·exact Nat.zero_le _
 ·rename_i h _
  have:=(good_of (Classical.not_not.1 h)).nt
  exact Nat.le_trans (fewestOf_len _ _) O
theorem news_root{b:Bk}{vb:Value}{t:Ts}{i q:Int}{x:Rc}{ro:RO}(he:Env ro)(hv:BkV ro vb b):Root prog 18 [vb,t.val, .int .i64 i, .int .i64 q,x.val] ro (fun w _=>w= .bool true):=by
 intro Post hret
 have hJ:Closed prog true (JM prog (Go.Conc.Good prog Post)):=JM.closed
 have hvv:=hv
 obtain⟨pb,pc,gb,gc,cb,cc,tb,tc,rfl,hp,hg,hc,ht⟩:=hv.all
 let main:=true
 let J:=JM prog (Go.Conc.Good prog Post)
 refine enter_X (n:=150) func18 U U (Nl U) ?_
 have C:Ctx prog main J (bf 18 .normal):=⟨hJ,by decide⟩
 refine Xr C U U<|R.box C U U U U fun p5=>R.box C U U U U fun p6=>R.box C U U U U fun p9=>Ad C U U<|Xs C<|Xr C U U<|R5 C U U isAgg27 sizeOf27 V Tk5<|R.callP C U U U U (greatR_c hJ hvv)<|R.done C<|X.cond C.1 U (fun hfit=>?_) (fun hfit=>?_)
 ·refine Xr C U U<|R.callR C U U U U ((hoisted_c _ he)) fun v9 ro9 hl9 hq9=>Ad C U U<|X.ret0 C Kr U U func18 U (by exact(.tmp U .nil)) fun w9 hs9=>hret _ _ _ hl9 ?_ w9 hs9
  exact hq9
 ·have hsh:=short_of hfit
  have hlc:=clashR_len (b:=b)
  refine X.skip C.1<|Xr C U U<|R5 C U U isAgg27 sizeOf27 V Tk5<|R.callR C U U U U (clash_c hJ he hvv hsh) fun v1 ro1 hl1 hq1=>?_
  obtain⟨w1,y1,rfl⟩:=hq1
  obtain⟨_,_,rfl⟩:=y1.form
  refine Rm C U U<|R.ext C U U U U<|R.ext C U U U U<|R.asg C U U U<|Ad C U U<|Xr C U U<|R5 C U U isAgg27 sizeOf27 V Tk5<|R.callR C U U U U (clashRef_c hJ (hvv.mono hl1) hsh) fun v2 ro2 hl2 hq2=>?_
  obtain⟨w2,y2,rfl⟩:=hq2
  obtain⟨_,_,rfl⟩:=y2.form
  have k2:=RO.le_trans hl1 hl2
  refine Rm C U U<|R.ext C U U U U<|R.ext C U U U U<|R.asg C U U U<|Ad C U U<|Xr C U U<|R5 C U U isAgg27 sizeOf27 V Tk5<|R.callR C U U U U (ask_c hJ (he.mono k2) (hvv.mono k2) hsh) fun v3 ro3 hl3 hq3=>?_
  subst hq3
  have k3:=RO.le_trans k2 hl3
  refine Rm C U U<|R.ext C U U U U<|R.ext C U U U U<|R.ext C U U U U<|R.ext C U U U U<|R.asg C U U U<|R.asg C U U U<|R.asg C U U U<|Ad C U U<|Xr C U U<|R5 C U U isAgg27 sizeOf27 V Tk5<|R.callR C U U U U (askRef_c hJ (hvv.mono k3) hsh) fun v4 ro4 hl4 hq4=>?_
  subst hq4
  have k4:=RO.le_trans k3 hl4
  refine Rm C U U<|R.ext C U U U U<|R.ext C U U U U<|R.ext C U U U U<|R.ext C U U U U<|R.asg C U U U<|R.asg C U U U<|R.asg C U U U<|Ad C U U<|Xs C<|Xr C U U<|Rm C U U<|Rm C U U<|R.callP C U U U U (sameInts_c hJ (y1.mono (RO.le_trans hl2 (RO.le_trans hl3 hl4))) (y2.mono (RO.le_trans hl3 hl4)) hlc hlc)<|R.not C U U U<|R.fixv (t:=55) (v':= .bool false) U (by(rw [sameInts_self6];rfl))<|Rm C U U<|Rm C U U<|Rm C U U<|R.int C U U U U b_neq<|R.fixv (t:=59) (v':= .bool false) U (Bv (by simp)) ?_;refine R.pickF C U U U U<|Rm C U U<|Rm C U U<|Rm C U U<|R.int C U U U U b_neq<|R.fixv (t:=64) (v':= .bool false) U (Bv (by simp)) ?_;refine R.pickF C U U U U<|Rm C U U<|Rm C U U<|Rm C U U<|R.int C U U U U b_neq<|R.fixv (t:=69) (v':= .bool false) U (Bv (by simp)) ?_;refine R.pickF C U U U U<|Rm C U U<|Rm C U U<|Rm C U U<|R.int C U U U U b_neq<|R.fixv (t:=74) (v':= .bool false) U (Bv (by simp)) ?_;refine R.pickF C U U U U<|Rm C U U<|Rm C U U<|Rm C U U<|R.int C U U U U b_neq<|R.fixv (t:=79) (v':= .bool false) U (Bv (by simp)) ?_;refine R.pickF C U U U U<|R.done C<|X.cond C.1 U (fun h=>nomatch h) (fun _=>?_)
  refine X.skip C.1<|Xr C U U<|R5 C U U isAgg27 sizeOf27 V Tk5<|R5 C U U isAgg92 sizeOf92 V Tk3<|R.callR C U U U U (try_c hJ (he.mono k4) (hvv.mono k4) hsh t) fun v5 ro5 hl5 hq5=>?_
  obtain⟨_,a5,rfl⟩:=hq5.bk
  have c5:=a5
  obtain⟨_,_,_,_,rfl,a5⟩:=a5
  obtain⟨_,_,rfl⟩:=a5.1.form
  obtain⟨_,_,rfl⟩:=a5.2.1.form
  obtain⟨_,_,rfl⟩:=a5.2.2.1.form
  obtain⟨_,_,rfl⟩:=a5.2.2.2.form
  have k5:=RO.le_trans k4 hl5
  refine Rm C U U<|R.ext C U U U U<|R.ext C U U U U<|R.alloc C U U zeroValue27 U fun p23=>R.store C U U U U sizeOf27 U U U V Ph5<|Ad C U U<|Xr C U U<|R5 C U U isAgg27 sizeOf27 V Tk5<|R5 C U U isAgg92 sizeOf92 V Tk3<|R.callR C U U U U (tryR_c hJ (hvv.mono k5) hsh t) fun v6 ro6 hl6 hq6=>?_
  obtain⟨_,a6,rfl⟩:=hq6.bk
  have c6:=a6
  obtain⟨_,_,_,_,rfl,a6⟩:=a6
  obtain⟨_,_,rfl⟩:=a6.1.form
  obtain⟨_,_,rfl⟩:=a6.2.1.form
  obtain⟨_,_,rfl⟩:=a6.2.2.1.form
  obtain⟨_,_,rfl⟩:=a6.2.2.2.form
  have k6:=RO.le_trans k5 hl6
  have ty5:=new_tiny (fun h=>try_good (b:=b) (t:=t) h)
  refine Rm C U U<|R.ext C U U U U<|R.ext C U U U U<|R.alloc C U U zeroValue27 U fun p24=>R.store C U U U U sizeOf27 U U U V Ph5<|Ad C U U<|Xs C<|Xr C U U<|R5 C U U isAgg27 sizeOf27 V Tk5<|R5 C U U isAgg27 sizeOf27 V Tk5<|R.callP C U U U U (sameR_c hJ (c5.mono hl6) c6 ty5 ty5)<|R.not C U U U<|R.fixv (t:=96) (v':= .bool false) U (by(rw [decide_eq_true rfl];rfl))<|Rm C U U<|Rm C U U<|Rm C U U<|R.int C U U U U b_neq<|R.fixv (t:=100) (v':= .bool false) U (Bv (by simp)) ?_;refine R.pickF C U U U U<|R.done C<|X.cond C.1 U (fun h=>nomatch h) (fun _=>?_)
  refine X.skip C.1<|Xr C U U<|R5 C U U isAgg27 sizeOf27 V Tk5<|Rm C U U<|R5 C U U isAgg65 sizeOf65 V Tk2<|R.callR C U U U U (know_c hJ (he.mono k6) (hvv.mono k6) hsh i x) fun v7 ro7 hl7 hq7=>?_
  obtain⟨_,a7,rfl⟩:=hq7.bk
  have c7:=a7
  obtain⟨_,_,_,_,rfl,a7⟩:=a7
  obtain⟨_,_,rfl⟩:=a7.1.form
  obtain⟨_,_,rfl⟩:=a7.2.1.form
  obtain⟨_,_,rfl⟩:=a7.2.2.1.form
  obtain⟨_,_,rfl⟩:=a7.2.2.2.form
  have k7:=RO.le_trans k6 hl7
  refine Rm C U U<|R.ext C U U U U<|R.ext C U U U U<|R.store C U U U U sizeOf27 U U U V Ph5<|Ad C U U<|Xr C U U<|R5 C U U isAgg27 sizeOf27 V Tk5<|Rm C U U<|R5 C U U isAgg65 sizeOf65 V Tk2<|R.callR C U U U U (knowR_c hJ (hvv.mono k7) hsh i x) fun v8 ro8 hl8 hq8=>?_
  obtain⟨_,a8,rfl⟩:=hq8.bk
  have c8:=a8
  obtain⟨_,_,_,_,rfl,a8⟩:=a8
  obtain⟨_,_,rfl⟩:=a8.1.form
  obtain⟨_,_,rfl⟩:=a8.2.1.form
  obtain⟨_,_,rfl⟩:=a8.2.2.1.form
  obtain⟨_,_,rfl⟩:=a8.2.2.2.form
  have k8:=RO.le_trans k7 hl8
  have ty7:=new_tiny (fun h=>know_good (b:=b) (i:=i) (y:=x) h)
  refine Rm C U U<|R.ext C U U U U<|R.ext C U U U U<|R.store C U U U U sizeOf27 U U U V Ph5<|Ad C U U<|Xs C<|Xr C U U<|R5 C U U isAgg27 sizeOf27 V Tk5<|R5 C U U isAgg27 sizeOf27 V Tk5<|R.callP C U U U U (sameR_c hJ (c7.mono hl8) c8 ty7 ty7)<|R.not C U U U<|R.fixv (t:=119) (v':= .bool false) U (by(rw [decide_eq_true rfl];rfl))<|Rm C U U<|Rm C U U<|Rm C U U<|R.int C U U U U b_neq<|R.fixv (t:=123) (v':= .bool false) U (Bv (by simp)) ?_;refine R.pickF C U U U U<|R.done C<|X.cond C.1 U (fun h=>nomatch h) (fun _=>?_)
  refine X.skip C.1<|Xr C U U<|R5 C U U isAgg27 sizeOf27 V Tk5<|Rm C U U<|R5 C U U isAgg65 sizeOf65 V Tk2<|R.callR C U U U U (weigh_c hJ (he.mono k8) (hvv.mono k8) hsh q x) fun v9 ro9 hl9 hq9=>?_
  obtain⟨_,a9,rfl⟩:=hq9.bk
  have c9:=a9
  obtain⟨_,_,_,_,rfl,a9⟩:=a9
  obtain⟨_,_,rfl⟩:=a9.1.form
  obtain⟨_,_,rfl⟩:=a9.2.1.form
  obtain⟨_,_,rfl⟩:=a9.2.2.1.form
  obtain⟨_,_,rfl⟩:=a9.2.2.2.form
  have k9:=RO.le_trans k8 hl9
  refine Rm C U U<|R.ext C U U U U<|R.ext C U U U U<|R.store C U U U U sizeOf27 U U U V Ph5<|Ad C U U<|Xr C U U<|R5 C U U isAgg27 sizeOf27 V Tk5<|Rm C U U<|R5 C U U isAgg65 sizeOf65 V Tk2<|R.callR C U U U U (weighR_c hJ (hvv.mono k9) hsh q x) fun v10 ro10 hl10 hq10=>?_
  obtain⟨_,a10,rfl⟩:=hq10.bk
  have c10:=a10
  obtain⟨_,_,_,_,rfl,a10⟩:=a10
  obtain⟨_,_,rfl⟩:=a10.1.form
  obtain⟨_,_,rfl⟩:=a10.2.1.form
  obtain⟨_,_,rfl⟩:=a10.2.2.1.form
  obtain⟨_,_,rfl⟩:=a10.2.2.2.form
  have k10:=RO.le_trans k9 hl10
  have ty9:=new_tiny (fun h=>weigh_good (b:=b) (i:=q) (y:=x) h)
  refine Rm C U U<|R.ext C U U U U<|R.ext C U U U U<|R.store C U U U U sizeOf27 U U U V Ph5<|Ad C U U<|Xr C U U<|R5 C U U isAgg27 sizeOf27 V Tk5<|R5 C U U isAgg27 sizeOf27 V Tk5<|R.callP C U U U U (sameR_c hJ (c9.mono hl10) c10 ty9 ty9) ?_
  rw [decide_eq_true (show newB (b.weighed q.toNat ((b.piece q).r.meet x)) (weighH b q x)=newB (b.weighed q.toNat ((b.piece q).r.meet x)) (weighH b q x) from rfl)]
  refine Rm C U U<|R.fixv (t:=142) (v':= .bool true) U (by rfl)<|Rm C U U<|Rm C U U<|R.int C U U U U b_eql<|R.fixv (t:=145) (v':= .bool true) U (Bv (by simp)) ?_;refine R.pickT C U U U U<|Rm C U U<|R.fixv (t:=147) (v':= .bool true) U (by rfl)<|R.callR C U U U U ((hoisted_c _ (he.mono k10))) fun v11 ro11 hl11 hq11=>R.pickT C U U U U<|Ad C U U<|X.ret0 C Kr U U func18 U (by exact(.tmp U .nil)) fun w9 hs9=>hret _ _ _ (RO.le_trans k10 hl11) ?_ w9 hs9
  exact hq11
end
end Go.Lg.B
namespace Go.Lg.B
open Go Go.Proofs Go.Proofs.YtchjgmkeemdhlaaGreatDoor Go.Proofs.Tryz
theorem news_k1:(Rows.tackleNewsRow.inPlace==prog.inPlace 18)=true:=by kernel_rfl
theorem news_k2:(Rows.tackleNewsRow.unfollowed==prog.unfollowed 18)=true:=by kernel_rfl
theorem news_k3:(Rows.tackleNewsRow.recurses==prog.recurses 18)=true:=by kernel_rfl
theorem news_k4:(Rows.tackleNewsRow.named==prog.varsNamed 18)=true:=by kernel_rfl
theorem news_name:prog.funcNamed "lagan/laganlaw07.TackleNews" =some 18:=by kernel_rfl
theorem news_goes:true=Rows.tackleNewsRow.goesBy prog:=by kernel_rfl
theorem news_wf:Rows.tackleNewsRow.wfByText (OpenSpec.ofChange Rows.tackleNewsSpec)=true:=by kernel_rfl
theorem news_facts:joinedFacts prog 18 Tryz.f18 Rows.tackleNewsSpec Rows.tackleNewsRow=true:=by
 unfold joinedFacts
 exact(and_mk (and_mk (and_mk (and_mk (and_mk (and_mk (and_mk (and_mk (and_mk (and_mk (and_mk (and_mk (and_mk (and_mk (and_mk (and_mk (and_mk (and_mk (and_mk (and_mk (and_mk (and_mk (and_mk (and_mk (and_mk (and_mk (and_mk (and_mk (and_mk (and_mk (and_mk (by as_aux_lemma=>kernel_rfl)
  k_lo)
  k_mr)
  (by as_aux_lemma=>kernel_rfl))
  (by as_aux_lemma=>kernel_rfl))
  (by as_aux_lemma=>kernel_rfl))
  k_stops)
  (by as_aux_lemma=>kernel_rfl))
  k_knobs)
  news_k1)
  news_k2)
  news_k3)
  news_k4)
  (by as_aux_lemma=>kernel_rfl))
  (by as_aux_lemma=>kernel_rfl))
  (by as_aux_lemma=>kernel_rfl))
  (by as_aux_lemma=>kernel_rfl))
  (by as_aux_lemma=>kernel_rfl))
  (by as_aux_lemma=>kernel_rfl))
  (by as_aux_lemma=>kernel_rfl))
  (by as_aux_lemma=>kernel_rfl))
  (by as_aux_lemma=>kernel_rfl))
  (beq_iff_eq.2 k_pk.symm))
  (by as_aux_lemma=>kernel_rfl))
  k_heard)
  k_may)
  (beq_iff_eq.2 k_lift.symm))
  (beq_iff_eq.2 k_make))
  (by as_aux_lemma=>kernel_rfl))
  (by as_aux_lemma=>kernel_rfl))
  (by as_aux_lemma=>kernel_rfl))
  (by as_aux_lemma=>kernel_rfl))
end Go.Lg.B
namespace Go.Proofs.YtchjgmkeemdhlaaGreatDoor
open Go Go.Conc Go.Lg Go.Lg.B Go.ChangeShapes Go.RowKit Go.WideShapes
theorem news_lifted(os:Os)(started:os.Started)(H:Type)(enc:TypeId×Value→H):
  ReturnsInLeavingWide {} Tryz.checked os 18 .any (fun w args=>(Rows.tackleNewsSpec.pre enc Tryz.prog Tryz.f18 [] false w args∧laidMetH Tryz.prog laid1 w)∧sizedMet enc Tryz.prog Tryz.f18 (OpenSpec.ofChange Rows.tackleNewsSpec) false w args)
   (Rows.tackleNewsSpec.post enc Tryz.prog Tryz.f18 false true false false):=by
 refine leaving_of_root (C:=Tryz.checked) (tb:=4) (X:=fun w _=>laidMetH Tryz.prog laid1 w) (fun _ _ _ hh h=>h.of_heap hh) own0 started Tryz.func18 laid0 (by
   intro t ht
   rw [Tryz.params18] at ht
   have hm:t∈ [27,92,3,3,65]:=ht
   have hall:([27,92,3,3,65].all fun u=>Tryz.prog.readableRec u && decide (u<Tryz.prog.types.size))=true:=by kernel_rfl
   have:=List.all_eq_true.1 hall t hm
   rw [Bool.and_eq_true,decide_eq_true_eq] at this
   exact this) rfl Kr Tryz.underlying4
  (ChangeSpec.witness_shaped (enc:=enc) (C:=Tryz.checked) (os:=os) (X:=fun w _=>laidMetH Tryz.prog laid1 w) false (World.doorLaid Tryz.prog 89 os) #[.agg #[.int .i64 0, .slice none 0 0, .slice none 0 0, .slice none 0 0, .slice none 0 0], .agg #[.int .i64 0, .int .i64 0, .bool false], .int .i64 0, .int .i64 0, .agg #[.int .i64 0, .int .i64 0]] 8 rfl (door_shaped os _) Kr Kr Kr (door_met os _)) ?_
 intro W base args ds gs before hval hW _ _ hL
 obtain⟨p,q,hA,hV,rfl,_,_⟩:=hW
 obtain⟨rfl,rfl⟩:=trodVars_none hV
 have hA:DataW.TrodAll enc Tryz.prog W 0 (fun _=>true) true Tryz.f18.params.toList args.toList ds p:=hA
 have hval:∀ (j:Nat) t v,Tryz.f18.params[j]? =some t→args[j]? =some v→Value.okWide Tryz.prog W .any base t v:=hval
 rw [Tryz.params18] at hA hval
 obtain⟨v1,l1,d1,k1,p1,q1,e1,rfl,rfl,h1,hA⟩:=trodAll_cons hA
 obtain⟨v2,l2,d2,k2,p2,q2,rfl,rfl,rfl,h2,hA⟩:=trodAll_cons hA
 obtain⟨v3,l3,d3,k3,p3,q3,rfl,rfl,rfl,h3,hA⟩:=trodAll_cons hA
 obtain⟨v4,l4,d4,k4,p4,q4,rfl,rfl,rfl,h4,hA⟩:=trodAll_cons hA
 obtain⟨v5,l5,d5,k5,p5,q5,rfl,rfl,rfl,h5,hA⟩:=trodAll_cons hA
 obtain⟨rfl,rfl,rfl⟩:=trodAll_nil hA
 have ea:args= #[v1,v2,v3,v4,v5]:=Array.toList_inj.1 e1
 subst ea
 obtain⟨b,b1⟩:=argBk (hval 0 27 v1 rfl rfl) h1
 obtain⟨t,rfl⟩:=argTs (hval 1 92 v2 rfl rfl) h2
 obtain⟨a1,rfl,_⟩:=argInt (hval 2 3 v3 rfl rfl) h3
 obtain⟨a2,rfl,_⟩:=argInt (hval 3 3 v4 rfl rfl) h4
 obtain⟨x,rfl⟩:=argRc (hval 4 65 v5 rfl rfl) h5
 exact⟨rfl,news_root (env_of_laid hL) b1⟩
theorem news_row:Rows.TackleNewsSaid:=
 OpenClaim.holds_of_wide_leaving 18 Tryz.f18 rfl rfl rfl rfl rfl rfl rfl ⟨rfl,rfl,rfl,rfl,rfl⟩ rfl rfl rfl rfl rfl news_name Tryz.func18 news_facts
  (of_decide_eq_true Kr) (by unfold Func.isWrapper;first|(rw [if_pos (by decide+kernel)];kernel_rfl)|(rw [if_neg (by decide+kernel)];exact⟨rfl,rfl⟩))
  (fun os started H enc _=>news_lifted os started H enc)
theorem news_holds:Rows.TackleNewsCardSaid:=
 card_goes .later [.funcs] true (true, "6ec45924a9ef3528b91853e2f3d4ce9a8ac3f7423f5bdc8d9ecf7c969235976f") true
  news_row news_wf tackleNews_row_tie rfl ⟨rfl,rfl⟩ k_main rfl
  (fun f fn hf hfn=>by
   obtain rfl:f=18:=Option.some.inj (news_name.symm.trans hf)|>.symm
   obtain rfl:fn=Tryz.f18:=(Option.some.inj (Tryz.func18.symm.trans hfn)).symm
   exact⟨k_looks,fun j t ht=>by
    rw [Tryz.params18] at ht
    have hm:t∈ [27,92,3,3,65]:=by simpa using Array.mem_of_getElem? ht
    have hall:([27,92,3,3,65].all fun u=> !Tryz.prog.wantsStandIn u)=true:=by kernel_rfl
    exact(show Tryz.prog.wantsStandIn t=false by simpa using List.all_eq_true.1 hall t hm)⟩)
  news_goes
end Go.Proofs.YtchjgmkeemdhlaaGreatDoor
