/-
  It is proved that the given function answers true for every input, whatever is scheduled: the statement Learnt of the seat. Conditions: none but those of the given statement itself.
-/
import Derived.Test.YtchjgmkeemdhlaaGreatDoorKE
import Derived.WideShapes
import Derived.ChangeShapes
import Derived.Conc.Holds
set_option maxRecDepth 100000
set_option maxHeartbeats 2000000
set_option linter.all false
namespace Go.Lg
open Go
theorem Bv{a c:Bool}(h:a=c):Value.bool a=Value.bool c:=congrArg _ h
end Go.Lg
namespace Go.Lg
open Go Go.Conc
theorem R.neEq{P:Program}{main:Bool}{J:Goroutine→Mem→Prop}{b:Frame}(C:Ctx P main J b){cs:List Frame}{n:Nat}{ds:List Deferred}{σ:Slots}{k:List Item}{ops:Array Oper}{i:Nat}{rest:List Nat}{d:Nat}{ty:TypeId}{pos:String}{af:Array Edge}{g:Option (Nat×Bool)}
  {t t':TypeId} {x y:Operand} {p q:List Value} {r:Bool} {M:Mem} (ho:ops[i]? =some ⟨some d, .binOp .neq t x y t',ty,pos,af,g⟩) (hg:wantedS ops σ ⟨some d, .binOp .neq t x y t',ty,pos,af,g⟩=some true)
  (hx:ev σ x=some (.agg p.toArray)) (hy:ev σ y=some (.agg q.toArray)) (ht:Eq1 P 10000 t (.agg p.toArray) (.agg q.toArray) r) (hd:P.eqGuardType P.depth t=false)
  (h:R J b cs n ops rest k ds ((d, .bool (!r))::σ) M):R J b cs n ops (i::rest) k ds σ M:=
 R.v C ho hg rfl (fun a ha K hk=>by
  unfold execOp
  simp only [ha.ev hx,ha.ev hy]
  refine ex_v (Sm.bind ?_)
  unfold eqGuard
  refine Sm.bind (Sm.program (Sm.bind (Sm.program ?_)))
  rw [hd]
  refine Sm.pure ?_
  show Sm P M (binOp .neq t (.agg p.toArray) (.agg q.toArray)) _
  unfold binOp
  simp only
  exact Sm.bind (ht _ _ (Sm.pure hk))) h
theorem X.afterI{J:Goroutine→Mem→Prop}{b:Frame}{cs:List Frame}{n:Nat}{ds:List Deferred}{σ:Slots}{M:Mem}{k:List Item}{it:Item}{ι:Type}(Ex:ι→Prop)(σe:ι→Slots)(Me:ι→Mem)(hk:∀s,Ex s→X J b cs n k ds (σe s) (Me s))
  (h:(∀s,Ex s→X J b cs n k ds (σe s) (Me s))→X J b cs n (it::k) ds σ M):X J b cs n (it::k) ds σ M:=h hk
section
variable {P:Program}{main:Bool}{J:Goroutine→Mem→Prop}{b:Frame}(C:Ctx P main J b){cs:List Frame}{n:Nat}{ds:List Deferred}{σ:Slots}{ro:RO}{own:List (Nat×Obj)}{k:List Item}{ops:Array Oper}{i:Nat}{rest:List Nat}
variable {d:Nat}{ty:TypeId}{pos:String}{af:Array Edge}{g:Option (Nat×Bool)}
end
section
variable {P:Program}{main:Bool}{J:Goroutine→Mem→Prop}{b:Frame}(C:Ctx P main J b){cs:List Frame}{n:Nat}{ds:List Deferred}{σ:Slots}{k:List Item}{ops:Array Oper}{i:Nat}{rest:List Nat}
 {d:Nat} {ty:TypeId} {pos:String} {af:Array Edge} {g:Option (Nat×Bool)}
include C
end
end Go.Lg
namespace Go.Lg.B
open Go Go.Conc Go.Lg Go.Proofs Go.Proofs.Tryz
def Bk.borne(b:Bk)(i:Nat)(r:Rc):Bk:={b with ps:=b.ps.modify i fun p=>{p with r:=r} }
def tryH(b:Bk)(t:Ts):Int:=if checkBook b≠0 then checkBook b else openH (b.tried t) 0
def knowH(b:Bk)(i:Int)(y:Rc):Int:=
 if checkBook b≠0 then checkBook b else if there i b.ps.length≠0 then there i b.ps.length else if knownH (b.part i).r y 0≠0 then knownH (b.part i).r y 0 else openH (b.borne i.toNat ((b.part i).r.meet y)) 0
variable {main:Bool}{J:Goroutine→Mem→Prop}(hJ:Closed prog main J)
include hJ
omit hJ in
theorem Bk.short.borne{b:Bk}(h:b.short)(i:Nat)(r:Rc):(b.borne i r).short:=by
 refine⟨⟨by simpa [Bk.borne] using h.ps.1,fun p hp=>?_⟩,h.gs,h.cs,h.ts⟩
 obtain⟨j,hj,rfl⟩:=List.mem_iff_getElem.1 hp
 simp only [Bk.borne,List.getElem_modify]
 split
 ·exact h.ps.2 (b.ps[j]'(by simpa [Bk.borne] using hj)) (List.getElem_mem _)
 ·exact h.ps.2 _ (List.getElem_mem _)
theorem try_c{b:Bk}{v:Value}{ro:RO}(he:Env ro)(hv:BkV ro v b)(hs:b.short)(t:Ts):CallR prog J (fnv 85) [v,t.val] ro (fun w ro'=>NewV ro' (b.tried t) (tryH b t) w):=by
 have hvv:=hv
 obtain⟨vp,vg,vc,vt,rfl,hv⟩:=hv
 have hv':=hv
 obtain⟨pb,pcap,rfl⟩:=hv.1.form
 obtain⟨gb,gcap,rfl⟩:=hv.2.1.form
 obtain⟨cb,ccap,rfl⟩:=hv.2.2.1.form
 obtain⟨tb,tcap,rfl⟩:=hv.2.2.2.form
 refine CallR.intro hJ (by kernel_rfl) fun c cs tail hret=>enter_X (n:=24) func85 U U (Nl U) ?_
 have C:Ctx prog main J (bf 85 .normal):=⟨hJ,by decide⟩
 refine Xr C U U<|R.box C U U U U fun p2=>R.box C U U U U fun p3=>R.alloc C U U zeroValue27 U fun p4=>Ad C U U<|Xs C<|Xr C U U<|R5 C U U isAgg27 sizeOf27 (by repeat constructor) Tk5<|R.callP C U U U U (checkBook_c hJ (by assumption) (by assumption) (by assumption))<|Ad C U U<|Xr C U U<|Rm C U U<|R.int C U U U U b_neq<|R.done C<|X.cond C.1 U (fun hh=>?_) (fun hh=>?_)
 ·have hh:checkBook b≠0:=by simpa using hh
  have e:tryH b t=checkBook b:=by rw [tryH,if_pos hh]
  refine Xr C U U ?_;refine R.build C U U U zeroValue27 U runUnderlying27 (by kernel_rfl) .nil<|Rm C U U<|R.store C U U U U sizeOf27 U U U (by repeat constructor) Ph5<|Ad C U U<|X.ret C U U func85 U (by exact(.agg U isAgg27 sizeOf27 (by repeat constructor) Tk5 (.tmp U .nil)))<|Hr hret (RO.le_refl _) ?_
  rw [e];exact .inl ⟨hh,rfl⟩
 ·have hh:checkBook b=0:=by simpa using hh
  have hb:=good_of hh
  have hnt:=hb.nt
  have e:tryH b t=openH (b.tried t) 0:=by rw [tryH,if_neg (fun h=>h hh)]
  have hfl:(b.ts.flatMap Ts.cells).length=b.ts.length*3:=flatMap_len Ts.len _
  have hts:(b.tried t).ts.flatMap Ts.cells=b.ts.flatMap Ts.cells++t.cells:=by simp [Bk.tried]
  refine X.skip C.1<|Xs C<|X.afterI (ι:=Value×List (Nat×Obj)) (fun s=>Buf 92 3 [] s.1 ((b.tried t).ts.flatMap Ts.cells) s.2) (fun _=> [(2, .pointer (some ⟨p2,0,none⟩)),(4, .pointer (some ⟨p4,0,none⟩))])
   (fun s=>⟨ro,s.2++((p4, .cells [.int .i64 0, .slice none 0 0, .slice none 0 0, .slice none 0 0, .slice none 0 0].toArray 27 (0,0))::(p3, .cells t.cells.toArray 92 (0,0))::(p2, .cells [.int .i64 b.w, .slice pb b.ps.length pcap, .slice gb b.gs.length gcap, .slice cb b.cs.length ccap,s.1].toArray 27 (0,0))::tail)⟩) (fun s hsb=>?_) (fun hcont=>?_)
  rotate_left
  ·have _:=hts
   refine Xd C fun hok=>Df (off':=4) C 0 hok U U U runUnderlying27 U sizeOf25 U<|Dl 1 hok (fun _ _ A h=>R.loadOne C U (A.w U U) (A.x U U) isAgg25 (by repeat (first|exact Mh|apply Mt|apply List.mem_append_right)) U h)<|Dl 3 hok (fun _ _ A h=>R.loadAgg C U (A.w U U) (A.x U U) isAgg92 sizeOf92 (by repeat (first|exact Mh|apply Mt|apply List.mem_append_right)) Tk3 h)<|D.eP2 (i:=2) (i':=4) (dst:=(some 15)) (dst':=(some 17)) [true,false] [false,true] hok U U (by kernel_rfl) (by kernel_rfl) (by kernel_rfl) (fun _ _ A hk=>?_) (fun _ _ A hk=>?_)
   ·
    refine R.call C U (A.w U U) (A.x U U) (A.s U U) (pre:= []) U (cloneT_c hJ hv'.2.2.2 (by omega)) fun w2 ro2 pre2 hl2 hp2=>hk _ _ ⟨(QFs.cons (QF.of U (fun _ _ A h=>R.loadAgg C U (A.w U U) (A.x U U) isAgg92 sizeOf92 (by repeat (first|exact Mh|apply Mt|apply List.mem_append_right)) Tk3 h)) QFs.nil), ?_⟩
    obtain⟨hro2,hbuf⟩:=hp2
    subst hro2
    refine De 4 (some 17) [false] hok (fun _ _ A hk=>?_)
    refine R.buildSlice C (vs:=_) U (A.w U U) (show pvals _ _=some (numbered 0 [_]) from(A.p U U)) U runUnderlying25 sizeOf92 zeroValue92 (by decide) (Cat.one U U) fun p17=>hk _ _ ⟨QFs.nil, ?_⟩
    refine De 5 (some 18) [] hok (fun _ _ A hk=>?_)
    refine R.append1 (kk:=3) C U (A.w U U) (A.x U U) (A.x U U) runUnderlying25 runUnderlying25 (fun _=>nofun) (show prog.info? 92=some Tryz.t92 by kernel_rfl) U U U (by decide) (by decide) (hbuf.app _) U U (by simp only [List.length_append,List.length_cons,List.length_nil];omega) fun v' own' hb'=>hk _ _ ⟨QFs.nil, ?_⟩
    refine Df (off':=4) C 6 hok U U U runUnderlying27 U sizeOf25 U<|De 7 none [] hok (fun _ _ A hk=>?_)
    obtain⟨own1,rfl,hb1⟩:=hb'.unapp (tail:= [])
    refine R.store C U (A.w U U) (A.x U U) (A.x U U) sizeOf25 hb'.cells1 U hb'.ones1 (by repeat (first|exact Uh|apply Ut|apply Upd.app)) (.skip (.skip (.skip (.skip (.here .nil))))) (hk undef _ ⟨QFs.nil, ?_⟩)
    refine D.done C hok (by kernel_rfl)<|X.weaken ?_ (hcont (v',own1) (by rw [hts];exact hb1))
    exact⟨U,U,trivial⟩
   ·
    refine R.buildSlice C (vs:=_) U (A.w U U) (show pvals _ _=some (numbered 0 [_]) from(A.p U U)) U runUnderlying25 sizeOf92 zeroValue92 (by decide) (Cat.one U U) fun p17=>hk _ _ ⟨(QFs.cons (QF.of U (fun _ _ A h=>R.loadOne C U (A.w U U) (A.x U U) isAgg25 (by repeat (first|exact Mh|apply Mt|apply List.mem_append_right)) U h)) QFs.nil), ?_⟩
    refine De 2 (some 15) [false] hok (fun _ _ A hk=>?_)
    refine R.call C U (A.w U U) (A.x U U) (A.s U U) (pre:= []) U (cloneT_c hJ hv'.2.2.2 (by omega)) fun w2 ro2 pre2 hl2 hp2=>hk _ _ ⟨QFs.nil, ?_⟩
    obtain⟨hro2,hbuf⟩:=hp2
    subst hro2
    refine De 5 (some 18) [] hok (fun _ _ A hk=>?_)
    refine R.perm C.1 List.perm_middle<|R.append1 (kk:=3) C U (A.w U U) (A.x U U) (A.x U U) runUnderlying25 runUnderlying25 (fun _=>nofun) (show prog.info? 92=some Tryz.t92 by kernel_rfl) U U U (by decide) (by decide) (hbuf.app _) U U (by simp only [List.length_append,List.length_cons,List.length_nil];omega) fun v' own' hb'=>hk _ _ ⟨QFs.nil, ?_⟩
    refine Df (off':=4) C 6 hok U U U runUnderlying27 U sizeOf25 U<|De 7 none [] hok (fun _ _ A hk=>?_)
    obtain⟨own1,rfl,hb1⟩:=hb'.unapp (tail:= [])
    refine R.store C U (A.w U U) (A.x U U) (A.x U U) sizeOf25 hb'.cells1 U hb'.ones1 (by repeat (first|exact Uh|apply Ut|apply Upd.app)) (.skip (.skip (.skip (.skip (.here .nil))))) (hk undef _ ⟨QFs.nil, ?_⟩)
    refine D.done C hok (by kernel_rfl)<|X.weaken ?_ (hcont (v',own1) (by rw [hts];exact hb1))
    exact⟨U,U,trivial⟩
  obtain⟨v',own1⟩:=s
  simp only at hsb⊢
  have hb2:=hsb
  refine Xs C<|X.finish C.1 Ts.len (by decide) (hb2.app _) fun ro4 hl4 hls=>?_
  have hv4:=hv'.mono hl4
  have hag:=agreed_c hJ (b:=b.tried t) (he.mono hl4) ⟨_,_,_,_,rfl,hv4.1,hv4.2.1,hv4.2.2.1,hls⟩ ⟨hs.ps,hs.gs,hs.cs,by simp [Bk.tried];omega⟩
  obtain⟨_,_,rfl⟩:=hls.form
  refine X.region C U U<|R5 C U U isAgg27 sizeOf27 (by repeat constructor) Tk5<|R.callR C U U U U (hag) fun w5 ro5 hl5 hp5=>?_
  rcases hp5 with⟨h1,rfl⟩|⟨h1,v5,hv5,rfl⟩
  ·
   refine R.ext C U U U U<|R.ext C U U U U<|R.store C U U U U sizeOf27 U U U (by repeat constructor) Ph5<|Ad C U U<|X.ret C U U func85 U (by exact(.agg U isAgg27 sizeOf27 (by repeat constructor) Tk5 (.tmp U .nil)))<|Hr hret (RO.le_trans hl4 hl5) ?_
   rw [e];exact .inl ⟨h1,rfl⟩
  ·
   have hv5':=hv5
   obtain⟨_,_,_,_,rfl,hv5⟩:=hv5
   obtain⟨_,_,rfl⟩:=hv5.1.form
   obtain⟨_,_,rfl⟩:=hv5.2.1.form
   obtain⟨_,_,rfl⟩:=hv5.2.2.1.form
   obtain⟨_,_,rfl⟩:=hv5.2.2.2.form
   refine R.ext C U U U U<|R.ext C U U U U<|R.store C U U U U sizeOf27 U U U (by repeat constructor) Ph5<|Ad C U U<|X.ret C U U func85 U (by exact(.agg U isAgg27 sizeOf27 (by repeat constructor) Tk5 (.tmp U .nil)))<|Hr hret (RO.le_trans hl4 hl5) ?_
   rw [e];exact .inr ⟨h1,_,hv5',rfl⟩
theorem know_c{b:Bk}{v:Value}{ro:RO}(he:Env ro)(hv:BkV ro v b)(hs:b.short)(i:Int)(y:Rc):CallR prog J (fnv 79) [v, .int .i64 i,y.val] ro (fun w ro'=>NewV ro' (b.borne i.toNat ((b.part i).r.meet y)) (knowH b i y) w):=by
 have hvv:=hv
 obtain⟨vp,vg,vc,vt,rfl,hv⟩:=hv
 have hv':=hv
 obtain⟨pb,pcap,rfl⟩:=hv.1.form
 obtain⟨gb,gcap,rfl⟩:=hv.2.1.form
 obtain⟨cb,ccap,rfl⟩:=hv.2.2.1.form
 obtain⟨tb,tcap,rfl⟩:=hv.2.2.2.form
 refine CallR.intro hJ (by kernel_rfl) fun c cs tail hret=>enter_X (n:=44) func79 U U (Nl U) ?_
 have C:Ctx prog main J (bf 79 .normal):=⟨hJ,by decide⟩
 refine Xr C U U<|R.box C U U U U fun p3=>R.box C U U U U fun p5=>R.alloc C U U zeroValue27 U fun p6=>Ad C U U<|Xs C<|Xr C U U<|R5 C U U isAgg27 sizeOf27 (by repeat constructor) Tk5<|R.callP C U U U U (checkBook_c hJ (by assumption) (by assumption) (by assumption))<|Ad C U U<|Xr C U U<|Rm C U U<|R.int C U U U U b_neq<|R.done C<|X.cond C.1 U (fun hh=>?_) (fun hh=>?_)
 ·have hh:checkBook b≠0:=by simpa using hh
  have e:knowH b i y=checkBook b:=by rw [knowH,if_pos hh]
  refine Xr C U U ?_;refine R.build C U U U zeroValue27 U runUnderlying27 (by kernel_rfl) .nil<|Rm C U U<|R.store C U U U U sizeOf27 U U U (by repeat constructor) Ph5<|Ad C U U<|X.ret C U U func79 U (by exact(.agg U isAgg27 sizeOf27 (by repeat constructor) Tk5 (.tmp U .nil)))<|Hr hret (RO.le_refl _) ?_
  rw [e];exact .inl ⟨hh,rfl⟩
 ·have hh:checkBook b=0:=by simpa using hh
  have hb:=good_of hh
  have hn:=hb.np
  refine X.skip C.1<|Xs C<|Xr C U U<|Rm C U U<|R5 C U U isAgg27 sizeOf27 (by repeat constructor) Tk5<|R.call C U U U U (pre:= []) U (yardOf_c hJ hv') fun w1 ro1 pre1 hl1 hp1=>?_
  obtain⟨rfl,m,rfl,rfl⟩:=hp1
  refine R.callP C U U U U (bound (askPart_c hJ hv' hb i m))<|Ad C U U<|Xr C U U<|Rm C U U<|R.int C U U U U b_neq<|R.done C<|X.cond C.1 U (fun hi0=>?_) (fun hi0=>?_)
  ·have hi0:there i b.ps.length≠0:=by simpa using hi0
   have e:knowH b i y=there i b.ps.length:=by rw [knowH,if_neg (fun h=>h hh),if_pos hi0]
   refine Xr C U U ?_;refine R.build C U U U zeroValue27 U runUnderlying27 (by kernel_rfl) .nil<|Rm C U U<|R.store C U U U U sizeOf27 U U U (by repeat constructor) Ph5<|Ad C U U<|X.ret C U U func79 U (by exact(.agg U isAgg27 sizeOf27 (by repeat constructor) Tk5 (.tmp U .nil)))<|Hr hret (RO.le_refl _) ?_
   rw [e];exact .inl ⟨hi0,rfl⟩
  ·have hi0:there i b.ps.length=0:=by simpa using hi0
   have hib:=there_zero.1 hi0
   have hil:i.toNat<b.ps.length:=by omega
   have hpi:b.part i=b.ps[i.toNat]:=by simp [Bk.part,List.getD_eq_getElem?_getD,hil]
   have e0:knowH b i y=if knownH (b.part i).r y 0≠0 then knownH (b.part i).r y 0 else openH (b.borne i.toNat ((b.part i).r.meet y)) 0:=by rw [knowH,if_neg (fun h=>h hh),if_neg (fun h=>h hi0)]
   refine X.skip C.1<|Xr C U U<|Rf C 1 U U runUnderlying27 U sizeOf22<|Rl C U U isAgg22 (by repeat constructor) U<|R.call C U U U U (pre:= []) U (cloneP_c hJ hv'.1 (by omega)) fun w2 ro2 pre2 hl2 hp2=>?_
   obtain⟨hro2,hbuf⟩:=hp2
   subst hro2
   obtain⟨p9,cap9,sp9,rfl,hcap9,rfl⟩:=blk_of Pt.len (by decide) hbuf (by intro h;rw [h] at hil;exact absurd hil (Nat.not_lt_zero _))
   have hmf:=modify_flat (enc:=Pt.cells) (k:=4) Pt.len (fun p=>{p with r:=(b.part i).r.meet y}) b.ps i.toNat sp9 2 [.int .i64 (max (b.part i).r.lo y.lo), .int .i64 (min (b.part i).r.hi y.hi)] hil (fun x _=> .skip (.skip Ph2))
   have hml:(b.ps.modify i.toNat fun p=>{p with r:=(b.part i).r.meet y}).length=b.ps.length:=by simp
   have g0:=flat_get (sp:=sp9) Pt.len (l:=b.ps) hil (show 2<4 by decide)
   have g1:=flat_get (sp:=sp9) Pt.len (l:=b.ps) hil (show 2+1<4 by decide)
   have g2:=flat_get (sp:=sp9) Pt.len (l:=b.ps.modify i.toNat fun p=>{p with r:=(b.part i).r.meet y}) (i:=i.toNat) (by rw [hml];exact hil) (show 2<4 by decide)
   have g3:=flat_get (sp:=sp9) Pt.len (l:=b.ps.modify i.toNat fun p=>{p with r:=(b.part i).r.meet y}) (i:=i.toNat) (by rw [hml];exact hil) (show 2+1<4 by decide)
   rw [List.getElem_modify,if_pos rfl] at g2 g3
   rw [←hpi] at g0 g1
   have eo:0+i.toNat*4+2=i.toNat*4+2:=by omega
   have hkc:=known_c hJ (pb:=p9) (t:=67) (off:=0+i.toNat*4+2) (k:=0) (ro:=ro2) (r:=(b.part i).r) (y:=y) (by rw [eo];exact g0) (by rw [eo];exact g1) (by rw [eo];exact hmf) (by rw [eo];exact g2) (by rw [eo];exact g3)
   refine Rf C 1 U U runUnderlying27 U sizeOf22<|R.store C U U U U sizeOf22 U U U (by repeat constructor) (.skip (.here .nil))<|R.done C<|Xs C<|Xs C<|Xd C fun hok=>Df (off':=1) C 0 hok U U U runUnderlying27 U sizeOf22 U<|D1 C 1 hok U U isAgg22 (by repeat constructor) U<|Dm C 2 hok U U U<|Dx C 3 hok U U U runUnderlying22 sizeOf67<|Df C 4 hok U U U runUnderlying67 U sizeOf65 U<|D5 C 5 hok U U isAgg65 sizeOf65 (by repeat constructor) Tk2<|De 6 (some 35) [false,false] hok (fun _ _ A hk=>?_)
   refine R.call C U (A.w U U) (A.x U U) (A.s U U) (pre:= [_]) U hkc fun w3 ro3 pre3 hl3 hp3=>hk _ _ ⟨QFs.nil, ?_⟩
   obtain⟨rfl,hro3,hk0,l2,rfl⟩:=hp3
   subst hro3
   refine Da C 7 hok U U<|D.done C hok (by kernel_rfl)<|Xr C U U<|Rm C U U<|R.int C U U U U b_neq<|R.done C<|X.cond C.1 U (fun hk=>?_) (fun hk=>?_)
   ·have hk:knownH (b.part i).r y 0≠0:=by simpa using hk
    have e:knowH b i y=knownH (b.part i).r y 0:=by rw [e0,if_pos hk]
    refine Xr C U U ?_;refine R.build C U U U zeroValue27 U runUnderlying27 (by kernel_rfl) .nil<|Rm C U U<|R.store C U U U U sizeOf27 U U U (by repeat constructor) Ph5<|Ad C U U<|X.ret C U U func79 U (by exact(.agg U isAgg27 sizeOf27 (by repeat constructor) Tk5 (.tmp U .nil)))<|Hr hret (RO.le_refl _) ?_
    rw [e];exact .inl ⟨hk,rfl⟩
   ·have hk:knownH (b.part i).r y 0=0:=by simpa using hk
    have e:knowH b i y=openH (b.borne i.toNat ((b.part i).r.meet y)) 0:=by rw [e0,if_neg (fun h=>h hk)]
    rw [hk0 hk]
    refine X.skip C.1<|Xs C<|X.persist C.1 fun ro4 hl4 h9=>?_
    have hls:Ls Pt.cells 4 ro4 (.slice (some ⟨p9,0,none⟩) b.ps.length cap9) (b.ps.modify i.toNat fun p=>{p with r:=(b.part i).r.meet y}):=⟨_,_,by rw [hml], .inr ⟨p9,0,_,_,_,rfl,h9,by rw [←flatMap_len Pt.len];exact Sub.front _ _⟩⟩
    have hv4:=hv'.mono hl4
    have hag:=agreed_c hJ (b:=b.borne i.toNat ((b.part i).r.meet y)) (he.mono hl4) ⟨_,_,_,_,rfl,hls,hv4.2.1,hv4.2.2.1,hv4.2.2.2⟩ (hs.borne _ _)
    refine X.region C U U<|R5 C U U isAgg27 sizeOf27 (by repeat constructor) Tk5<|R.callR C U U U U (hag) fun w5 ro5 hl5 hp5=>?_
    rcases hp5 with⟨h1,rfl⟩|⟨h1,v5,hv5,rfl⟩
    ·
     refine R.ext C U U U U<|R.ext C U U U U<|R.store C U U U U sizeOf27 U U U (by repeat constructor) Ph5<|Ad C U U<|X.ret C U U func79 U (by exact(.agg U isAgg27 sizeOf27 (by repeat constructor) Tk5 (.tmp U .nil)))<|Hr hret (RO.le_trans hl4 hl5) ?_
     rw [e];exact .inl ⟨h1,rfl⟩
    ·
     have hv5':=hv5
     obtain⟨_,_,_,_,rfl,hv5⟩:=hv5
     obtain⟨_,_,rfl⟩:=hv5.1.form
     obtain⟨_,_,rfl⟩:=hv5.2.1.form
     obtain⟨_,_,rfl⟩:=hv5.2.2.1.form
     obtain⟨_,_,rfl⟩:=hv5.2.2.2.form
     refine R.ext C U U U U<|R.ext C U U U U<|R.store C U U U U sizeOf27 U U U (by repeat constructor) Ph5<|Ad C U U<|X.ret C U U func79 U (by exact(.agg U isAgg27 sizeOf27 (by repeat constructor) Tk5 (.tmp U .nil)))<|Hr hret (RO.le_trans hl4 hl5) ?_
     rw [e];exact .inr ⟨h1,_,hv5',rfl⟩
end Go.Lg.B
namespace Go.Lg.B
open Go Go.Conc Go.Lg Go.Proofs Go.Proofs.Tryz
theorem cmpI_flip(x y:Int):cmpI y x= -cmpI x y:=by unfold cmpI;split<;>split<;>(try split)<;>omega
theorem cmpL_flip:∀a c:List Int,cmpL c a= -cmpL a c
 | [], []=>rfl
 | [],_::_=>rfl
 |_::_, []=>rfl
 |x::xs,y::ys=>by
  have h:=cmpI_flip x y
  have ih:=cmpL_flip xs ys
  simp only [cmpL]
  split<;>split<;>omega
theorem cmpL_zero:∀ {a c:List Int},cmpL a c=0→a=c
 | [], [],_=>rfl
 | [],_::_,h=>by simp [cmpL] at h
 |_::_, [],h=>by simp [cmpL] at h
 |x::xs,y::ys,h=>by
  simp only [cmpL] at h
  split at h
  ·contradiction
  ·rename_i hx
   simp only [ne_eq,Decidable.not_not] at hx
   rw [cmpI_zero.1 hx,cmpL_zero h]
theorem cmpL_refl:∀a:List Int,cmpL a a=0
 | []=>rfl
 |x::xs=>by
  have:cmpI x x=0:=cmpI_zero.2 rfl
  simp [cmpL,this,cmpL_refl xs]
theorem sameInts_iff{a c:List Int}:sameInts a c=decide (a=c):=by
 unfold sameInts earlier
 have h:=cmpL_flip a c
 by_cases e:a=c
 ·subst e;simp [cmpL_refl]
 ·have:cmpL a c≠0:=fun h=>e (cmpL_zero h)
  rw [decide_eq_false e]
  by_cases h1:cmpL a c<0
  ·simp [h1]
  ·have h2:cmpL c a<0:=by omega
   simp [h2]
end Go.Lg.B
namespace Go.Lg.B
open Go Go.Conc Go.Lg Go.Proofs Go.WideShapes Go.ChangeShapes Go.Proofs.Tryz
section
variable {H:Type}{enc0:TypeId×Value→H}{W:World}{base:Nat}{sp:Nat→Bool}{held:Bool}
theorem argRc{r:Reach}{b0:Nat}{v:Value}{d:DataW H}{p:List MemPlace}(hv:Value.okWide prog W r b0 65 v)(h:DataW.Trod enc0 prog W base sp held 65 v d p):∃s:Rc,v=s.val:=by
 obtain⟨cs,rfl,_⟩:=okWide_struct underlying65 hv
 obtain⟨n,h⟩:=h
 obtain⟨s,e⟩:=rc_of h
 exact⟨s,by rw [Rc.val, ←e];rfl⟩
theorem argTs{r:Reach}{b0:Nat}{v:Value}{d:DataW H}{p:List MemPlace}(hv:Value.okWide prog W r b0 92 v)(h:DataW.Trod enc0 prog W base sp held 92 v d p):∃s:Ts,v=s.val:=by
 obtain⟨cs,rfl,_⟩:=okWide_struct underlying92 hv
 obtain⟨n,h⟩:=h
 obtain⟨s,e⟩:=ts_of h
 exact⟨s,by rw [Ts.val, ←e];rfl⟩
end
end Go.Lg.B
namespace Go.Lg.B
open Go Go.Conc Go.Lg Go.Proofs Go.Proofs.Tryz
theorem behind_mono{n m s:Int}(h:n≤m)(hs:0≤s∧s≤4):behind n s≤behind m s:=by
 have:s=0∨s=1∨s=2∨s=3∨s=4:=by omega
 unfold behind
 rcases this with rfl|rfl|rfl|rfl|rfl<;>omega
inductive LeL:List Int→List Int→Prop
 |nil:LeL [] []
 |cons {x y:Int} {a c:List Int}:x≤y→LeL a c→LeL (x::a) (y::c)
theorem LeL.getD{a c:List Int}(h:LeL a c):∀i,a.getD i 0≤c.getD i 0:=by
 induction h with
 |nil=>intro i;simp
 |cons h _ ih=>
  intro i
  cases i with
  |zero=>simpa using h
  |succ i=>simpa using ih i
theorem pullsGo_mono{b:Bk}(hb:b.good):∀ {g:List Int} {n m:Int},(∀x∈g,0≤x∧x<b.ps.length)→n≤m→LeL (pullsGo b n g) (pullsGo b m g)
 | [],_,_,_,_=> .nil
 |x::g,n,m,h,hn=>by
  have hx:=h x (by simp)
  have:=behind_mono hn (hb.sheaves hx.1 hx.2)
  exact .cons this (pullsGo_mono hb (fun z hz=>h z (by simp [hz])) this)
theorem pulls_mono{b:Bk}(hb:b.good){g n m:Int}(h0:0≤g)(h1:g<b.gs.length)(hn:n≤m):LeL (pulls b g n) (pulls b g m):= .cons hn (pullsGo_mono hb (hb.gear h0 h1).2.1 hn)
theorem gives_mem{b:Bk}{p:List Int}{g n x:Int}:x∈gives b p g n↔(∃i:Nat,i<(b.gear g).length∧nth p ((b.gear g).getD i 0)<(pulls b g n).getD i 0∧x=i)∨(b.w<(pulls b g n).getD (b.gear g).length 0∧x=(b.gear g).length):=by
 unfold gives
 rw [List.mem_append,List.mem_map]
 constructor
 ·rintro(⟨i,hi,rfl⟩|h)
  ·obtain⟨h1,h2⟩:=List.mem_filter.1 hi
   exact .inl ⟨i,List.mem_range.1 h1,by simpa [givesP] using h2,rfl⟩
  ·split at h
   ·rename_i h2;exact .inr ⟨h2,by simpa using h⟩
   ·cases h
 ·rintro(⟨i,h1,h2,rfl⟩|⟨h1,rfl⟩)
  ·exact .inl ⟨i,List.mem_filter.2 ⟨List.mem_range.2 h1,by simpa [givesP] using h2⟩,rfl⟩
  ·exact .inr (by rw [if_pos h1];simp)
theorem gives_sub{b:Bk}(hb:b.good){p:List Int}{g n m x:Int}(h0:0≤g)(h1:g<b.gs.length)(hn:n≤m)(h:x∈gives b p g n):x∈gives b p g m:=by
 have hm:=(pulls_mono hb h0 h1 hn).getD
 rw [gives_mem] at h⊢
 rcases h with⟨i,h2,h3,h4⟩|⟨h3,h4⟩
 ·exact .inl ⟨i,h2,by have:=hm i;omega,h4⟩
 ·exact .inr ⟨by have:=hm (b.gear g).length;omega,h4⟩
theorem gives_bd{b:Bk}{p:List Int}{g n x:Int}(h:x∈gives b p g n):0≤x∧x≤(b.gear g).length:=by
 rw [gives_mem] at h
 rcases h with⟨i,h2,_,rfl⟩|⟨_,rfl⟩<;>omega
theorem lifts_iff{b:Bk}{p:List Int}{g n:Int}(hn:n≠0):lifts b p g n=true↔gives b p g n= []:=by
 simp [lifts,hn]
theorem lifts_mono{b:Bk}(hb:b.good){p:List Int}{g n m:Int}(h0:0≤g)(h1:g<b.gs.length)(h00:0≤n)(hn:n≤m)(h:lifts b p g m=true):lifts b p g n=true:=by
 by_cases e:n=0
 ·subst e;rfl
 ·rw [lifts_iff (by omega)] at h
  rw [lifts_iff e,List.eq_nil_iff_forall_not_mem]
  intro x hx
  have:=gives_sub hb h0 h1 hn hx
  rw [h] at this;cases this
theorem numbers_mem{l:List Int}{x:Int}:x∈numbers l↔x∈l:=by
 have hs:(l.mergeSort fun x y=>decide (x≤y)).Pairwise (· ≤ ·):=by
  have:=List.pairwise_mergeSort (le:=fun x y:Int=>decide (x≤y)) (by intro a b c;simp;omega) (by intro a b;simp;omega) l
  exact this.imp (by intro a b;simp)
 have hf:=fold_asc _ [] .nil hs (by simp)
 show x∈List.foldl cstep [] _↔_
 rw [hf.2]
 simp [(List.mergeSort_perm l _).mem_iff]
theorem numbers_asc(l:List Int):(numbers l).Pairwise (· < ·):=by
 have hs:(l.mergeSort fun x y=>decide (x≤y)).Pairwise (· ≤ ·):=by
  have:=List.pairwise_mergeSort (le:=fun x y:Int=>decide (x≤y)) (by intro a b c;simp;omega) (by intro a b;simp;omega) l
  exact this.imp (by intro a b;simp)
 exact(fold_asc _ [] .nil hs (by simp)).1
def allLift(b:Bk)(g n:Int):Bool:=(cases b).all fun t=>lifts b t.1 g n
theorem allLift_mono{b:Bk}(hb:b.good){g n m:Int}(h0:0≤g)(h1:g<b.gs.length)(h00:0≤n)(hn:n≤m)(h:allLift b g m=true):allLift b g n=true:=by
 unfold allLift at h⊢
 rw [List.all_eq_true] at h⊢
 exact fun t ht=>lifts_mono hb h0 h1 h00 hn (h t ht)
theorem allLift_zero(b:Bk)(g:Int):allLift b g 0=true:=by
 unfold allLift;rw [List.all_eq_true];exact fun _ _=>rfl
theorem mostGo_law{b:Bk}(hb:b.good){g:Int}(h0:0≤g)(h1:g<b.gs.length):∀ (m:Nat) (n mo:Int),0≤n→(∀k,0≤k→k<n→allLift b g k=true)→mo<n→(0<n→mo=n-1)→
  (mostGo b g n m mo=mo∨(n≤mostGo b g n m mo∧mostGo b g n m mo<n+m))∧∀k,n≤k→k<n+m→(allLift b g k=true↔k≤mostGo b g n m mo)
 |0,n,mo,_,_,_,_=>⟨.inl rfl,fun k h1 h2=>by omega⟩
 |m+1,n,mo,hn,hl,hmo,hmo2=>by
  have e:mostGo b g n (m+1) mo=if allLift b g n=true then mostGo b g (n+1) m n else mo:=rfl
  rw [e]
  by_cases hA:allLift b g n=true
  ·rw [if_pos hA]
   obtain⟨h3,h4⟩:=mostGo_law hb h0 h1 m (n+1) n (by omega) (fun k hk hk2=>by
    by_cases e2:k=n
    ·rw [e2];exact hA
    ·exact hl k hk (by omega)) (by omega) (fun _=>by omega)
   refine⟨.inr ?_,fun k hk hk2=>?_⟩
   ·rcases h3 with h3|h3<;>omega
   ·by_cases e2:k=n
    ·subst e2
     refine⟨fun _=>?_,fun _=>hA⟩
     rcases h3 with h3|h3<;>omega
    ·exact h4 k (by omega) (by omega)
  ·rw [if_neg hA]
   refine⟨.inl rfl,fun k hk _=>⟨fun h=>?_,fun h=>by omega⟩⟩
   exact absurd (allLift_mono hb h0 h1 hn hk h) hA
theorem most_law{b:Bk}(hb:b.good){g:Int}(h0:0≤g)(h1:g<b.gs.length):0≤most b g∧most b g≤99∧∀k,0≤k→k≤99→(allLift b g k=true↔k≤most b g):=by
 have e:most b g=if allLift b g 0=true then mostGo b g 1 99 0 else 0:=rfl
 rw [e,if_pos (allLift_zero b g)]
 obtain⟨h3,h4⟩:=mostGo_law hb h0 h1 99 1 0 (by omega) (fun k hk hk2=>(show 0=k by omega)▸allLift_zero b g) (by omega) (fun _=>by omega)
 refine⟨by rcases h3 with h3|h3<;>omega,by rcases h3 with h3|h3<;>omega,fun k hk hk2=>?_⟩
 by_cases e2:k=0
 ·subst e2
  exact⟨fun _=>by rcases h3 with h3|h3<;>omega,fun _=>allLift_zero b g⟩
 ·exact h4 k (by omega) (by omega)
theorem weak_mem{b:Bk}{g n x:Int}:x∈weak b g n↔ ∃t∈cases b,x∈gives b t.1 g n:=by
 rw [weak,numbers_mem,List.mem_flatMap]
theorem weak_bd{b:Bk}{g n:Int}:∀x∈weak b g n,0≤x∧x≤(b.gear g).length:=fun x hx=>by
 obtain⟨t,_,h⟩:=weak_mem.1 hx
 exact gives_bd h
theorem how_one{n all:Nat}(h:0<all):how n all=1↔n=all:=by
 unfold how
 split
 ·constructor
  ·intro h2;cases h2
  ·intro h2;omega
 ·split
  ·simp_all
  ·constructor
   ·intro h2;cases h2
   ·intro h2;contradiction
theorem filter_all{α:Type}{p:α→Bool}{l:List α}:(l.filter p).length=l.length↔l.all p=true:=by
 rw [List.length_filter_eq_length_iff,List.all_eq_true]
theorem open_nine{b:Bk}(h:checkBook b=0)(hL:cases b= []):openH b 0=9:=by rw [openH_zero,if_neg (fun e=>e h),if_pos hL]
theorem open_zero{b:Bk}(h:checkBook b=0)(hL:cases b≠ []):openH b 0=0:=by rw [openH_zero,if_neg (fun e=>e h),if_neg hL]
theorem mostH_eq{b:Bk}{g:Int}(h:there g b.gs.length=0):mostH b g=openH b 0:=by simp [mostH,firstH,h]
theorem weakH_eq{b:Bk}{g l:Int}(h:there g b.gs.length=0)(h2:loadH l=0):weakH b g l=openH b 0:=by simp [weakH,firstH,h,h2]
theorem mayH_eq{b:Bk}{g k:Int}(h:there g b.gs.length=0)(h2:there k b.cs.length=0):mayH b g k=openH b 0:=by simp [mayH,firstH,h,h2]
theorem loadOf_bd{x:Int}:1≤loadOf x∧loadOf x≤99:=by unfold loadOf;omega
theorem weak_len{b:Bk}(hb:b.good){g n:Int}(h0:0≤g)(h1:g<b.gs.length):(weak b g n).length≤5:=by
 have hl:=hb.gearLen h0 h1
 exact nodup_len (m:=5) ((numbers_asc _).imp fun h=>by omega) fun x hx=>by have:=weak_bd x hx;omega
theorem smaller_iff{a c:List Int}:smaller a c=true↔a.length<c.length∨a.length=c.length∧cmpL a c<0:=by simp [smaller]
theorem cmpL_trans:∀ {a c e:List Int},cmpL a c<0→cmpL c e<0→cmpL a e<0
 | [], [],_,h,_=>by simp [cmpL] at h
 | [],_::_, [],_,h=>by simp [cmpL] at h
 | [],_::_,_::_,_,_=>by simp [cmpL]
 |_::_, [],_,h,_=>by simp [cmpL] at h
 |_::_,_::_, [],_,h=>by simp [cmpL] at h
 |x::xs,y::ys,z::zs,h1,h2=>by
  simp only [cmpL] at h1 h2⊢
  by_cases e1:cmpI x y=0
  ·rw [if_neg (by simp [e1])] at h1
   have:=cmpI_zero.1 e1
   subst this
   by_cases e2:cmpI x z=0
   ·rw [if_neg (by simp [e2])] at h2⊢
    exact cmpL_trans h1 h2
   ·rw [if_pos e2] at h2⊢;exact h2
  ·rw [if_pos e1] at h1
   have h3:=cmpI_neg.1 h1
   by_cases e2:cmpI y z=0
   ·have:=cmpI_zero.1 e2
    subst this
    rw [if_pos e1];exact h1
   ·rw [if_pos e2] at h2
    have h4:=cmpI_neg.1 h2
    have h5:cmpI x z<0:=cmpI_neg.2 (by omega)
    rw [if_pos (by omega)];exact h5
theorem smaller_trans{a c e:List Int}(h1:smaller a c=true)(h2:smaller c e=true):smaller a e=true:=by
 rw [smaller_iff] at*
 rcases h1 with h1|⟨h1,h1'⟩
 ·rcases h2 with h2|⟨h2,_⟩<;>exact .inl (by omega)
 ·rcases h2 with h2|⟨h2,h2'⟩
  ·exact .inl (by omega)
  ·exact .inr ⟨by omega,cmpL_trans h1' h2'⟩
theorem smaller_irr(a:List Int):¬smaller a a=true:=by rw [smaller_iff,cmpL_refl];omega
theorem smaller_total{a c:List Int}(h1:¬smaller a c=true)(h2:¬smaller c a=true):a=c:=by
 rw [smaller_iff] at*
 have h3:=cmpL_flip a c
 refine cmpL_zero ?_
 have e1:a.length=c.length:=by omega
 have e2:¬cmpL a c<0:=fun h=>h1 (.inr ⟨e1,h⟩)
 have e3:¬cmpL c a<0:=fun h=>h2 (.inr ⟨e1.symm,h⟩)
 omega
theorem offer_least:∀ (l:List (List Int)) (o:List Int),∃y,l.foldl offer (some o)=some y∧(y=o∨y∈l)∧(∀x,x=o∨x∈l→¬smaller x y=true)
 | [],o=>⟨o,rfl, .inl rfl,fun x hx=>by
  rcases hx with rfl|hx
  ·exact smaller_irr _
  ·cases hx⟩
 |x::l,o=>by
  rw [List.foldl_cons,offer]
  by_cases h:smaller x o=true
  ·rw [if_pos h]
   obtain⟨y,h1,h2,h3⟩:=offer_least l x
   refine⟨y,h1, ?_,fun z hz=>?_⟩
   ·rcases h2 with rfl|h2
    ·exact .inr (by simp)
    ·exact .inr (by simp [h2])
   ·rcases hz with rfl|hz
    ·exact fun hz=>h3 x (.inl rfl) (smaller_trans h hz)
    ·rcases List.mem_cons.1 hz with rfl|hz
     ·exact h3 _ (.inl rfl)
     ·exact h3 z (.inr hz)
  ·rw [if_neg h]
   obtain⟨y,h1,h2,h3⟩:=offer_least l o
   refine⟨y,h1, ?_,fun z hz=>?_⟩
   ·rcases h2 with rfl|h2
    ·exact .inl rfl
    ·exact .inr (by simp [h2])
   ·rcases hz with rfl|hz
    ·exact h3 _ (.inl rfl)
    ·rcases List.mem_cons.1 hz with rfl|hz
     ·intro hz
      have h4:=h3 o (.inl rfl)
      by_cases h5:smaller o z=true
      ·exact h4 (smaller_trans h5 hz)
      ·rw [smaller_total h h5] at hz
       exact h4 hz
     ·exact h3 z (.inr hz)
theorem fewestOf_none{n:Nat}{is:Nat→Bool}(h:∀m,m<2^n→is m=false):fewestOf n is=none:=by
 have:(List.range (2^n)).filter is= []:=by
  rw [List.filter_eq_nil_iff]
  intro m hm
  rw [h m (List.mem_range.1 hm)];simp
 rw [fewestOf,this];rfl
theorem fewestOf_some{n:Nat}{is:Nat→Bool}{m:Nat}(hm:m<2^n)(h:is m=true):∃y,fewestOf n is=some y∧(∃m',m'<2^n∧is m'=true∧y=listOf n m')∧∀m',m'<2^n→is m'=true→¬smaller (listOf n m') y=true:=by
 have hmem:m∈(List.range (2^n)).filter is:=List.mem_filter.2 ⟨List.mem_range.2 hm,h⟩
 have hall:∀m',m'∈(List.range (2^n)).filter is↔m'<2^n∧is m'=true:=fun m'=>by rw [List.mem_filter,List.mem_range]
 unfold fewestOf
 generalize(List.range (2^n)).filter is=L at hmem hall
 cases L with
 |nil=>cases hmem
 |cons k L=>
  obtain⟨y,h1,h2,h3⟩:=offer_least (L.map (listOf n)) (listOf n k)
  refine⟨y,by simpa [offer] using h1, ?_,fun m' hm' his=>?_⟩
  ·rcases h2 with rfl|h2
   ·have:=(hall k).1 (by simp)
    exact⟨k,this.1,this.2,rfl⟩
   ·obtain⟨m',hm',rfl⟩:=List.mem_map.1 h2
    have:=(hall m').1 (by simp [hm'])
    exact⟨m',this.1,this.2,rfl⟩
  ·have:=(hall m').2 ⟨hm',his⟩
   rcases List.mem_cons.1 this with rfl|this
   ·exact h3 _ (.inl rfl)
   ·exact h3 _ (.inr (List.mem_map_of_mem this))
theorem renew_zero(p:List Int):renew 0 p=p:=by
 have:∀ (l:List Int) (i:Nat),renewGo 0 i l=l:=fun l=>by
  induction l with
  |nil=>exact fun _=>rfl
  |cons x l ih=>exact fun i=>by simp [renewGo,ih]
 exact this p 0
theorem rz_asc:∀ (m:Nat) (n:Int),(rz n m).Pairwise (· < ·)
 |0,_=> .nil
 |m+1,n=>List.pairwise_cons.2 ⟨fun x hx=>by have:=mem_rz.1 hx;omega,rz_asc m (n+1)⟩
section
variable {main:Bool}{J:Goroutine→Mem→Prop}(hJ:Closed prog main J)
include hJ
end
end Go.Lg.B
namespace Go.Lg.B
open Go Go.Conc Go.Lg Go.Proofs Go.Proofs.Tryz
theorem lifts_ts{b:Bk}{l:List Ts}(p:List Int)(g n:Int):lifts {b with ts:=l} p g n=lifts b p g n:=by
 have e:∀x y,pullsGo {b with ts:=l} x y=pullsGo b x y:=fun x y=>by
  induction y generalizing x with
  |nil=>rfl
  |cons z y ih=>rw [pullsGo,pullsGo,ih];rfl
 unfold lifts gives pulls
 rw [e];rfl
theorem right_ts{b:Bk}{l:List Ts}(p:List Int):right {b with ts:=l} p=l.all fun t=>lifts b p t.g t.l==t.held:=by
 unfold right
 simp only [lifts_ts]
theorem bearsL_tried(b:Bk)(t:Ts):bearsL (b.tried t)=(bearsL b).filter fun p=>lifts b p t.g t.l==t.held:=by
 unfold bearsL
 rw [List.filter_filter]
 refine List.filter_congr fun p _=>?_
 have:right (b.tried t) p=(b.ts++ [t]).all fun t=>lifts b p t.g t.l==t.held:=right_ts (l:=b.ts++ [t]) p
 rw [this,List.all_append]
 unfold right
 simp [Bool.and_comm]
theorem cases_tried(b:Bk)(t:Ts):cases (b.tried t)=(cases b).filter fun x=>lifts b x.1 t.g t.l==t.held:=by
 unfold cases
 rw [bearsL_tried,List.filter_flatMap]
 have e:weightsL (b.tried t)=weightsL b:=rfl
 rw [e]
 generalize bearsL b=L
 induction L with
 |nil=>rfl
 |cons p L ih=>
  rw [List.flatMap_cons, ←ih,List.filter_cons]
  by_cases h:(lifts b p t.g t.l==t.held)=true
  ·rw [if_pos h,List.flatMap_cons]
   congr 1
   rw [List.filter_eq_self.2]
   intro x hx
   obtain⟨w,_,rfl⟩:=List.mem_map.1 hx
   exact h
  ·rw [if_neg h]
   have:(((weightsL b).map fun w=>(p,w)).filter fun x=>lifts b x.1 t.g t.l==t.held)= []:=by
    rw [List.filter_eq_nil_iff]
    intro x hx
    obtain⟨w,_,rfl⟩:=List.mem_map.1 hx
    exact h
   rw [this];rfl
theorem pullsGo_alike{b c:Bk}(h:∀x,b.sheaves x=c.sheaves x):∀ (q:List Int) (n:Int),pullsGo b n q=pullsGo c n q
 | [],_=>rfl
 |x::q,n=>by rw [pullsGo,pullsGo,h,pullsGo_alike h q]
theorem gives_alike{b c:Bk}(hw:b.w=c.w)(hg:b.gs=c.gs)(h:∀x,b.sheaves x=c.sheaves x)(p:List Int)(g n:Int):gives b p g n=gives c p g n:=by
 have e:∀g,b.gear g=c.gear g:=fun g=>by unfold Bk.gear;rw [hg]
 unfold gives pulls
 rw [hw,e,pullsGo_alike h]
theorem lifts_alike{b c:Bk}(hw:b.w=c.w)(hg:b.gs=c.gs)(h:∀x,b.sheaves x=c.sheaves x)(p:List Int)(g n:Int):lifts b p g n=lifts c p g n:=by
 unfold lifts;rw [gives_alike hw hg h]
theorem parts_borne:∀ {l:List Pt} {before:List (List UInt8)} {i:Nat} {r:Rc},isNarrow r 0=true→partsGo before l=0→partsGo before (l.modify i fun p=>{p with r:=r})=0
 | [],_,i,_,_,_=>by simp [partsGo]
 |x::l,before,i,r,hr,h=>by
  simp only [partsGo] at h
  obtain⟨h1,h⟩:=ite_same h
  obtain⟨h2,h⟩:=ite_zero (by decide) h
  simp only [Bool.or_eq_true,Bool.not_eq_true',not_or,Bool.not_eq_false] at h2
  cases i with
  |zero=>
   rw [List.modify_zero_cons]
   simp only [partsGo]
   rw [if_neg (by simp [h1]),if_neg (by simp [h2.1,hr])]
   exact h
  |succ i=>
   rw [List.modify_succ_cons]
   simp only [partsGo]
   rw [if_neg (by simp [h1]),if_neg (by simp [h2.1,h2.2])]
   exact parts_borne hr h
theorem pieces_weighed:∀ {l:List Pc} {before:List (List UInt8)} {i:Nat} {r:Rc},isNarrow r 1=true→piecesGo before l=0→piecesGo before (l.modify i fun p=>{p with r:=r})=0
 | [],_,i,_,_,_=>by simp [piecesGo]
 |x::l,before,i,r,hr,h=>by
  simp only [piecesGo] at h
  obtain⟨h1,h⟩:=ite_same h
  obtain⟨h2,h⟩:=ite_zero (by decide) h
  simp only [Bool.not_eq_true',Bool.not_eq_false] at h2
  cases i with
  |zero=>
   rw [List.modify_zero_cons]
   simp only [piecesGo]
   rw [if_neg (by simp [h1]),if_neg (by simp [hr])]
   exact h
  |succ i=>
   rw [List.modify_succ_cons]
   simp only [piecesGo]
   rw [if_neg (by simp [h1]),if_neg (by simp [h2])]
   exact pieces_weighed hr h
theorem check_borne{b:Bk}(hch:checkBook b=0)(i:Nat){r:Rc}(hr:isNarrow r 0=true):checkBook (b.borne i r)=0:=by
 obtain⟨w,p,g,c,t⟩:=check_parts hch
 have hlen:(b.borne i r).ps.length=b.ps.length:=List.length_modify ..
 have hp:(b.borne i r).partsH=0:=by
  unfold Bk.partsH at p⊢
  obtain⟨p1,p2⟩:=ite_zero (by decide) p
  rw [hlen,if_neg p1]
  exact parts_borne hr p2
 have hg:(b.borne i r).gearsH=0:=by
  unfold Bk.gearsH at g⊢
  rw [hlen];exact g
 have hw:(b.borne i r).winchH=0:=w
 have hc:(b.borne i r).piecesH=0:=c
 have ht:(b.borne i r).testsH=0:=t
 unfold checkBook
 rw [hw,hp,hg,hc,ht];rfl
theorem check_weighed{b:Bk}(hch:checkBook b=0)(i:Nat){r:Rc}(hr:isNarrow r 1=true):checkBook (b.weighed i r)=0:=by
 obtain⟨w,p,g,c,t⟩:=check_parts hch
 have hlen:(b.weighed i r).cs.length=b.cs.length:=List.length_modify ..
 have hc:(b.weighed i r).piecesH=0:=by
  unfold Bk.piecesH at c⊢
  obtain⟨p1,p2⟩:=ite_zero (by decide) c
  rw [hlen,if_neg p1]
  exact pieces_weighed hr p2
 have hg:(b.weighed i r).gearsH=0:=g
 have hw:(b.weighed i r).winchH=0:=w
 have hp:(b.weighed i r).partsH=0:=p
 have ht:(b.weighed i r).testsH=0:=t
 unfold checkBook
 rw [hw,hp,hg,hc,ht];rfl
theorem borne_sheaves(b:Bk)(i:Nat)(r:Rc)(x:Int):(b.borne i r).sheaves x=b.sheaves x:=by
 unfold Bk.sheaves Bk.borne
 simp only [List.getD_eq_getElem?_getD,List.getElem?_modify]
 cases b.ps[x.toNat]? with
 |none=>rfl
 |some q=>by_cases e:i=x.toNat<;>simp [e]
structure RenOk(b c:Bk)(l:List Int):Prop where
 w:c.w=b.w
 gs:c.gs=b.gs
 cs:c.cs=b.cs
 ts:c.ts=b.ts
 np:c.ps.length=b.ps.length
 sh:∀x,c.sheaves x=b.sheaves x
 ps:∀i:Nat,c.ps[i]? =b.ps[i]?.map fun p=>if(i:Int)∈l then {p with r:=⟨99,99⟩ } else p
 ch:checkBook b=0→checkBook c=0
theorem may_all{b:Bk}(hne:cases b≠ []){g p:Nat}:may b g p=1↔((cases b).all fun t=>lifts b t.1 g (nth t.2 p))=true:=by
 rw [may,how_one (List.length_pos_iff.2 hne),filter_all]
def shOk(ng:Nat)(s:Nat→Nat→Bool):List Int→List Int→Bool
 |_, []=>true
 |gs,g::z=>between g 0 ((ng:Int) -1) && (!decide (g∈gs) && (s g.toNat gs.length && shOk ng s (gs++ [g]) z))
theorem range_first{α:Type}(f:Nat→Option α):∀n:Nat,(∀j,j<n→f j=none)∨∃g,g<n∧(∀j,j<g→f j=none)∧∃x,f g=some x
 |0=> .inl fun j h=>by omega
 |n+1=>by
  rcases range_first f n with h|⟨g,h1,h2⟩
  ·cases e:f n with
   |none=>
    refine .inl fun j hj=>?_
    by_cases e2:j=n
    ·rw [e2];exact e
    ·exact h j (by omega)
   |some x=>exact .inr ⟨n,by omega,h,x,e⟩
  ·exact .inr ⟨g,by omega,h2⟩
theorem share_law(ng:Nat)(s:Nat→Nat→Bool):∀ (r:Nat) (gs:List Int),
  (shareGo ng s r gs=none∧∀z:List Int,z.length=r→shOk ng s gs z=false)∨
  ∃z,shareGo ng s r gs=some (gs++z)∧z.length=r∧shOk ng s gs z=true∧∀z':List Int,z'.length=r→shOk ng s gs z'=true→¬cmpL z' z<0
 |0,gs=> .inr ⟨[],by simp [shareGo],rfl,rfl,fun z' hz _=>by
   rw [List.length_eq_zero_iff] at hz;subst hz;simp [cmpL]⟩
 |r+1,gs=>by
  have ih:=share_law ng s r
  have inv:∀ (g:Int) (z:List Int),shOk ng s gs (g::z)=true→∃j:Nat,g=j∧j<ng∧(j:Int)∉gs∧s j gs.length=true∧shOk ng s (gs++ [g]) z=true:=fun g z h=>by
   simp only [shOk,Bool.and_eq_true,between_iff,Bool.not_eq_true',decide_eq_false_iff_not] at h
   obtain⟨j,rfl⟩:=Int.eq_ofNat_of_zero_le h.1.1
   exact⟨j,rfl,by omega,h.2.1,by simpa using h.2.2.1,h.2.2.2⟩
  have e:shareGo ng s (r+1) gs=(List.range ng).findSome? fun g=>if s g gs.length && !decide ((g:Int)∈gs) then shareGo ng s r (gs++ [(g:Int)]) else none:=rfl
  rw [e]
  generalize hf:(fun g:Nat=>if s g gs.length && !decide ((g:Int)∈gs) then shareGo ng s r (gs++ [(g:Int)]) else none)=f
  have hfe:∀g:Nat,s g gs.length=true→(g:Int)∉gs→f g=shareGo ng s r (gs++ [(g:Int)]):=fun g h1 h2=>by rw [←hf];simp [h1,h2]
  rcases range_first f ng with h|⟨g,h1,h2,x,h3⟩
  ·refine .inl ⟨findSome_miss h,fun z hz=>?_⟩
   cases z with
   |nil=>simp at hz
   |cons g z=>
    cases hs:shOk ng s gs (g::z) with
    |false=>rfl
    |true=>
     obtain⟨j,rfl,h4,h5,h6,h7⟩:=inv g z hs
     have h8:=h j h4
     rw [hfe j h6 h5] at h8
     rcases ih (gs++ [(j:Int)]) with⟨_,k2⟩|⟨z',k1,_⟩
     ·have:=k2 z (by simpa using hz)
      rw [h7] at this;cases this
     ·rw [k1] at h8;cases h8
  ·have hg:s g gs.length=true∧(g:Int)∉gs:=by
    rw [←hf] at h3
    simp only at h3
    split at h3
    ·rename_i h4;simpa using h4
    ·cases h3
   rw [findSome_hit h1 h2 h3]
   rw [hfe g hg.1 hg.2] at h3
   rcases ih (gs++ [(g:Int)]) with⟨k1,_⟩|⟨z,k1,k2,k3,k4⟩
   ·rw [k1] at h3;cases h3
   ·rw [k1] at h3
    have hx:=Option.some.inj h3
    refine .inr ⟨(g:Int)::z,by rw [←hx];simp,by simp [k2], ?_,fun z' hz hs=>?_⟩
    ·simp only [shOk,Bool.and_eq_true,between_iff,Bool.not_eq_true',decide_eq_false_iff_not,Int.toNat_natCast]
     exact⟨by omega,hg.2,hg.1,k3⟩
    ·cases z' with
     |nil=>simp at hz
     |cons g' z'=>
      obtain⟨j,rfl,h4,h5,h6,h7⟩:=inv g' z' hs
      by_cases hlt:j<g
      ·have h8:=h2 j hlt
       rw [hfe j h6 h5] at h8
       rcases ih (gs++ [(j:Int)]) with⟨_,q2⟩|⟨z2,q1,_⟩
       ·have:=q2 z' (by simpa using hz)
        rw [h7] at this;cases this
       ·rw [q1] at h8;cases h8
      ·rw [cmpL]
       by_cases heq:j=g
       ·subst heq
        rw [if_neg (by simp [cmpI])]
        exact k4 z' (by simpa using hz) h7
       ·have:cmpI (j:Int) g=1:=by unfold cmpI;rw [if_neg (by omega),if_pos (by omega)]
        rw [this,if_pos (by decide)];decide
theorem shOk_cong{ng:Nat}{s s':Nat→Nat→Bool}{nc:Nat}(h:∀g p,g<ng→p<nc→s g p=s' g p):∀ (z gs:List Int),gs.length+z.length≤nc→shOk ng s gs z=shOk ng s' gs z
 | [],_,_=>rfl
 |g::z,gs,hn=>by
  rw [List.length_cons] at hn
  simp only [shOk]
  by_cases hb:between g 0 ((ng:Int) -1)=true
  ·have hb':=between_iff.1 hb
   rw [h g.toNat gs.length (by omega) (by omega),shOk_cong h z (gs++ [g]) (by simp;omega)]
  ·simp only [Bool.not_eq_true] at hb
   rw [hb];rfl
def mayS(b:Bk)(g p:Nat):Bool:=may b g p==1
theorem sureM_may{b:Bk}(hne:cases b≠ []){g p:Nat}(hg:g<b.gs.length)(hp:p<b.cs.length):sureM b 0 g p=mayS b g p:=by
 have e:sure b 0 g p=decide (may b g p=1):=by
  rw [Bool.eq_iff_iff,decide_eq_true_eq,may_all hne]
  have:(fun t:Tn=>lifts b (renew 0 (pad 4 t.1)) g (nth t.2 p))=fun t=>lifts b t.1 g (nth t.2 p):=by
   funext t;rw [renew_zero,lifts_pad]
  rw [sure,this]
 unfold sureM mayS
 rw [e]
 simp only [hg,hp,decide_true,Bool.true_and]
 rw [Bool.eq_iff_iff];simp
theorem shareR_law{b:Bk}(hch:checkBook b=0)(hne:cases b≠ []):
  ((shareR b)=(none,0)∧∀z:List Int,z.length=b.cs.length→shOk b.gs.length (mayS b) [] z=false)∨
  ∃z,shareR b=(some z,0)∧z.length=b.cs.length∧shOk b.gs.length (mayS b) [] z=true∧∀z':List Int,z'.length=b.cs.length→shOk b.gs.length (mayS b) [] z'=true→¬cmpL z' z<0:=by
 have hop:=open_zero hch hne
 have hcg:∀z:List Int,z.length=b.cs.length→shOk b.gs.length (sureM b 0) [] z=shOk b.gs.length (mayS b) [] z:=fun z hz=>shOk_cong (nc:=b.cs.length) (fun g p hg hp=>sureM_may hne hg hp) z [] (by simp [hz])
 have e:shareR b=(shareGo b.gs.length (sureM b 0) b.cs.length [],0):=by rw [shareR,hop];rfl
 rw [e]
 rcases share_law b.gs.length (sureM b 0) b.cs.length [] with⟨h1,h2⟩|⟨z,h1,h2,h3,h4⟩
 ·exact .inl ⟨by rw [h1],fun z hz=>by rw [←hcg z hz];exact h2 z hz⟩
 ·exact .inr ⟨z,by rw [h1];rfl,h2,by rw [←hcg z h2];exact h3,fun z' hz hs=>h4 z' hz (by rw [hcg z' hz];exact hs)⟩
theorem nums_meet(r y:Rc):(r.meet y).nums=r.nums.filter fun x=>between x y.lo y.hi:=by
 refine asc_unique (rz_asc _ _) ((rz_asc _ _).filter _) fun x=>?_
 show x∈(r.meet y).nums↔x∈r.nums.filter _
 rw [mem_nums,List.mem_filter,mem_nums,between_iff]
 simp only [Rc.meet]
 omega
theorem flatMap_cond{α β:Type}{f:α→List β}{q:α→Bool}{p:β→Bool}:∀L:List α,(∀n∈L,∀l∈f n,p l=q n)→(L.filter q).flatMap f=(L.flatMap f).filter p
 | [],_=>rfl
 |n::L,h=>by
  have ih:=flatMap_cond L fun m hm=>h m (by simp [hm])
  rw [List.flatMap_cons,List.filter_append, ←ih,List.filter_cons]
  by_cases e:q n=true
  ·have e1:(f n).filter p=f n:=List.filter_eq_self.2 fun l hl=>by rw [h n (by simp) l hl,e]
   rw [if_pos e,List.flatMap_cons,e1]
  ·have e1:(f n).filter p= []:=List.filter_eq_nil_iff.2 fun l hl=>by rw [h n (by simp) l hl];exact e
   rw [if_neg e,e1,List.nil_append]
theorem spread_meet:∀ (rs:List Rc) (i:Nat) (y:Rc),i<rs.length→spread (rs.modify i fun r=>r.meet y)=(spread rs).filter fun l=>between (nth l i) y.lo y.hi
 | [],_,_,h=>by simp at h
 |r::rs,0,y,_=>by
  rw [List.modify_zero_cons]
  simp only [spread]
  rw [nums_meet]
  refine flatMap_cond _ fun n _ l hl=>?_
  obtain⟨k,_,rfl⟩:=List.mem_map.1 hl
  rfl
 |r::rs,i+1,y,h=>by
  rw [List.modify_succ_cons]
  simp only [spread]
  rw [List.filter_flatMap,spread_meet rs i y (by simpa using h)]
  congr 1
  funext n
  rw [List.filter_map]
  rfl
theorem cases_part{b c:Bk}{p:List Int→Bool}(h1:bearsL c=(bearsL b).filter p)(h2:weightsL c=weightsL b):cases c=(cases b).filter fun t=>p t.1:=by
 unfold cases
 rw [h1,h2]
 refine flatMap_cond _ fun n _ l hl=>?_
 obtain⟨k,_,rfl⟩:=List.mem_map.1 hl
 rfl
theorem cases_piece{b c:Bk}{p:List Int→Bool}(h1:bearsL c=bearsL b)(h2:weightsL c=(weightsL b).filter p):cases c=(cases b).filter fun t=>p t.2:=by
 unfold cases
 rw [h1,h2,List.filter_flatMap]
 congr 1
 funext n
 rw [List.filter_map]
 rfl
theorem borne_rs{b:Bk}{i:Int}(h0:0≤i)(h1:i<b.ps.length)(y:Rc):(b.borne i.toNat ((b.part i).r.meet y)).ps.map Pt.r=(b.ps.map Pt.r).modify i.toNat fun r=>r.meet y:=by
 have hk:i.toNat<b.ps.length:=by omega
 have hp:b.part i=b.ps[i.toNat]:=by simp [Bk.part,List.getD_eq_getElem?_getD,hk]
 refine List.ext_getElem? fun j=>?_
 unfold Bk.borne
 simp only [List.getElem?_map,List.getElem?_modify]
 by_cases e:i.toNat=j
 ·subst e
  rw [List.getElem?_eq_getElem hk,hp];simp
 ·cases b.ps[j]? <;>simp [e]
theorem weighed_rs{b:Bk}{i:Int}(h0:0≤i)(h1:i<b.cs.length)(y:Rc):(b.weighed i.toNat ((b.piece i).r.meet y)).cs.map Pc.r=(b.cs.map Pc.r).modify i.toNat fun r=>r.meet y:=by
 have hk:i.toNat<b.cs.length:=by omega
 have hp:b.piece i=b.cs[i.toNat]:=by simp [Bk.piece,List.getD_eq_getElem?_getD,hk]
 refine List.ext_getElem? fun j=>?_
 unfold Bk.weighed
 simp only [List.getElem?_map,List.getElem?_modify]
 by_cases e:i.toNat=j
 ·subst e
  rw [List.getElem?_eq_getElem hk,hp];simp
 ·cases b.cs[j]? <;>simp [e]
theorem right_alike{b c:Bk}(hw:b.w=c.w)(hg:b.gs=c.gs)(ht:b.ts=c.ts)(h:∀x,b.sheaves x=c.sheaves x)(p:List Int):right b p=right c p:=by
 unfold right
 rw [ht]
 congr 1
 funext t
 rw [lifts_alike hw hg h]
theorem cases_borne{b:Bk}{i:Int}(h0:0≤i)(h1:i<b.ps.length)(y:Rc):cases (b.borne i.toNat ((b.part i).r.meet y))=(cases b).filter fun t=>between (nth t.1 i) y.lo y.hi:=by
 refine cases_part (p:=fun l=>between (nth l i) y.lo y.hi) ?_ U
 unfold bearsL
 rw [borne_rs h0 h1,spread_meet _ _ _ (by rw [List.length_map];omega),List.filter_filter,List.filter_filter]
 refine List.filter_congr fun p _=>?_
 rw [right_alike (b:=b.borne i.toNat ((b.part i).r.meet y)) (c:=b) rfl rfl rfl (borne_sheaves b _ _),show((i.toNat:Nat):Int)=i by omega,Bool.and_comm]
theorem cases_weighed{b:Bk}{i:Int}(h0:0≤i)(h1:i<b.cs.length)(y:Rc):cases (b.weighed i.toNat ((b.piece i).r.meet y))=(cases b).filter fun t=>between (nth t.2 i) y.lo y.hi:=by
 refine cases_piece (p:=fun l=>between (nth l i) y.lo y.hi) ?_ ?_
 ·unfold bearsL
  congr 1
  funext p
  exact right_alike (b:=b.weighed i.toNat ((b.piece i).r.meet y)) (c:=b) rfl rfl rfl (fun _=>rfl) p
 unfold weightsL
 rw [weighed_rs h0 h1,spread_meet _ _ _ (by rw [List.length_map];omega),show((i.toNat:Nat):Int)=i by omega]
theorem bearsOf_mem{b:Bk}{i x:Int}:x∈bearsOf b i↔ ∃t∈cases b,nth t.1 i=x:=by rw [bearsOf,numbers_mem,List.mem_map]
theorem bears_in{b:Bk}{i:Int}(h0:0≤i)(h1:i<b.ps.length){p:List Int}(hp:p∈bearsL b):(b.part i).r.lo≤nth p i∧nth p i≤(b.part i).r.hi:=by
 have hk:i.toNat<b.ps.length:=by omega
 have hpk:b.part i=b.ps[i.toNat]:=by simp [Bk.part,List.getD_eq_getElem?_getD,hk]
 obtain⟨_,h⟩:=mem_spread.1 (mem_of_filter hp)
 obtain⟨x,hx,h3⟩:=h i.toNat (b.ps[i.toNat]).r (by simp [hk])
 rw [hpk]
 simpa [nth,List.getD_eq_getElem?_getD,hx] using h3
theorem asc_len{lo:Int}{m:Nat}{l:List Int}(ha:l.Pairwise (· < ·))(h:∀x∈l,lo≤x∧x<lo+m):l.length≤m:=by
 have h1:(l.map fun x=>x-lo).Nodup:=by
  refine List.pairwise_map.2 (ha.imp fun h=>?_)
  omega
 have:=nodup_len (m:=m) h1 fun n hn=>by
  obtain⟨x,hx,rfl⟩:=List.mem_map.1 hn
  have:=h x hx;omega
 simpa using this
structure NoLess(b c:Bk):Prop where
 gs:c.gs.length=b.gs.length
 cs:c.cs.length=b.cs.length
 ps:c.ps.length=b.ps.length
 sure:∀m g p:Nat,g<b.gs.length→p<b.cs.length→sure b m g p=true→sure c m g p=true
 most:∀g:Int,0≤g→g<b.gs.length→most b g≤most c g
 weak:∀g n:Int,0≤g→g<b.gs.length→∀x∈weak c g n,x∈weak b g n
theorem NoLess.sureM{b c:Bk}(h:NoLess b c)(m g p:Nat)(hs:sureM b m g p=true):sureM c m g p=true:=by
 simp only [Go.Lg.B.sureM,Bool.and_eq_true,decide_eq_true_eq] at hs⊢
 rw [h.gs,h.cs]
 exact⟨hs.1,hs.2.1,h.sure _ _ _ hs.1 hs.2.1 hs.2.2⟩
theorem NoLess.lifted{b c:Bk}(h:NoLess b c){m x:Nat}(hl:Go.Lg.B.lifted b (Go.Lg.B.sureM b m) x=true):Go.Lg.B.lifted c (Go.Lg.B.sureM c m) x=true:=by
 unfold Go.Lg.B.lifted at hl⊢
 rw [h.cs,h.gs]
 rw [List.all_eq_true] at hl⊢
 intro p hp
 have:=hl p hp
 rw [List.any_eq_true] at this⊢
 obtain⟨g,h1,h2⟩:=this
 rw [Bool.and_eq_true] at h2
 exact⟨g,h1,by rw [Bool.and_eq_true];exact⟨h2.1,h.sureM _ _ _ h2.2⟩⟩
theorem fewer{n:Nat}{is is':Nat→Bool}(h:∀m,is m=true→is' m=true){p:List Int}(hp:fewestOf n is=some p):∃q,fewestOf n is'=some q∧q.length≤p.length:=by
 by_cases hq:∃m,m<2^n∧is m=true
 ·obtain⟨m,h1,h2⟩:=hq
  obtain⟨y,h3,⟨m',h4,h5,rfl⟩,_⟩:=fewestOf_some h1 h2
  rw [h3] at hp
  obtain rfl:=Option.some.inj hp
  obtain⟨q,q1,_,q3⟩:=fewestOf_some h4 (h _ h5)
  refine⟨q,q1, ?_⟩
  have:=q3 m' h4 (h _ h5)
  rw [smaller_iff] at this
  omega
 ·rw [fewestOf_none fun m hm=>by
   cases e:is m
   ·rfl
   ·exact absurd ⟨m,hm,e⟩ hq] at hp
  cases hp
theorem shOk_mono{ng:Nat}{s s':Nat→Nat→Bool}{nc:Nat}(h:∀g p,g<ng→p<nc→s g p=true→s' g p=true):∀ (z gs:List Int),gs.length+z.length≤nc→shOk ng s gs z=true→shOk ng s' gs z=true
 | [],_,_,_=>rfl
 |g::z,gs,hn,hz=>by
  rw [List.length_cons] at hn
  simp only [shOk,Bool.and_eq_true] at hz⊢
  have hb':=between_iff.1 hz.1
  exact⟨hz.1,hz.2.1,h _ _ (by omega) (by omega) hz.2.2.1,shOk_mono h z (gs++ [g]) (by simp;omega) hz.2.2.2⟩
theorem NoLess.share{b c:Bk}(h:NoLess b c)(hb:checkBook b=0)(hc:checkBook c=0)(nb:cases b≠ [])(nc:cases c≠ [])(hs:(shareR b).1.isSome=true):(shareR c).1.isSome=true:=by
 rcases shareR_law hb nb with⟨e,_⟩|⟨z,e,h1,h2,_⟩
 ·rw [e] at hs;cases hs
 ·rcases shareR_law hc nc with⟨_,e2⟩|⟨z',e2,_⟩
  ·have h3:shOk c.gs.length (mayS c) [] z=true:=by
    rw [h.gs]
    refine shOk_mono (nc:=b.cs.length) (fun g p hg hp hm=>?_) z [] (by simp [h1]) h2
    rw [←sureM_may nb hg hp] at hm
    rw [←sureM_may nc (by rw [h.gs];exact hg) (by rw [h.cs];exact hp)]
    exact h.sureM _ _ _ hm
   rw [e2 z (by rw [h1,h.cs])] at h3;cases h3
  ·rw [e2];rfl
theorem NoLess.fewest{b c:Bk}(h:NoLess b c)(hb:checkBook b=0)(hc:checkBook c=0)(nb:cases b≠ [])(nc:cases c≠ [])(hs:(fewestR b).1.isSome=true):(fewestR c).1.isSome=true∧((fewestR c).1.getD []).length≤((fewestR b).1.getD []).length:=by
 have e1:fewestR b=(fewestOf b.gs.length (Go.Lg.B.lifted b (Go.Lg.B.sureM b 0)),0):=by rw [fewestR,open_zero hb nb];rfl
 have e2:fewestR c=(fewestOf c.gs.length (Go.Lg.B.lifted c (Go.Lg.B.sureM c 0)),0):=by rw [fewestR,open_zero hc nc];rfl
 rw [e1] at hs⊢
 rw [e2,h.gs]
 obtain⟨p,hp⟩:=Option.isSome_iff_exists.1 hs
 obtain⟨q,hq,hl⟩:=fewer (is':=Go.Lg.B.lifted c (Go.Lg.B.sureM c 0)) (fun m hm=>h.lifted hm) hp
 simp only at hp⊢
 rw [hp,hq]
 exact⟨rfl,hl⟩
theorem NoLess.renew{b c:Bk}(h:NoLess b c)(hb:checkBook b=0)(hc:checkBook c=0)(nb:cases b≠ [])(nc:cases c≠ [])(hs:(renewR b).1.isSome=true):(renewR c).1.isSome=true∧((renewR c).1.getD []).length≤((renewR b).1.getD []).length:=by
 have e1:renewR b=(fewestOf b.ps.length (fun mask=>Go.Lg.B.lifted b (Go.Lg.B.sureM b mask) (2^b.gs.length-1)),0):=by rw [renewR,open_zero hb nb];rfl
 have e2:renewR c=(fewestOf c.ps.length (fun mask=>Go.Lg.B.lifted c (Go.Lg.B.sureM c mask) (2^c.gs.length-1)),0):=by rw [renewR,open_zero hc nc];rfl
 rw [e1] at hs⊢
 rw [e2,h.gs,h.ps]
 obtain⟨p,hp⟩:=Option.isSome_iff_exists.1 hs
 obtain⟨q,hq,hl⟩:=fewer (is':=fun mask=>Go.Lg.B.lifted c (Go.Lg.B.sureM c mask) (2^b.gs.length-1)) (fun m hm=>h.lifted hm) hp
 simp only at hp⊢
 rw [hp,hq]
 exact⟨rfl,hl⟩
structure Fewer(b c:Bk):Prop where
 w:c.w=b.w
 gs:c.gs=b.gs
 nc:c.cs.length=b.cs.length
 np:c.ps.length=b.ps.length
 sh:∀x,c.sheaves x=b.sheaves x
 cases:(cases c).Sublist (cases b)
theorem Fewer.lifts{b c:Bk}(h:Fewer b c)(p:List Int)(g n:Int):lifts c p g n=lifts b p g n:=lifts_alike h.w h.gs h.sh p g n
theorem Fewer.allLift{b c:Bk}(h:Fewer b c){g n:Int}(ha:allLift b g n=true):allLift c g n=true:=by
 unfold Go.Lg.B.allLift at ha⊢
 rw [List.all_eq_true] at ha⊢
 intro t ht
 rw [h.lifts];exact ha t (h.cases.subset ht)
theorem most_le{b c:Bk}(hb:b.good)(hc:c.good){g:Int}(h0:0≤g)(h1:g<b.gs.length)(h2:g<c.gs.length)(h:∀n,0≤n→n≤99→allLift b g n=true→allLift c g n=true):most b g≤most c g:=by
 obtain⟨a1,a2,a3⟩:=most_law hb h0 h1
 obtain⟨_,_,c3⟩:=most_law hc h0 h2
 exact(c3 _ a1 a2).1 (h _ a1 a2 ((a3 _ a1 a2).2 (Int.le_refl _)))
theorem Fewer.noLess{b c:Bk}(h:Fewer b c)(hb:b.good)(hc:c.good):NoLess b c where
 gs:=by rw [h.gs]
 cs:=h.nc
 ps:=h.np
 sure:=fun m g p _ _ hs=>by
  unfold Go.Lg.B.sure at hs⊢
  rw [List.all_eq_true] at hs⊢
  intro t ht
  rw [h.lifts];exact hs t (h.cases.subset ht)
 most:=fun g h0 h1=>most_le hb hc h0 h1 (by rw [h.gs];exact h1) fun n _ _ ha=>h.allLift ha
 weak:=fun g n _ _ x hx=>by
  obtain⟨t,ht,hg⟩:=weak_mem.1 hx
  rw [gives_alike h.w h.gs h.sh] at hg
  exact weak_mem.2 ⟨t,h.cases.subset ht,hg⟩
theorem Fewer.bears{b c:Bk}(h:Fewer b c)(i:Int):insideL (bearsOf c i) (bearsOf b i)=true:=by
 unfold insideL
 rw [List.all_eq_true]
 intro x hx
 rw [List.contains_iff_mem]
 obtain⟨t,ht,e⟩:=bearsOf_mem.1 hx
 exact bearsOf_mem.2 ⟨t,h.cases.subset ht,e⟩
theorem Fewer.may{b c:Bk}(h:Fewer b c)(hne:Go.Lg.B.cases c≠ []){g k:Int}(hu:may b g k≠0):may c g k=may b g k:=by
 have hnb:Go.Lg.B.cases b≠ []:=fun e=>by have:=h.cases;rw [e] at this;exact hne (List.sublist_nil.1 this)
 unfold Go.Lg.B.may at hu⊢
 have el:(fun t:Tn=>Go.Lg.B.lifts c t.1 g (nth t.2 k))=fun t=>Go.Lg.B.lifts b t.1 g (nth t.2 k):=by funext t;rw [h.lifts]
 rw [el]
 have hs:=h.cases
 generalize Go.Lg.B.cases c=C at hne hs
 generalize Go.Lg.B.cases b=B at hnb hs hu
 have lc:=List.length_pos_iff.2 hne
 have lb:=List.length_pos_iff.2 hnb
 unfold how at hu⊢
 by_cases e1:(B.filter fun t=>Go.Lg.B.lifts b t.1 g (nth t.2 k)).length=0
 ·have e2:(C.filter fun t=>Go.Lg.B.lifts b t.1 g (nth t.2 k)).length=0:=by
   have:=(hs.filter fun t=>Go.Lg.B.lifts b t.1 g (nth t.2 k)).length_le;omega
  rw [if_pos e1,if_pos e2]
 ·rw [if_neg e1] at hu⊢
  by_cases e2:(B.filter fun t=>Go.Lg.B.lifts b t.1 g (nth t.2 k)).length=B.length
  ·rw [if_pos e2]
   have ha:=filter_all.1 e2
   have hca:C.all (fun t=>Go.Lg.B.lifts b t.1 g (nth t.2 k))=true:=by
    rw [List.all_eq_true] at ha⊢
    exact fun t ht=>ha t (hs.subset ht)
   have e3:=filter_all.2 hca
   rw [if_neg (by omega),if_pos e3]
  ·rw [if_neg e2] at hu;exact absurd rfl hu
theorem ones_ps(xs:List Pt):ones (xs.flatMap Pt.cells)=true:=ones_flat (fun _=>rfl) xs
section
variable {main:Bool}{J:Goroutine→Mem→Prop}(hJ:Closed prog main J)
include hJ
theorem borneR_c{b:Bk}{v:Value}{ro:RO}(hv:BkV ro v b)(hn:b.ps.length≤1000){i:Int}(hi:0≤i∧i<b.ps.length)(r:Rc):CallR prog J (fnv 75) [v, .int .i64 i,r.val] ro (fun w ro'=>BkV ro' w (b.borne i.toNat r)):=by
 obtain⟨vp,vg,vc,vt,rfl,hv⟩:=hv
 obtain⟨pb,pcap,rfl⟩:=hv.1.form
 obtain⟨gb,gcap,rfl⟩:=hv.2.1.form
 obtain⟨cb,ccap,rfl⟩:=hv.2.2.1.form
 obtain⟨tb,tcap,rfl⟩:=hv.2.2.2.form
 have hil:i.toNat<b.ps.length:=by omega
 have hfl:=flatMap_len Pt.len b.ps
 refine CallR.intro hJ (by kernel_rfl) fun c cs tail hret=>enter_X (n:=19) func75 U U (Nl U) ?_
 have C:Ctx prog main J (bf 75 .normal):=⟨hJ,by decide⟩
 refine Xr C U U<|R.box C U U U U fun p3=>R.box C U U U U fun p5=>R.alloc C U U zeroValue27 U fun p6=>R.done C<|Xr C U U<|R.buildSlice C (vs:=_) U U (show pvals _ _=some (numbered 0 []) from rfl) U runUnderlying22 sizeOf67 zeroValue67 (by decide) (.nil) fun p7=>Rf C 1 U U runUnderlying27 U sizeOf22<|Rl C U U isAgg22 (by repeat constructor) U<|R.append (kk:=4) C U U U U runUnderlying22 runUnderlying22 (fun _=>nofun) (show prog.info? 67=some Tryz.t67 by kernel_rfl) U U U (by decide) (by decide) (Buf.blk (cells:= []) (spare:= []) (len:=0) (cap:=0) U U (Nat.le_refl _)) (hv.1.rd Pt.len) (ones_ps b.ps) (by simp only [List.length_nil];omega) fun v' own' hb'=>Rf C 1 U U runUnderlying27 U sizeOf22 ?_
 obtain⟨own1,rfl,hb1⟩:=hb'.unapp (tail:= [])
 rw [List.nil_append] at hb1
 obtain⟨p9,cap9,sp9,rfl,hcap9,rfl⟩:=blk_of Pt.len (by decide) hb1 (by intro h;rw [h] at hil;exact absurd hil (Nat.not_lt_zero _))
 refine R.store C U U U U sizeOf22 U U U (by repeat constructor) (.skip (.here .nil)) ?_
 have hmf:=modify_flat (enc:=Pt.cells) (k:=4) Pt.len (fun p=>{p with r:=r}) b.ps i.toNat sp9 2 [.int .i64 r.lo, .int .i64 r.hi] hil (fun x _=> .skip (.skip Ph2))
 have hml:(b.ps.modify i.toNat fun p=>{p with r:=r}).length=b.ps.length:=by simp
 have eo:0+i.toNat*4+2=i.toNat*4+2:=by omega
 rw [←eo] at hmf
 refine R.done C<|Xr C U U<|Rf C 1 U U runUnderlying27 U sizeOf22<|Rl C U U isAgg22 (by repeat constructor) U<|Rm C U U<|R5 C U U isAgg65 sizeOf65 (by repeat constructor) Tk2<|Rx C U U U runUnderlying22 sizeOf67<|R.fieldAddr C U U U runUnderlying67 U sizeOf65 U<|R.store C U U U U sizeOf65 U U U (by repeat constructor) hmf<|R.done C<|Xs C<|X.persist C.1 fun ro4 hl4 h9=>?_
 have hls:Ls Pt.cells 4 ro4 (.slice (some ⟨p9,0,none⟩) b.ps.length cap9) (b.ps.modify i.toNat fun p=>{p with r:=r}):=⟨_,_,by rw [hml], .inr ⟨p9,0,_,_,_,rfl,h9,by rw [←flatMap_len Pt.len];exact Sub.front _ _⟩⟩
 have hv4:=hv.mono hl4
 refine X.region C U U<|R5 C U U isAgg27 sizeOf27 (by repeat constructor) Tk5<|R.store C U U U U sizeOf27 U U U (by repeat constructor) Ph5<|R.done C<|X.ret C U U func75 U (by exact(.agg U isAgg27 sizeOf27 (by repeat constructor) Tk5 .nil))<|Hr hret hl4 ?_
 exact⟨_,_,_,_,rfl,hls,hv4.2.1,hv4.2.2.1,hv4.2.2.2⟩
end
end Go.Lg.B
namespace Go.Lg
open Go Go.Conc
inductive FsOk(P:Program)(d:Nat)(a b:List Value):List Field→Bool→Prop
 |nil:FsOk P d a b [] true
 |cons {f:Field} {fs:List Field} {x y:Value} {r rs:Bool}:f.name≠ "_" →(∀ (M:Mem) (K:Value→Mem→Prop),K x M→Sm P M (part f.type a.toArray f.offset) K)→(∀ (M:Mem) (K:Value→Mem→Prop),K y M→Sm P M (part f.type b.toArray f.offset) K)→Eq1 P d f.type x y r→FsOk P d a b fs rs→FsOk P d a b (f::fs) (r && rs)
theorem FsOk.run{P:Program}{d:Nat}{a b:List Value}{l:List Field}{r:Bool}(h:FsOk P d a b l r):∀ (M:Mem) (K:Option Bool×Unit→Mem→Prop),K (if r then(none,()) else(some false,())) M→Sm P M (forIn l ((none,()):Option Bool×Unit) fun f _=>(if f.name≠ "_" then do
   let x←part f.type a.toArray f.offset
   let y←part f.type b.toArray f.offset
   let r←Op.equalIn d f.type x y
   if(!r)=true then pure (ForInStep.done (some false,())) else pure (ForInStep.yield (none,()))
   else pure (ForInStep.yield (none,())))) K:=by
 induction h with
 |nil=>intro M K hk;rw [List.forIn_nil];exact Sm.pure hk
 |cons hn hx hy he _ ih=>
  rename_i r1 rs _
  intro M K hk
  refine Sm.forIn_cons ?_
  rw [if_pos hn]
  refine Sm.bind (hx _ _ (Sm.bind (hy _ _ (Sm.bind (he _ _ ?_)))))
  cases r1 with
  |true=>rw [if_neg (by simp)];exact Sm.pure (ih _ _ (by simpa using hk))
  |false=>rw [if_pos (show(!false)=true from rfl)];exact Sm.pure (by simpa using hk)
theorem Eq1.struct{P:Program}{d:Nat}{t:TypeId}{fields:Array Field}{a b:List Value}{r:Bool}(hu:∀w,Sem.run P (Go.underlying t) w= .ok (.struct fields) w)(hp:P.stoodInHeld t=false)(hf:FsOk P d a b fields.toList r):Eq1 P (d+1) t (.agg a.toArray) (.agg b.toArray) r:=by
 intro M K hk
 unfold Op.equalIn
 refine Sm.bind (Sm.underlying hu ?_)
 simp only
 refine Sm.bind (Sm.program ?_)
 simp only [hp,Bool.false_eq_true,if_false]
 rw [←Array.forIn_toList]
 refine Sm.bind (hf.run _ _ ?_)
 cases r
 ·exact Sm.pure hk
 ·exact Sm.pure hk
theorem Eq1.int{P:Program}{d:Nat}{t:TypeId}{x y:Int}(hu:∀w,Sem.run P (Go.underlying t) w= .ok (.int .i64) w):Eq1 P (d+1) t (.int .i64 x) (.int .i64 y) (x==y):=by
 intro M K hk
 unfold Op.equalIn
 refine Sm.bind (Sm.underlying hu ?_)
 simp only [if_true]
 exact Sm.pure hk
theorem Eq1.bool{P:Program}{d:Nat}{t:TypeId}{x y:Bool}(hu:∀w,Sem.run P (Go.underlying t) w= .ok .bool w):Eq1 P (d+1) t (.bool x) (.bool y) (x==y):=by
 intro M K hk
 unfold Op.equalIn
 refine Sm.bind (Sm.underlying hu ?_)
 exact Sm.pure hk
theorem bts_beq(x y:List UInt8):((⟨x.toArray⟩:ByteArray)==⟨y.toArray⟩)=(x==y):=by
 show(x.toArray==y.toArray)=(x==y)
 simp
theorem Eq1.str{P:Program}{d:Nat}{t:TypeId}{x y:List UInt8}(hu:∀w,Sem.run P (Go.underlying t) w= .ok .string w):Eq1 P (d+1) t (strV x) (strV y) (x==y):=by
 intro M K hk
 unfold Op.equalIn
 refine Sm.bind (Sm.underlying hu ?_)
 simp only [bts_beq]
 exact Sm.pure hk
theorem part_one{P:Program}{t:TypeId}{l:List Value}{off:Nat}{v:Value}(ha:∀w,Sem.run P (Go.isAgg t) w= .ok false w)(hv:l[off]? =some v):∀ (M:Mem) (K:Value→Mem→Prop),K v M→Sm P M (part t l.toArray off) K:=fun _ _ hk=>Sm.partOne ha hv hk
theorem part_agg{P:Program}{t:TypeId}{l out:List Value}{off n:Nat}(ha:∀w,Sem.run P (Go.isAgg t) w= .ok true w)(hz:∀w,Sem.run P (Go.sizeOf t) w= .ok n w)(hs:Sub off n l out):∀ (M:Mem) (K:Value→Mem→Prop),K (.agg out.toArray) M→Sm P M (part t l.toArray off) K:=fun _ _ hk=>Sm.partAgg ha hz hs hk
end Go.Lg
namespace Go.Lg.B
open Go Go.Conc Go.Lg Go.Proofs Go.Proofs.Tryz
theorem eqRc(x y:Rc):Eq1 prog 9999 65 x.val y.val (decide (x=y)):=by
 have h:=Eq1.struct (P:=prog) (d:=9998) (a:=x.cells) (b:=y.cells) runUnderlying65 (by kernel_rfl)
  (.cons (by decide) (part_one isAgg3 rfl) (part_one isAgg3 rfl) (Eq1.int runUnderlying3)
   (.cons (by decide) (part_one isAgg3 rfl) (part_one isAgg3 rfl) (Eq1.int runUnderlying3) .nil))
 have e:(x.lo==y.lo && (x.hi==y.hi && true))=decide (x=y):=by
  cases x;cases y;simp only [Rc.mk.injEq,Bool.and_true];rw [Bool.eq_iff_iff];simp
 rwa [e] at h
theorem eqPt(x y:Pt):Eq1 prog 10000 67 x.val y.val (decide (x=y)):=by
 have h:=Eq1.struct (P:=prog) (d:=9999) (a:=x.cells) (b:=y.cells) runUnderlying67 (by kernel_rfl)
  (.cons (by decide) (part_one isAgg9 rfl) (part_one isAgg9 rfl) (Eq1.str runUnderlying9)
   (.cons (by decide) (part_one isAgg3 rfl) (part_one isAgg3 rfl) (Eq1.int runUnderlying3)
    (.cons (by decide) (part_agg isAgg65 sizeOf65 (.skip (.skip Tk2))) (part_agg isAgg65 sizeOf65 (.skip (.skip Tk2))) (eqRc x.r y.r) .nil)))
 have e:(x.nm==y.nm && (x.sh==y.sh && (decide (x.r=y.r) && true)))=decide (x=y):=by
  cases x;cases y;simp only [Pt.mk.injEq,Bool.and_true];rw [Bool.eq_iff_iff];simp
 rwa [e] at h
theorem eqPc(x y:Pc):Eq1 prog 10000 79 x.val y.val (decide (x=y)):=by
 have h:=Eq1.struct (P:=prog) (d:=9999) (a:=x.cells) (b:=y.cells) runUnderlying79 (by kernel_rfl)
  (.cons (by decide) (part_one isAgg9 rfl) (part_one isAgg9 rfl) (Eq1.str runUnderlying9)
   (.cons (by decide) (part_agg isAgg65 sizeOf65 (.skip Tk2)) (part_agg isAgg65 sizeOf65 (.skip Tk2)) (eqRc x.r y.r) .nil))
 have e:(x.nm==y.nm && (decide (x.r=y.r) && true))=decide (x=y):=by
  cases x;cases y;simp only [Pc.mk.injEq,Bool.and_true];rw [Bool.eq_iff_iff];simp
 rwa [e] at h
theorem eqTs(x y:Ts):Eq1 prog 10000 92 x.val y.val (decide (x=y)):=by
 have h:=Eq1.struct (P:=prog) (d:=9999) (a:=x.cells) (b:=y.cells) runUnderlying92 (by kernel_rfl)
  (.cons (by decide) (part_one isAgg3 rfl) (part_one isAgg3 rfl) (Eq1.int runUnderlying3)
   (.cons (by decide) (part_one isAgg3 rfl) (part_one isAgg3 rfl) (Eq1.int runUnderlying3)
    (.cons (by decide) (part_one isAgg4 rfl) (part_one isAgg4 rfl) (Eq1.bool runUnderlying4) .nil)))
 have e:(x.g==y.g && (x.l==y.l && (x.held==y.held && true)))=decide (x=y):=by
  cases x;cases y;simp only [Ts.mk.injEq,Bool.and_true];rw [Bool.eq_iff_iff];simp
 rwa [e] at h
theorem take_next{α:Type}{l k:List α}{i:Nat}(h:i<l.length)(h':i<k.length)(ht:l.take i=k.take i)(e:l[i]=k[i]):l.take (i+1)=k.take (i+1):=by
 rw [List.take_succ_eq_append_getElem h,List.take_succ_eq_append_getElem h',ht,e]
theorem ne_at{α:Type}{l k:List α}{i:Nat}(h:i<l.length)(h':i<k.length)(e:¬l[i]=k[i]):l≠k:=fun hh=>by subst hh;exact e rfl
structure Bk.tiny(b:Bk):Prop where
 ps:b.ps.length≤1000
 gs:b.gs.length≤1000∧∀g∈b.gs,g.length≤1000
 cs:b.cs.length≤1000
 ts:b.ts.length≤1000
variable {main:Bool}{J:Goroutine→Mem→Prop}(hJ:Closed prog main J)
include hJ
theorem sameR_c{a b:Bk}{va vb:Value}{ro:RO}(ha:BkV ro va a)(hb:BkV ro vb b)(sa:a.tiny)(sb:b.tiny):CallP prog J (fnv 81) [va,vb] ro (.bool (decide (a=b))):=by
 obtain⟨ap,ag,ac,at',rfl,ha⟩:=ha
 obtain⟨apb,apc,rfl⟩:=ha.1.form
 obtain⟨agb,agc,rfl⟩:=ha.2.1.form
 obtain⟨acb,acc,rfl⟩:=ha.2.2.1.form
 obtain⟨atb,atc,rfl⟩:=ha.2.2.2.form
 obtain⟨bp,bg,bc,bt,rfl,hb⟩:=hb
 obtain⟨bpb,bpc,rfl⟩:=hb.1.form
 obtain⟨bgb,bgc,rfl⟩:=hb.2.1.form
 obtain⟨bcb,bcc,rfl⟩:=hb.2.2.1.form
 obtain⟨btb,btc,rfl⟩:=hb.2.2.2.form
 have no:∀ {p:Prop} [Decidable p],¬p→retVal [Value.bool false]=Value.bool (decide p):=fun {p} _ h=>by rw [decide_eq_false h];rfl
 have s1:=sa.ps
 have s2:=sa.gs.1
 have s3:=sa.cs
 have s4:=sa.ts
 refine CallP.intro hJ (by kernel_rfl) fun c cs tail hret=>enter_X (n:=123) func81 U U (Nl U) ?_
 have C:Ctx prog main J (bf 81 .normal):=⟨hJ,by decide⟩
 by_cases e1:a.w=b.w
 ·by_cases e2:a.ps.length=b.ps.length
  ·by_cases e3:a.gs.length=b.gs.length
   ·by_cases e4:a.cs.length=b.cs.length
    ·by_cases e5:a.ts.length=b.ts.length
     ·have _:=e5
      refine Xr C U U<|R.box C U U U U fun p2=>R.box C U U U U fun p3=>Ad C U U<|Xs C<|Xr C U U<|Rf C 0 U U runUnderlying27 U sizeOf3<|Rl C U U isAgg3 (by repeat constructor) U<|Rf C 0 U U runUnderlying27 U sizeOf3<|Rl C U U isAgg3 (by repeat constructor) U<|R.int C U U U U b_neq<|R.fixv (t:=13) (v':= .bool false) U (Bv (by simp [e1])) ?_;refine Rm C U U<|Rf C 1 U U runUnderlying27 U sizeOf22<|Rl C U U isAgg22 (by repeat constructor) U<|Rn C U U runUnderlying22<|Rf C 1 U U runUnderlying27 U sizeOf22<|Rl C U U isAgg22 (by repeat constructor) U<|Rn C U U runUnderlying22<|R.int C U U U U b_neq<|R.fixv (t:=21) (v':= .bool false) U (Bv (by simp [e2])) ?_;refine R.pickF C U U U U<|Rm C U U<|Rf C 2 U U runUnderlying27 U sizeOf23<|Rl C U U isAgg23 (by repeat constructor) U<|Rn C U U runUnderlying23<|Rf C 2 U U runUnderlying27 U sizeOf23<|Rl C U U isAgg23 (by repeat constructor) U<|Rn C U U runUnderlying23<|R.int C U U U U b_neq<|R.fixv (t:=30) (v':= .bool false) U (Bv (by simp [e3])) ?_;refine R.pickF C U U U U<|Rm C U U<|Rf C 3 U U runUnderlying27 U sizeOf24<|Rl C U U isAgg24 (by repeat constructor) U<|Rn C U U runUnderlying24<|Rf C 3 U U runUnderlying27 U sizeOf24<|Rl C U U isAgg24 (by repeat constructor) U<|Rn C U U runUnderlying24<|R.int C U U U U b_neq<|R.fixv (t:=39) (v':= .bool false) U (Bv (by simp [e4])) ?_;refine R.pickF C U U U U<|Rm C U U<|Rf C 4 U U runUnderlying27 U sizeOf25<|Rl C U U isAgg25 (by repeat constructor) U<|Rn C U U runUnderlying25<|Rf C 4 U U runUnderlying27 U sizeOf25<|Rl C U U isAgg25 (by repeat constructor) U<|Rn C U U runUnderlying25<|R.int C U U U U b_neq<|R.fixv (t:=48) (v':= .bool false) U (Bv (by simp [e5])) ?_;refine R.pickF C U U U U<|R.done C<|X.cond C.1 U (fun h=>nomatch h) (fun _=>?_)
      refine X.skip C.1<|Xs C<|Xr C U U<|Ad C U U<|X.block C.1<|X.loopI (ι:=Nat) C.1 (fun i=>i≤a.ps.length∧a.ps.take i=b.ps.take i) (fun i=> [(2, .pointer (some ⟨p2,0,none⟩)),(3, .pointer (some ⟨p3,0,none⟩)),(5, .int .i64 (i:Int))])
       (fun _=>⟨ro,(p3, .cells [.int .i64 b.w, .slice bpb b.ps.length bpc, .slice bgb b.gs.length bgc, .slice bcb b.cs.length bcc, .slice btb b.ts.length btc].toArray 27 (0,0))::(p2, .cells [.int .i64 a.w, .slice apb a.ps.length apc, .slice agb a.gs.length agc, .slice acb a.cs.length acc, .slice atb a.ts.length atc].toArray 27 (0,0))::tail⟩) (fun i=>a.ps.length-i) 0 ⟨Nat.zero_le _,rfl⟩ rfl ⟨U,U,U,trivial⟩ fun i hi hnext=>?_
      obtain⟨hi,hq⟩:=hi
      refine Xs C<|Xr C U U<|Rm C U U<|Rf C 1 U U runUnderlying27 U sizeOf22<|Rl C U U isAgg22 (by repeat constructor) U<|Rn C U U runUnderlying22<|R.int C U U U U b_lss<|R.done C<|Xk C U (fun hlt=>?_) (fun hlt=>?_)
      ·have hi':i<a.ps.length:=by omega
       have hj':i<b.ps.length:=by omega
       obtain⟨p,off,cap,l,t,fq,hsl,hrop,hsub⟩:=ha.1.at Pt.len (by omega)
       cases hsl
       obtain⟨q,off2,cap2,l2,t2,fq2,hsl2,hrop2,hsub2⟩:=hb.1.at Pt.len (by omega)
       cases hsl2
       have hs1:=hsub i hi'
       have hs2:=hsub2 i hj'
       refine X.skip C.1<|Xs C<|X.block C.1<|Xs C<|Xd C fun hok=>Df (off':=1) C 0 hok U U U runUnderlying27 U sizeOf22 U<|D1 C 1 hok U U isAgg22 (by repeat constructor) U<|Dm C 2 hok U U U<|Dx C 3 hok U U U runUnderlying22 sizeOf67<|Dl 4 hok (fun _ _ A h=>R.loadAggRo C U (A.w U U) (A.x U U) isAgg67 sizeOf67 hrop hs1 h)<|Df (off':=1) C 5 hok U U U runUnderlying27 U sizeOf22 U<|D1 C 6 hok U U isAgg22 (by repeat constructor) U<|Dm C 7 hok U U U<|Dx C 8 hok U U U runUnderlying22 sizeOf67<|Dl 9 hok (fun _ _ A h=>R.loadAggRo C U (A.w U U) (A.x U U) isAgg67 sizeOf67 hrop2 hs2 h)<|Dp 10 hok (fun _ _ _ A h=>R.neEq C U (A.w U U) (A.x U U) (A.x U U) (eqPt _ _) (by kernel_rfl) h)<|D.done C hok (by kernel_rfl)<|X.cond C.1 U (fun hne=>?_) (fun hne=>?_)
       ·have hne:¬a.ps[i]=b.ps[i]:=by simpa using hne
        refine Xr C U U<|Ad C U U<|Xt C func81<|Hp hret ?_
        exact no fun h=>ne_at hi' hj' hne (congrArg Bk.ps h)
       ·have hne:a.ps[i]=b.ps[i]:=by simpa using hne
        refine X.skip C.1<|X.inBlock C.1<|X.region C U U<|Rm C U U<|Ra C U U U<|Ad C U U<|X.weaken ?_ (hnext (i+1) ⟨hi',take_next hi' hj' hq hne⟩ (by omega))
        exact⟨rfl,rfl,by simp [look],trivial⟩
      ·obtain rfl:i=a.ps.length:=by omega
       have f2:a.ps=b.ps:=by rwa [List.take_length,e2,List.take_length] at hq
       refine X.exit C.1 U<|Xs C<|Xr C U U<|Ad C U U<|X.block C.1<|X.loopI (ι:=Nat) C.1 (fun i=>i≤a.gs.length∧a.gs.take i=b.gs.take i) (fun i=> [(2, .pointer (some ⟨p2,0,none⟩)),(3, .pointer (some ⟨p3,0,none⟩)),(6, .int .i64 (i:Int))])
        (fun _=>⟨ro,(p3, .cells [.int .i64 b.w, .slice bpb b.ps.length bpc, .slice bgb b.gs.length bgc, .slice bcb b.cs.length bcc, .slice btb b.ts.length btc].toArray 27 (0,0))::(p2, .cells [.int .i64 a.w, .slice apb a.ps.length apc, .slice agb a.gs.length agc, .slice acb a.cs.length acc, .slice atb a.ts.length atc].toArray 27 (0,0))::tail⟩) (fun i=>a.gs.length-i) 0 ⟨Nat.zero_le _,rfl⟩ rfl ⟨U,U,U,trivial⟩ fun i hi hnext=>?_
       obtain⟨hi,hq⟩:=hi
       refine Xs C<|Xr C U U<|Rm C U U<|Rf C 2 U U runUnderlying27 U sizeOf23<|Rl C U U isAgg23 (by repeat constructor) U<|Rn C U U runUnderlying23<|R.int C U U U U b_lss<|R.done C<|Xk C U (fun hlt2=>?_) (fun hlt2=>?_)
       ·have hi':i<a.gs.length:=by omega
        have hj':i<b.gs.length:=by omega
        obtain⟨p,off,cap,l,t,fq,hsl,hrop,hsub⟩:=ha.2.1.at (by omega)
        cases hsl
        obtain⟨q,off2,cap2,l2,t2,fq2,hsl2,hrop2,hsub2⟩:=hb.2.1.at (by omega)
        cases hsl2
        obtain⟨qb,qc,hld,hqc,hq1⟩:=hsub i hi'
        obtain⟨qb2,qc2,hld2,hqc2,hq2⟩:=hsub2 i hj'
        have hln1:=sa.gs.2 _ (List.getElem_mem hi')
        have hln2:=sb.gs.2 _ (List.getElem_mem hj')
        refine X.skip C.1<|Xs C<|X.block C.1<|Xs C<|Xd C fun hok=>Df (off':=2) C 0 hok U U U runUnderlying27 U sizeOf23 U<|D1 C 1 hok U U isAgg23 (by repeat constructor) U<|Dm C 2 hok U U U<|Dx C 3 hok U U U runUnderlying23 sizeOf28<|D2 C 4 hok U U isAgg28 hrop hld<|Df (off':=2) C 5 hok U U U runUnderlying27 U sizeOf23 U<|D1 C 6 hok U U isAgg23 (by repeat constructor) U<|Dm C 7 hok U U U<|Dx C 8 hok U U U runUnderlying23 sizeOf28<|D2 C 9 hok U U isAgg28 hrop2 hld2<|De 10 (some 85) [false,false,false,false] hok (fun _ _ A hk=>?_)
        refine R.callP C U (A.w U U) (A.x U U) (A.s U U) (sameInts_c hJ hq1 hq2 (by omega) (by omega)) (hk _ _ ⟨QFs.nil, ?_⟩)
        refine Dp 11 hok (fun _ _ _ A h=>R.not C U (A.w U U) (A.x U U) h)<|D.done C hok (by kernel_rfl)<|X.cond C.1 U (fun hne=>?_) (fun hne=>?_)
        ·have hne:¬a.gs[i]=b.gs[i]:=by simpa [sameInts_iff] using hne
         refine Xr C U U<|Ad C U U<|Xt C func81<|Hp hret ?_
         exact no fun h=>ne_at hi' hj' hne (congrArg Bk.gs h)
        ·have hne:a.gs[i]=b.gs[i]:=by simpa [sameInts_iff] using hne
         refine X.skip C.1<|X.inBlock C.1<|X.region C U U<|Rm C U U<|Ra C U U U<|Ad C U U<|X.weaken ?_ (hnext (i+1) ⟨hi',take_next hi' hj' hq hne⟩ (by omega))
         exact⟨rfl,rfl,by simp [look],trivial⟩
       ·obtain rfl:i=a.gs.length:=by omega
        have f3:a.gs=b.gs:=by rwa [List.take_length,e3,List.take_length] at hq
        refine X.exit C.1 U<|Xs C<|Xr C U U<|Ad C U U<|X.block C.1<|X.loopI (ι:=Nat) C.1 (fun i=>i≤a.cs.length∧a.cs.take i=b.cs.take i) (fun i=> [(2, .pointer (some ⟨p2,0,none⟩)),(3, .pointer (some ⟨p3,0,none⟩)),(7, .int .i64 (i:Int))])
         (fun _=>⟨ro,(p3, .cells [.int .i64 b.w, .slice bpb b.ps.length bpc, .slice bgb b.gs.length bgc, .slice bcb b.cs.length bcc, .slice btb b.ts.length btc].toArray 27 (0,0))::(p2, .cells [.int .i64 a.w, .slice apb a.ps.length apc, .slice agb a.gs.length agc, .slice acb a.cs.length acc, .slice atb a.ts.length atc].toArray 27 (0,0))::tail⟩) (fun i=>a.cs.length-i) 0 ⟨Nat.zero_le _,rfl⟩ rfl ⟨U,U,U,trivial⟩ fun i hi hnext=>?_
        obtain⟨hi,hq⟩:=hi
        refine Xs C<|Xr C U U<|Rm C U U<|Rf C 3 U U runUnderlying27 U sizeOf24<|Rl C U U isAgg24 (by repeat constructor) U<|Rn C U U runUnderlying24<|R.int C U U U U b_lss<|R.done C<|Xk C U (fun hlt3=>?_) (fun hlt3=>?_)
        ·have hi':i<a.cs.length:=by omega
         have hj':i<b.cs.length:=by omega
         obtain⟨p,off,cap,l,t,fq,hsl,hrop,hsub⟩:=ha.2.2.1.at Pc.len (by omega)
         cases hsl
         obtain⟨q,off2,cap2,l2,t2,fq2,hsl2,hrop2,hsub2⟩:=hb.2.2.1.at Pc.len (by omega)
         cases hsl2
         have hs1:=hsub i hi'
         have hs2:=hsub2 i hj'
         refine X.skip C.1<|Xs C<|X.block C.1<|Xs C<|Xd C fun hok=>Df (off':=3) C 0 hok U U U runUnderlying27 U sizeOf24 U<|D1 C 1 hok U U isAgg24 (by repeat constructor) U<|Dm C 2 hok U U U<|Dx C 3 hok U U U runUnderlying24 sizeOf79<|Dl 4 hok (fun _ _ A h=>R.loadAggRo C U (A.w U U) (A.x U U) isAgg79 sizeOf79 hrop hs1 h)<|Df (off':=3) C 5 hok U U U runUnderlying27 U sizeOf24 U<|D1 C 6 hok U U isAgg24 (by repeat constructor) U<|Dm C 7 hok U U U<|Dx C 8 hok U U U runUnderlying24 sizeOf79<|Dl 9 hok (fun _ _ A h=>R.loadAggRo C U (A.w U U) (A.x U U) isAgg79 sizeOf79 hrop2 hs2 h)<|Dp 10 hok (fun _ _ _ A h=>R.neEq C U (A.w U U) (A.x U U) (A.x U U) (eqPc _ _) (by kernel_rfl) h)<|D.done C hok (by kernel_rfl)<|X.cond C.1 U (fun hne=>?_) (fun hne=>?_)
         ·have hne:¬a.cs[i]=b.cs[i]:=by simpa using hne
          refine Xr C U U<|Ad C U U<|Xt C func81<|Hp hret ?_
          exact no fun h=>ne_at hi' hj' hne (congrArg Bk.cs h)
         ·have hne:a.cs[i]=b.cs[i]:=by simpa using hne
          refine X.skip C.1<|X.inBlock C.1<|X.region C U U<|Rm C U U<|Ra C U U U<|Ad C U U<|X.weaken ?_ (hnext (i+1) ⟨hi',take_next hi' hj' hq hne⟩ (by omega))
          exact⟨rfl,rfl,by simp [look],trivial⟩
        ·obtain rfl:i=a.cs.length:=by omega
         have f4:a.cs=b.cs:=by rwa [List.take_length,e4,List.take_length] at hq
         refine X.exit C.1 U<|Xs C<|Xr C U U<|Ad C U U<|X.block C.1<|X.loopI (ι:=Nat) C.1 (fun i=>i≤a.ts.length∧a.ts.take i=b.ts.take i) (fun i=> [(2, .pointer (some ⟨p2,0,none⟩)),(3, .pointer (some ⟨p3,0,none⟩)),(8, .int .i64 (i:Int))])
          (fun _=>⟨ro,(p3, .cells [.int .i64 b.w, .slice bpb b.ps.length bpc, .slice bgb b.gs.length bgc, .slice bcb b.cs.length bcc, .slice btb b.ts.length btc].toArray 27 (0,0))::(p2, .cells [.int .i64 a.w, .slice apb a.ps.length apc, .slice agb a.gs.length agc, .slice acb a.cs.length acc, .slice atb a.ts.length atc].toArray 27 (0,0))::tail⟩) (fun i=>a.ts.length-i) 0 ⟨Nat.zero_le _,rfl⟩ rfl ⟨U,U,U,trivial⟩ fun i hi hnext=>?_
         obtain⟨hi,hq⟩:=hi
         refine Xs C<|Xr C U U<|Rm C U U<|Rf C 4 U U runUnderlying27 U sizeOf25<|Rl C U U isAgg25 (by repeat constructor) U<|Rn C U U runUnderlying25<|R.int C U U U U b_lss<|R.done C<|Xk C U (fun hlt4=>?_) (fun hlt4=>?_)
         ·have hi':i<a.ts.length:=by omega
          have hj':i<b.ts.length:=by omega
          obtain⟨p,off,cap,l,t,fq,hsl,hrop,hsub⟩:=ha.2.2.2.at Ts.len (by omega)
          cases hsl
          obtain⟨q,off2,cap2,l2,t2,fq2,hsl2,hrop2,hsub2⟩:=hb.2.2.2.at Ts.len (by omega)
          cases hsl2
          have hs1:=hsub i hi'
          have hs2:=hsub2 i hj'
          refine X.skip C.1<|Xs C<|X.block C.1<|Xs C<|Xd C fun hok=>Df (off':=4) C 0 hok U U U runUnderlying27 U sizeOf25 U<|D1 C 1 hok U U isAgg25 (by repeat constructor) U<|Dm C 2 hok U U U<|Dx C 3 hok U U U runUnderlying25 sizeOf92<|Dl 4 hok (fun _ _ A h=>R.loadAggRo C U (A.w U U) (A.x U U) isAgg92 sizeOf92 hrop hs1 h)<|Df (off':=4) C 5 hok U U U runUnderlying27 U sizeOf25 U<|D1 C 6 hok U U isAgg25 (by repeat constructor) U<|Dm C 7 hok U U U<|Dx C 8 hok U U U runUnderlying25 sizeOf92<|Dl 9 hok (fun _ _ A h=>R.loadAggRo C U (A.w U U) (A.x U U) isAgg92 sizeOf92 hrop2 hs2 h)<|Dp 10 hok (fun _ _ _ A h=>R.neEq C U (A.w U U) (A.x U U) (A.x U U) (eqTs _ _) (by kernel_rfl) h)<|D.done C hok (by kernel_rfl)<|X.cond C.1 U (fun hne=>?_) (fun hne=>?_)
          ·have hne:¬a.ts[i]=b.ts[i]:=by simpa using hne
           refine Xr C U U<|Ad C U U<|Xt C func81<|Hp hret ?_
           exact no fun h=>ne_at hi' hj' hne (congrArg Bk.ts h)
          ·have hne:a.ts[i]=b.ts[i]:=by simpa using hne
           refine X.skip C.1<|X.inBlock C.1<|X.region C U U<|Rm C U U<|Ra C U U U<|Ad C U U<|X.weaken ?_ (hnext (i+1) ⟨hi',take_next hi' hj' hq hne⟩ (by omega))
           exact⟨rfl,rfl,by simp [look],trivial⟩
         ·obtain rfl:i=a.ts.length:=by omega
          have f5:a.ts=b.ts:=by rwa [List.take_length,e5,List.take_length] at hq
          have f:a=b:=by cases a;cases b;simp only [Bk.mk.injEq];exact⟨e1,f2,f3,f4,f5⟩
          refine X.exit C.1 U<|Xr C U U<|Ad C U U<|Xt C func81<|Hp hret ?_
          rw [decide_eq_true f];rfl
     ·have _:=e5
      refine Xr C U U<|R.box C U U U U fun p2=>R.box C U U U U fun p3=>Ad C U U<|Xs C<|Xr C U U<|Rf C 0 U U runUnderlying27 U sizeOf3<|Rl C U U isAgg3 (by repeat constructor) U<|Rf C 0 U U runUnderlying27 U sizeOf3<|Rl C U U isAgg3 (by repeat constructor) U<|R.int C U U U U b_neq<|R.fixv (t:=13) (v':= .bool false) U (Bv (by simp [e1])) ?_;refine Rm C U U<|Rf C 1 U U runUnderlying27 U sizeOf22<|Rl C U U isAgg22 (by repeat constructor) U<|Rn C U U runUnderlying22<|Rf C 1 U U runUnderlying27 U sizeOf22<|Rl C U U isAgg22 (by repeat constructor) U<|Rn C U U runUnderlying22<|R.int C U U U U b_neq<|R.fixv (t:=21) (v':= .bool false) U (Bv (by simp [e2])) ?_;refine R.pickF C U U U U<|Rm C U U<|Rf C 2 U U runUnderlying27 U sizeOf23<|Rl C U U isAgg23 (by repeat constructor) U<|Rn C U U runUnderlying23<|Rf C 2 U U runUnderlying27 U sizeOf23<|Rl C U U isAgg23 (by repeat constructor) U<|Rn C U U runUnderlying23<|R.int C U U U U b_neq<|R.fixv (t:=30) (v':= .bool false) U (Bv (by simp [e3])) ?_;refine R.pickF C U U U U<|Rm C U U<|Rf C 3 U U runUnderlying27 U sizeOf24<|Rl C U U isAgg24 (by repeat constructor) U<|Rn C U U runUnderlying24<|Rf C 3 U U runUnderlying27 U sizeOf24<|Rl C U U isAgg24 (by repeat constructor) U<|Rn C U U runUnderlying24<|R.int C U U U U b_neq<|R.fixv (t:=39) (v':= .bool false) U (Bv (by simp [e4])) ?_;refine R.pickF C U U U U<|Rm C U U<|Rf C 4 U U runUnderlying27 U sizeOf25<|Rl C U U isAgg25 (by repeat constructor) U<|Rn C U U runUnderlying25<|Rf C 4 U U runUnderlying27 U sizeOf25<|Rl C U U isAgg25 (by repeat constructor) U<|Rn C U U runUnderlying25<|R.int C U U U U b_neq<|R.fixv (t:=48) (v':= .bool true) U (Bv (by simp;omega)) ?_;refine R.pickF C U U U U<|R.done C<|X.cond C.1 U (fun _=>?_) (fun h=>nomatch h)
      refine Xr C U U<|Ad C U U<|Xt C func81<|Hp hret ?_
      exact no fun h=>e5 (by rw [h])
    ·have _:=e4
     refine Xr C U U<|R.box C U U U U fun p2=>R.box C U U U U fun p3=>Ad C U U<|Xs C<|Xr C U U<|Rf C 0 U U runUnderlying27 U sizeOf3<|Rl C U U isAgg3 (by repeat constructor) U<|Rf C 0 U U runUnderlying27 U sizeOf3<|Rl C U U isAgg3 (by repeat constructor) U<|R.int C U U U U b_neq<|R.fixv (t:=13) (v':= .bool false) U (Bv (by simp [e1])) ?_;refine Rm C U U<|Rf C 1 U U runUnderlying27 U sizeOf22<|Rl C U U isAgg22 (by repeat constructor) U<|Rn C U U runUnderlying22<|Rf C 1 U U runUnderlying27 U sizeOf22<|Rl C U U isAgg22 (by repeat constructor) U<|Rn C U U runUnderlying22<|R.int C U U U U b_neq<|R.fixv (t:=21) (v':= .bool false) U (Bv (by simp [e2])) ?_;refine R.pickF C U U U U<|Rm C U U<|Rf C 2 U U runUnderlying27 U sizeOf23<|Rl C U U isAgg23 (by repeat constructor) U<|Rn C U U runUnderlying23<|Rf C 2 U U runUnderlying27 U sizeOf23<|Rl C U U isAgg23 (by repeat constructor) U<|Rn C U U runUnderlying23<|R.int C U U U U b_neq<|R.fixv (t:=30) (v':= .bool false) U (Bv (by simp [e3])) ?_;refine R.pickF C U U U U<|Rm C U U<|Rf C 3 U U runUnderlying27 U sizeOf24<|Rl C U U isAgg24 (by repeat constructor) U<|Rn C U U runUnderlying24<|Rf C 3 U U runUnderlying27 U sizeOf24<|Rl C U U isAgg24 (by repeat constructor) U<|Rn C U U runUnderlying24<|R.int C U U U U b_neq<|R.fixv (t:=39) (v':= .bool true) U (Bv (by simp;omega)) ?_;refine R.pickF C U U U U<|Rm C U U<|R.pass C U U<|R.pass C U U<|R.pass C U U<|R.pass C U U<|R.pass C U U<|R.pass C U U<|R.pass C U U<|R.pickT C U U U U<|R.done C<|X.cond C.1 U (fun _=>?_) (fun h=>nomatch h)
     refine Xr C U U<|Ad C U U<|Xt C func81<|Hp hret ?_
     exact no fun h=>e4 (by rw [h])
   ·have _:=e3
    refine Xr C U U<|R.box C U U U U fun p2=>R.box C U U U U fun p3=>Ad C U U<|Xs C<|Xr C U U<|Rf C 0 U U runUnderlying27 U sizeOf3<|Rl C U U isAgg3 (by repeat constructor) U<|Rf C 0 U U runUnderlying27 U sizeOf3<|Rl C U U isAgg3 (by repeat constructor) U<|R.int C U U U U b_neq<|R.fixv (t:=13) (v':= .bool false) U (Bv (by simp [e1])) ?_;refine Rm C U U<|Rf C 1 U U runUnderlying27 U sizeOf22<|Rl C U U isAgg22 (by repeat constructor) U<|Rn C U U runUnderlying22<|Rf C 1 U U runUnderlying27 U sizeOf22<|Rl C U U isAgg22 (by repeat constructor) U<|Rn C U U runUnderlying22<|R.int C U U U U b_neq<|R.fixv (t:=21) (v':= .bool false) U (Bv (by simp [e2])) ?_;refine R.pickF C U U U U<|Rm C U U<|Rf C 2 U U runUnderlying27 U sizeOf23<|Rl C U U isAgg23 (by repeat constructor) U<|Rn C U U runUnderlying23<|Rf C 2 U U runUnderlying27 U sizeOf23<|Rl C U U isAgg23 (by repeat constructor) U<|Rn C U U runUnderlying23<|R.int C U U U U b_neq<|R.fixv (t:=30) (v':= .bool true) U (Bv (by simp;omega)) ?_;refine R.pickF C U U U U<|Rm C U U<|R.pass C U U<|R.pass C U U<|R.pass C U U<|R.pass C U U<|R.pass C U U<|R.pass C U U<|R.pass C U U<|R.pickT C U U U U<|Rm C U U<|R.pass C U U<|R.pass C U U<|R.pass C U U<|R.pass C U U<|R.pass C U U<|R.pass C U U<|R.pass C U U<|R.pickT C U U U U<|R.done C<|X.cond C.1 U (fun _=>?_) (fun h=>nomatch h)
    refine Xr C U U<|Ad C U U<|Xt C func81<|Hp hret ?_
    exact no fun h=>e3 (by rw [h])
  ·have _:=e2
   refine Xr C U U<|R.box C U U U U fun p2=>R.box C U U U U fun p3=>Ad C U U<|Xs C<|Xr C U U<|Rf C 0 U U runUnderlying27 U sizeOf3<|Rl C U U isAgg3 (by repeat constructor) U<|Rf C 0 U U runUnderlying27 U sizeOf3<|Rl C U U isAgg3 (by repeat constructor) U<|R.int C U U U U b_neq<|R.fixv (t:=13) (v':= .bool false) U (Bv (by simp [e1])) ?_;refine Rm C U U<|Rf C 1 U U runUnderlying27 U sizeOf22<|Rl C U U isAgg22 (by repeat constructor) U<|Rn C U U runUnderlying22<|Rf C 1 U U runUnderlying27 U sizeOf22<|Rl C U U isAgg22 (by repeat constructor) U<|Rn C U U runUnderlying22<|R.int C U U U U b_neq<|R.fixv (t:=21) (v':= .bool true) U (Bv (by simp;omega)) ?_;refine R.pickF C U U U U<|Rm C U U<|R.pass C U U<|R.pass C U U<|R.pass C U U<|R.pass C U U<|R.pass C U U<|R.pass C U U<|R.pass C U U<|R.pickT C U U U U<|Rm C U U<|R.pass C U U<|R.pass C U U<|R.pass C U U<|R.pass C U U<|R.pass C U U<|R.pass C U U<|R.pass C U U<|R.pickT C U U U U<|Rm C U U<|R.pass C U U<|R.pass C U U<|R.pass C U U<|R.pass C U U<|R.pass C U U<|R.pass C U U<|R.pass C U U<|R.pickT C U U U U<|R.done C<|X.cond C.1 U (fun _=>?_) (fun h=>nomatch h)
   refine Xr C U U<|Ad C U U<|Xt C func81<|Hp hret ?_
   exact no fun h=>e2 (by rw [h])
 ·have _:=e1
  refine Xr C U U<|R.box C U U U U fun p2=>R.box C U U U U fun p3=>Ad C U U<|Xs C<|Xr C U U<|Rf C 0 U U runUnderlying27 U sizeOf3<|Rl C U U isAgg3 (by repeat constructor) U<|Rf C 0 U U runUnderlying27 U sizeOf3<|Rl C U U isAgg3 (by repeat constructor) U<|R.int C U U U U b_neq<|R.fixv (t:=13) (v':= .bool true) U (Bv (by simp [e1])) ?_;refine Rm C U U<|R.pass C U U<|R.pass C U U<|R.pass C U U<|R.pass C U U<|R.pass C U U<|R.pass C U U<|R.pass C U U<|R.pickT C U U U U<|Rm C U U<|R.pass C U U<|R.pass C U U<|R.pass C U U<|R.pass C U U<|R.pass C U U<|R.pass C U U<|R.pass C U U<|R.pickT C U U U U<|Rm C U U<|R.pass C U U<|R.pass C U U<|R.pass C U U<|R.pass C U U<|R.pass C U U<|R.pass C U U<|R.pass C U U<|R.pickT C U U U U<|Rm C U U<|R.pass C U U<|R.pass C U U<|R.pass C U U<|R.pass C U U<|R.pass C U U<|R.pass C U U<|R.pass C U U<|R.pickT C U U U U<|R.done C<|X.cond C.1 U (fun _=>?_) (fun h=>nomatch h)
  refine Xr C U U<|Ad C U U<|Xt C func81<|Hp hret ?_
  exact no fun h=>e1 (by rw [h])
end Go.Lg.B
namespace Go.Lg.B
open Go Go.Conc Go.Lg Go.Proofs Go.Proofs.Tryz
theorem ones_cs(xs:List Pc):ones (xs.flatMap Pc.cells)=true:=ones_flat (fun _=>rfl) xs
theorem mostR_eq{b:Bk}(hch:checkBook b=0)(hne:cases b≠ []){g:Int}(h:0≤g∧g<b.gs.length):mostR b g=(most b g,0):=by
 rw [mostR,mostH_eq (there_zero.2 h),open_zero hch hne];rfl
theorem weakR_eq{b:Bk}(hch:checkBook b=0)(hne:cases b≠ []){g n:Int}(h:0≤g∧g<b.gs.length)(hn:1≤n∧n≤99):weakR b g n=(weak b g n,0):=by
 rw [weakR,weakH_eq (there_zero.2 h) (loadH_zero.2 hn),open_zero hch hne];rfl
theorem mayR_eq{b:Bk}(hch:checkBook b=0)(hne:cases b≠ []){g k:Int}(h:0≤g∧g<b.gs.length)(hk:0≤k∧k<b.cs.length):mayR b g k=(may b g k,0):=by
 rw [mayR,mayH_eq (there_zero.2 h) (there_zero.2 hk),open_zero hch hne];rfl
theorem bearsR_eq{b:Bk}(hch:checkBook b=0)(hne:cases b≠ []){i:Int}(h:0≤i∧i<b.ps.length):bearsR b i=(bearsOf b i,0):=by
 rw [bearsR,there_zero.2 h,open_zero hch hne];rfl
theorem casesOf_eq{b:Bk}(hch:checkBook b=0):casesOf b=(((cases b).length:Int),0):=by rw [casesOf,if_neg (fun h=>h hch)]
theorem fewestR_zero{b:Bk}(hch:checkBook b=0)(hne:cases b≠ []):(fewestR b).2=0:=by rw [fewestR,open_zero hch hne];rfl
theorem renewR_zero{b:Bk}(hch:checkBook b=0)(hne:cases b≠ []):(renewR b).2=0:=by rw [renewR,open_zero hch hne];rfl
theorem shareR_zero{b:Bk}(hch:checkBook b=0)(hne:cases b≠ []):(shareR b).2=0:=by rw [shareR,open_zero hch hne];rfl
theorem bearsOf_len{b:Bk}(hb:b.good){i:Int}(h:0≤i∧i<b.ps.length):(bearsOf b i).length≤3:=by
 have hk:i.toNat<b.ps.length:=by omega
 have hp:b.part i=b.ps[i.toNat]:=by simp [Bk.part,List.getD_eq_getElem?_getD,hk]
 have hf:=hb.ps _ (List.getElem_mem hk)
 rw [←hp] at hf
 unfold Pt.fine at hf
 refine asc_len (lo:=(b.part i).r.lo) (m:=3) (numbers_asc _) fun x hx=>?_
 obtain⟨t,ht,rfl⟩:=bearsOf_mem.1 hx
 have:=bears_in h.1 h.2 (mem_cases.1 ht).1
 omega
section
theorem noLessR_c{Q:Machine→Outcome→World→Trace→Prop}{b d:Bk}{vb vd:Value}{ro:RO}(he:Env ro)(hvb:BkV ro vb b)(hvd:BkV ro vd d)(hb:checkBook b=0)(hd:checkBook d=0)(nb:cases b≠ [])(nd:cases d≠ [])(hl:NoLess b d){g n:Int}(hg:0≤g∧g<b.gs.length)(hn:1≤n∧n≤99):
  CallR prog (JM prog Q) (fnv 78) [vb,vd, .int .i64 g, .int .i64 n] ro (fun w _=>w= .bool true):=by
 have hJ:Closed prog true (JM prog Q):=JM.closed
 let main:=true
 let J:=JM prog Q
 have gb:=good_of hb
 have gd:=good_of hd
 have sb:=short_of (not_great hb)
 have sd:=short_of (not_great hd)
 have hg2:0≤g∧g<d.gs.length:=by rw [hl.gs];exact hg
 have wl1:=weak_len gb (n:=n) hg.1 hg.2
 have wl2:=weak_len gd (n:=n) hg2.1 hg2.2
 have hml:=hl.most g hg.1 hg.2
 have hin:insideL (weak d g n) (weak b g n)=true:=by
  unfold insideL;rw [List.all_eq_true];intro x hx;rw [List.contains_iff_mem];exact hl.weak g n hg.1 hg.2 x hx
 have m1:=mostR_eq hb nb hg
 have m2:=mostR_eq hd nd hg2
 have w1:=weakR_eq hb nb hg hn
 have w2:=weakR_eq hd nd hg2 hn
 have hvb0:=hvb
 have hvd0:=hvd
 obtain⟨_,_,_,_,rfl,hb1⟩:=hvb
 obtain⟨_,_,rfl⟩:=hb1.1.form
 obtain⟨_,_,rfl⟩:=hb1.2.1.form
 obtain⟨_,_,rfl⟩:=hb1.2.2.1.form
 obtain⟨_,_,rfl⟩:=hb1.2.2.2.form
 obtain⟨_,_,_,_,rfl,hd1⟩:=hvd
 obtain⟨_,_,rfl⟩:=hd1.1.form
 obtain⟨_,_,rfl⟩:=hd1.2.1.form
 obtain⟨_,_,rfl⟩:=hd1.2.2.1.form
 obtain⟨_,_,rfl⟩:=hd1.2.2.2.form
 refine CallR.intro hJ (by kernel_rfl) fun c cs tail hret=>enter_X (n:=175) func78 U U (Nl U) ?_
 have C:Ctx prog main J (bf 78 .normal):=⟨hJ,by decide⟩
 refine Xr C U U<|R.box C U U U U fun p4=>R.box C U U U U fun p5=>Ad C U U<|Xr C U U<|R5 C U U isAgg27 sizeOf27 (by repeat constructor) Tk5<|Rm C U U<|R.callR C U U U U (most_c hJ he hvb0 sb g) fun v1 ro1 hl1 hq1=>?_
 subst hq1
 rw [m1]
 refine Rm C U U<|R.ext C U U U U<|R.ext C U U U U<|R.asg C U U U<|Ad C U U<|Xr C U U<|R5 C U U isAgg27 sizeOf27 (by repeat constructor) Tk5<|Rm C U U<|R.callR C U U U U (most_c hJ (he.mono hl1) (hvd0.mono hl1) sd g) fun v2 ro2 hl2 hq2=>?_
 subst hq2
 rw [m2]
 have k2:=RO.le_trans hl1 hl2
 refine Rm C U U<|R.ext C U U U U<|R.ext C U U U U<|R.asg C U U U<|Ad C U U<|Xr C U U<|R5 C U U isAgg27 sizeOf27 (by repeat constructor) Tk5<|Rm C U U<|Rm C U U<|R.callR C U U U U (weak_c hJ (he.mono k2) (hvb0.mono k2) sb g n) fun v3 ro3 hl3 hq3=>?_
 obtain⟨y3,z3,rfl⟩:=hq3
 have k3:=RO.le_trans k2 hl3
 refine Rm C U U<|R.ext C U U U U<|R.ext C U U U U<|R.asg C U U U<|Ad C U U<|Xr C U U<|R5 C U U isAgg27 sizeOf27 (by repeat constructor) Tk5<|Rm C U U<|Rm C U U<|R.callR C U U U U (weak_c hJ (he.mono k3) (hvd0.mono k3) sd g n) fun v4 ro4 hl4 hq4=>?_
 obtain⟨y4,z4,rfl⟩:=hq4
 have k4:=RO.le_trans k3 hl4
 rw [w1] at z3⊢
 rw [w2] at z4⊢
 simp only at z3 z4
 obtain⟨_,_,rfl⟩:=z3.form
 obtain⟨_,_,rfl⟩:=z4.form
 refine Rm C U U<|R.ext C U U U U<|R.ext C U U U U<|R.asg C U U U<|Ad C U U<|Xs C<|Xr C U U<|Rm C U U<|R.int C U U U U b_neq<|R.fixv (t:=58) (v':= .bool false) U (by rfl)<|Rm C U U<|Rm C U U<|R.int C U U U U b_neq<|R.fixv (t:=61) (v':= .bool false) U (by rfl)<|R.pickF C U U U U<|Rm C U U<|Rm C U U<|R.int C U U U U b_neq<|R.fixv (t:=65) (v':= .bool false) U (by rfl)<|R.pickF C U U U U<|Rm C U U<|Rm C U U<|R.int C U U U U b_neq<|R.fixv (t:=69) (v':= .bool false) U (by rfl)<|R.pickF C U U U U<|Rm C U U<|Rm C U U<|Rm C U U<|R.int C U U U U b_lss<|R.fixv (t:=74) (v':= .bool false) U (Bv (by rw [dF];exact Int.not_lt.2 hml)) ?_;refine R.pickF C U U U U<|Rm C U U<|Rm C U U<|Rm C U U<|R.callP C U U U U (inside2R_c hJ z4 (z3.mono hl4) (by omega) (by omega))<|R.not C U U U<|R.fixv (t:=80) (v':= .bool false) U (by(rw [hin];rfl))<|R.pickF C U U U U<|R.done C<|X.cond C.1 U (fun h=>nomatch h) (fun _=>?_)
 refine X.skip C.1<|Xr C U U<|R5 C U U isAgg27 sizeOf27 (by repeat constructor) Tk5<|R.callR C U U U U ((fewestG_c (he.mono k4) (hvb0.mono k4) sb)) fun v5 ro5 hl5 hq5=>?_
 obtain⟨y5,z5,rfl⟩:=hq5
 obtain⟨_,_,rfl⟩:=z5.form
 have k5:=RO.le_trans k4 hl5
 refine Rm C U U<|R.ext C U U U U<|R.ext C U U U U<|R.ext C U U U U<|R.asg C U U U<|R.asg C U U U<|Ad C U U<|Xr C U U<|R5 C U U isAgg27 sizeOf27 (by repeat constructor) Tk5<|R.callR C U U U U ((fewestG_c (he.mono k5) (hvd0.mono k5) sd)) fun v6 ro6 hl6 hq6=>?_
 obtain⟨y6,z6,rfl⟩:=hq6
 obtain⟨_,_,rfl⟩:=z6.form
 have k6:=RO.le_trans k5 hl6
 refine Rm C U U<|R.ext C U U U U<|R.ext C U U U U<|R.ext C U U U U<|R.asg C U U U<|R.asg C U U U<|Ad C U U<|Xr C U U<|R5 C U U isAgg27 sizeOf27 (by repeat constructor) Tk5<|R.callR C U U U U ((share_c (he.mono k6) (hvb0.mono k6) sb)) fun v7 ro7 hl7 hq7=>?_
 obtain⟨y7,z7,rfl⟩:=hq7
 obtain⟨_,_,rfl⟩:=z7.form
 have k7:=RO.le_trans k6 hl7
 refine Rm C U U<|R.ext C U U U U<|R.ext C U U U U<|R.ext C U U U U<|R.asg C U U U<|R.asg C U U U<|Ad C U U<|Xr C U U<|R5 C U U isAgg27 sizeOf27 (by repeat constructor) Tk5<|R.callR C U U U U ((share_c (he.mono k7) (hvd0.mono k7) sd)) fun v8 ro8 hl8 hq8=>?_
 obtain⟨y8,z8,rfl⟩:=hq8
 obtain⟨_,_,rfl⟩:=z8.form
 have k8:=RO.le_trans k7 hl8
 refine Rm C U U<|R.ext C U U U U<|R.ext C U U U U<|R.ext C U U U U<|R.asg C U U U<|R.asg C U U U<|Ad C U U<|Xr C U U<|R5 C U U isAgg27 sizeOf27 (by repeat constructor) Tk5<|R.callR C U U U U ((renew_c (he.mono k8) (hvb0.mono k8) sb)) fun v9 ro9 hl9 hq9=>?_
 obtain⟨y9,z9,rfl⟩:=hq9
 obtain⟨_,_,rfl⟩:=z9.form
 have k9:=RO.le_trans k8 hl9
 refine Rm C U U<|R.ext C U U U U<|R.ext C U U U U<|R.ext C U U U U<|R.asg C U U U<|R.asg C U U U<|Ad C U U<|Xr C U U<|R5 C U U isAgg27 sizeOf27 (by repeat constructor) Tk5<|R.callR C U U U U ((renew_c (he.mono k9) (hvd0.mono k9) sd)) fun v10 ro10 hl10 hq10=>?_
 obtain⟨y10,z10,rfl⟩:=hq10
 obtain⟨_,_,rfl⟩:=z10.form
 have k10:=RO.le_trans k9 hl10
 have f1:=hl.fewest hb hd nb nd
 have f2:=hl.share hb hd nb nd
 have f3:=hl.renew hb hd nb nd
 rw [fewestR_zero hb nb,fewestR_zero hd nd,shareR_zero hb nb,shareR_zero hd nd,renewR_zero hb nb,renewR_zero hd nd]
 generalize(fewestR b).1=fb at f1⊢
 generalize(fewestR d).1=fd at f1⊢
 generalize(shareR b).1=hb' at f2⊢
 generalize(shareR d).1=hd' at f2⊢
 generalize(renewR b).1=rb at f3⊢
 generalize(renewR d).1=rd at f3⊢
 refine Rm C U U<|R.ext C U U U U<|R.ext C U U U U<|R.ext C U U U U<|R.asg C U U U<|R.asg C U U U<|Ad C U U<|Xr C U U<|Rm C U U<|R.int C U U U U b_eql<|R.fixv (t:=119) (v':= .bool true) U (by rfl)<|Rm C U U<|Rm C U U<|R.int C U U U U b_eql<|R.fixv (t:=122) (v':= .bool true) U (by rfl)<|R.pickT C U U U U<|Rm C U U<|Rm C U U<|R.int C U U U U b_eql<|R.fixv (t:=126) (v':= .bool true) U (by rfl)<|R.pickT C U U U U<|Rm C U U<|Rm C U U<|R.int C U U U U b_eql<|R.fixv (t:=130) (v':= .bool true) U (by rfl)<|R.pickT C U U U U<|Rm C U U<|Rm C U U<|R.int C U U U U b_eql<|R.fixv (t:=134) (v':= .bool true) U (by rfl)<|R.pickT C U U U U<|Rm C U U<|Rm C U U<|R.int C U U U U b_eql<|R.fixv (t:=138) (v':= .bool true) U (by rfl)<|R.pickT C U U U U<|Rm C U U<|Rm C U U<|R.not C U U U<|Rm C U U ?_;refine R.fix (t:=143) U (fun g1=>?_) (fun g1=>?_)
 ·refine R.pass C U U<|R.pass C U U<|R.pass C U U<|R.pass C U U<|R.pass C U U<|R.pass C U U<|R.pass C U U<|R.pass C U U<|R.pickT C U U U U<|R.pickT C U U U U<|Rm C U U<|Rm C U U<|R.not C U U U<|Rm C U U<|R.fix (t:=157) U (fun g2=>?_) (fun g2=>?_)
  ·refine R.pass C U U<|R.pickT C U U U U<|R.pickT C U U U U<|Rm C U U<|Rm C U U<|R.not C U U U<|Rm C U U<|R.fix (t:=164) U (fun g3=>?_) (fun g3=>?_)
   ·refine R.pass C U U<|R.pass C U U<|R.pass C U U<|R.pass C U U<|R.pass C U U<|R.pass C U U<|R.pass C U U<|R.pass C U U<|R.pickT C U U U U<|R.pickT C U U U U<|Ad C U U<|Xt C func78<|Hr hret k10 ?_
    rfl
   ·have q3:=f3 (by simpa using g3)
    refine Rm C U U<|R.fixv (t:=165) (v':= .bool true) U (by(rw [q3.1]))<|Rm C U U<|Rm C U U<|Rn C U U runUnderlying28<|Rm C U U<|Rn C U U runUnderlying28<|R.int C U U U U b_leq<|R.fixv (t:=171) (v':= .bool true) U (Bv (by rw [decide_eq_true_iff];have:=q3.2;omega)) ?_;refine R.pickT C U U U U<|R.pickF C U U U U<|R.pickT C U U U U<|Ad C U U<|Xt C func78<|Hr hret k10 ?_
    rfl
  ·have q2:=f2 (by simpa using g2)
   refine Rm C U U<|R.fixv (t:=158) (v':= .bool true) U (by(rw [q2]))<|R.pickF C U U U U<|R.pickT C U U U U<|Rm C U U<|Rm C U U<|R.not C U U U<|Rm C U U<|R.fix (t:=164) U (fun g3=>?_) (fun g3=>?_)
   ·refine R.pass C U U<|R.pass C U U<|R.pass C U U<|R.pass C U U<|R.pass C U U<|R.pass C U U<|R.pass C U U<|R.pass C U U<|R.pickT C U U U U<|R.pickT C U U U U<|Ad C U U<|Xt C func78<|Hr hret k10 ?_
    rfl
   ·have q3:=f3 (by simpa using g3)
    refine Rm C U U<|R.fixv (t:=165) (v':= .bool true) U (by(rw [q3.1]))<|Rm C U U<|Rm C U U<|Rn C U U runUnderlying28<|Rm C U U<|Rn C U U runUnderlying28<|R.int C U U U U b_leq<|R.fixv (t:=171) (v':= .bool true) U (Bv (by rw [decide_eq_true_iff];have:=q3.2;omega)) ?_;refine R.pickT C U U U U<|R.pickF C U U U U<|R.pickT C U U U U<|Ad C U U<|Xt C func78<|Hr hret k10 ?_
    rfl
 ·have q1:=f1 (by simpa using g1)
  refine Rm C U U<|R.fixv (t:=144) (v':= .bool true) U (by(rw [q1.1]))<|Rm C U U<|Rm C U U<|Rn C U U runUnderlying28<|Rm C U U<|Rn C U U runUnderlying28<|R.int C U U U U b_leq<|R.fixv (t:=150) (v':= .bool true) U (Bv (by rw [decide_eq_true_iff];have:=q1.2;omega)) ?_;refine R.pickT C U U U U<|R.pickF C U U U U<|R.pickT C U U U U<|Rm C U U<|Rm C U U<|R.not C U U U<|Rm C U U<|R.fix (t:=157) U (fun g2=>?_) (fun g2=>?_)
  ·refine R.pass C U U<|R.pickT C U U U U<|R.pickT C U U U U<|Rm C U U<|Rm C U U<|R.not C U U U<|Rm C U U<|R.fix (t:=164) U (fun g3=>?_) (fun g3=>?_)
   ·refine R.pass C U U<|R.pass C U U<|R.pass C U U<|R.pass C U U<|R.pass C U U<|R.pass C U U<|R.pass C U U<|R.pass C U U<|R.pickT C U U U U<|R.pickT C U U U U<|Ad C U U<|Xt C func78<|Hr hret k10 ?_
    rfl
   ·have q3:=f3 (by simpa using g3)
    refine Rm C U U<|R.fixv (t:=165) (v':= .bool true) U (by(rw [q3.1]))<|Rm C U U<|Rm C U U<|Rn C U U runUnderlying28<|Rm C U U<|Rn C U U runUnderlying28<|R.int C U U U U b_leq<|R.fixv (t:=171) (v':= .bool true) U (Bv (by rw [decide_eq_true_iff];have:=q3.2;omega)) ?_;refine R.pickT C U U U U<|R.pickF C U U U U<|R.pickT C U U U U<|Ad C U U<|Xt C func78<|Hr hret k10 ?_
    rfl
  ·have q2:=f2 (by simpa using g2)
   refine Rm C U U<|R.fixv (t:=158) (v':= .bool true) U (by(rw [q2]))<|R.pickF C U U U U<|R.pickT C U U U U<|Rm C U U<|Rm C U U<|R.not C U U U<|Rm C U U<|R.fix (t:=164) U (fun g3=>?_) (fun g3=>?_)
   ·refine R.pass C U U<|R.pass C U U<|R.pass C U U<|R.pass C U U<|R.pass C U U<|R.pass C U U<|R.pass C U U<|R.pass C U U<|R.pickT C U U U U<|R.pickT C U U U U<|Ad C U U<|Xt C func78<|Hr hret k10 ?_
    rfl
   ·have q3:=f3 (by simpa using g3)
    refine Rm C U U<|R.fixv (t:=165) (v':= .bool true) U (by(rw [q3.1]))<|Rm C U U<|Rm C U U<|Rn C U U runUnderlying28<|Rm C U U<|Rn C U U runUnderlying28<|R.int C U U U U b_leq<|R.fixv (t:=171) (v':= .bool true) U (Bv (by rw [decide_eq_true_iff];have:=q3.2;omega)) ?_;refine R.pickT C U U U U<|R.pickF C U U U U<|R.pickT C U U U U<|Ad C U U<|Xt C func78<|Hr hret k10 ?_
    rfl
theorem betterR_c{Q:Machine→Outcome→World→Trace→Prop}{b d:Bk}{vb vd:Value}{ro:RO}(he:Env ro)(hvb:BkV ro vb b)(hvd:BkV ro vd d)(hb:checkBook b=0)(hd:checkBook d=0)(nd:cases d≠ [])(hl:Fewer b d){i g k n:Int}(hi:0≤i∧i<b.ps.length)(hg:0≤g∧g<b.gs.length)(hk:0≤k∧k<b.cs.length)(hn:1≤n∧n≤99):
  CallR prog (JM prog Q) (fnv 91) [vb,vd, .int .i64 i, .int .i64 g, .int .i64 k, .int .i64 n] ro (fun w _=>w= .bool true):=by
 have hJ:Closed prog true (JM prog Q):=JM.closed
 let main:=true
 let J:=JM prog Q
 have gb:=good_of hb
 have gd:=good_of hd
 have sb:=short_of (not_great hb)
 have sd:=short_of (not_great hd)
 have nb:cases b≠ []:=fun e=>by have:=hl.cases;rw [e] at this;exact nd (List.sublist_nil.1 this)
 have hno:=hl.noLess gb gd
 have hg2:0≤g∧g<d.gs.length:=by rw [hl.gs];exact hg
 have hi2:0≤i∧i<d.ps.length:=by rw [hl.np];exact hi
 have hk2:0≤k∧k<d.cs.length:=by rw [hl.nc];exact hk
 have bl1:=bearsOf_len gb hi
 have bl2:=bearsOf_len gd hi2
 have hlen:=hl.cases.length_le
 have hpos:=List.length_pos_iff.2 nd
 have hin:=hl.bears i
 have hmy:may b g k≠0→may d g k=may b g k:=hl.may nd
 have c1:=casesOf_eq hb
 have c2:=casesOf_eq hd
 have r1:=bearsR_eq hb nb hi
 have r2:=bearsR_eq hd nd hi2
 have m1:=mayR_eq hb nb hg hk
 have m2:=mayR_eq hd nd hg2 hk2
 have hvb0:=hvb
 have hvd0:=hvd
 obtain⟨_,_,_,_,rfl,hb1⟩:=hvb
 obtain⟨_,_,rfl⟩:=hb1.1.form
 obtain⟨_,_,rfl⟩:=hb1.2.1.form
 obtain⟨_,_,rfl⟩:=hb1.2.2.1.form
 obtain⟨_,_,rfl⟩:=hb1.2.2.2.form
 obtain⟨_,_,_,_,rfl,hd1⟩:=hvd
 obtain⟨_,_,rfl⟩:=hd1.1.form
 obtain⟨_,_,rfl⟩:=hd1.2.1.form
 obtain⟨_,_,rfl⟩:=hd1.2.2.1.form
 obtain⟨_,_,rfl⟩:=hd1.2.2.2.form
 refine CallR.intro hJ (by kernel_rfl) fun c cs tail hret=>enter_X (n:=109) func91 U U (Nl U) ?_
 have C:Ctx prog main J (bf 91 .normal):=⟨hJ,by decide⟩
 refine Xr C U U<|R.box C U U U U fun p6=>R.box C U U U U fun p7=>Ad C U U<|Xr C U U<|R5 C U U isAgg27 sizeOf27 (by repeat constructor) Tk5<|R.callR C U U U U (casesN_c hJ he hvb0 sb) fun v1 ro1 hl1 hq1=>?_
 subst hq1
 rw [c1]
 refine Rm C U U<|R.ext C U U U U<|R.ext C U U U U<|R.asg C U U U<|Ad C U U<|Xr C U U<|R5 C U U isAgg27 sizeOf27 (by repeat constructor) Tk5<|R.callR C U U U U (casesN_c hJ (he.mono hl1) (hvd0.mono hl1) sd) fun v2 ro2 hl2 hq2=>?_
 subst hq2
 rw [c2]
 have k2:=RO.le_trans hl1 hl2
 refine Rm C U U<|R.ext C U U U U<|R.ext C U U U U<|R.asg C U U U<|Ad C U U<|Xr C U U<|R5 C U U isAgg27 sizeOf27 (by repeat constructor) Tk5<|Rm C U U<|R.callR C U U U U (bears_c hJ (he.mono k2) (hvb0.mono k2) sb i) fun v3 ro3 hl3 hq3=>?_
 obtain⟨y3,z3,rfl⟩:=hq3
 have k3:=RO.le_trans k2 hl3
 refine Rm C U U<|R.ext C U U U U<|R.ext C U U U U<|R.asg C U U U<|Ad C U U<|Xr C U U<|R5 C U U isAgg27 sizeOf27 (by repeat constructor) Tk5<|Rm C U U<|R.callR C U U U U (bears_c hJ (he.mono k3) (hvd0.mono k3) sd i) fun v4 ro4 hl4 hq4=>?_
 obtain⟨y4,z4,rfl⟩:=hq4
 have k4:=RO.le_trans k3 hl4
 rw [r1] at z3⊢
 rw [r2] at z4⊢
 simp only at z3 z4
 obtain⟨_,_,rfl⟩:=z3.form
 obtain⟨_,_,rfl⟩:=z4.form
 refine Rm C U U<|R.ext C U U U U<|R.ext C U U U U<|R.asg C U U U<|Ad C U U<|Xr C U U<|R5 C U U isAgg27 sizeOf27 (by repeat constructor) Tk5<|Rm C U U<|Rm C U U<|R.callR C U U U U (may_c hJ (he.mono k4) (hvb0.mono k4) sb g k) fun v5 ro5 hl5 hq5=>?_
 subst hq5
 rw [m1]
 have k5:=RO.le_trans k4 hl5
 refine Rm C U U<|R.ext C U U U U<|R.ext C U U U U<|R.asg C U U U<|Ad C U U<|Xr C U U<|R5 C U U isAgg27 sizeOf27 (by repeat constructor) Tk5<|Rm C U U<|Rm C U U<|R.callR C U U U U (may_c hJ (he.mono k5) (hvd0.mono k5) sd g k) fun v6 ro6 hl6 hq6=>?_
 subst hq6
 rw [m2]
 have k6:=RO.le_trans k5 hl6
 generalize may b g k=ub at hmy⊢
 generalize may d g k=ud at hmy⊢
 by_cases hu:ub=0
 ·have _:=hu
  refine Rm C U U<|R.ext C U U U U<|R.ext C U U U U<|R.asg C U U U<|Ad C U U<|Xs C<|Xr C U U<|Rm C U U<|R.int C U U U U b_neq<|R.fixv (t:=62) (v':= .bool false) U (by rfl)<|Rm C U U<|Rm C U U<|R.int C U U U U b_neq<|R.fixv (t:=65) (v':= .bool false) U (by rfl)<|R.pickF C U U U U<|Rm C U U<|Rm C U U<|R.int C U U U U b_neq<|R.fixv (t:=69) (v':= .bool false) U (by rfl)<|R.pickF C U U U U<|Rm C U U<|Rm C U U<|R.int C U U U U b_neq<|R.fixv (t:=73) (v':= .bool false) U (by rfl)<|R.pickF C U U U U<|Rm C U U<|Rm C U U<|R.int C U U U U b_neq<|R.fixv (t:=77) (v':= .bool false) U (by rfl)<|R.pickF C U U U U<|Rm C U U<|Rm C U U<|R.int C U U U U b_neq<|R.fixv (t:=81) (v':= .bool false) U (by rfl)<|R.pickF C U U U U<|Rm C U U<|Rm C U U<|Rm C U U<|R.callP C U U U U (betweenR_c hJ _ _ _ _)<|R.fixv (t:=86) (v':= .bool true) U (Bv (by rw [between_iff];omega)) ?_;refine R.not C U U U<|R.fixv (t:=87) (v':= .bool false) U U<|R.fixv (t:=87) (v':= .bool false) U (by rfl)<|R.pickF C U U U U<|Rm C U U<|Rm C U U<|Rm C U U<|R.callP C U U U U (inside2R_c hJ (z4.mono (RO.le_trans hl5 hl6)) (z3.mono (RO.le_trans hl4 (RO.le_trans hl5 hl6))) (by omega) (by omega))<|R.not C U U U<|R.fixv (t:=93) (v':= .bool false) U (by(rw [hin];rfl))<|R.pickF C U U U U<|Rm C U U<|Rm C U U<|R.int C U U U U b_neq<|R.fixv (t:=97) (v':= .bool false) U (Bv (by simp [hu])) ?_;refine Rm C U U<|R.pass C U U<|R.pass C U U<|R.pass C U U<|R.pickF C U U U U<|R.pickF C U U U U<|R.done C<|X.cond C.1 U (fun h=>nomatch h) (fun _=>?_)
  refine X.skip C.1<|Xr C U U<|R5 C U U isAgg27 sizeOf27 (by repeat constructor) Tk5<|R5 C U U isAgg27 sizeOf27 (by repeat constructor) Tk5<|Rm C U U<|Rm C U U<|R.callR C U U U U (noLessR_c (he.mono k6) (hvb0.mono k6) (hvd0.mono k6) hb hd nb nd hno hg hn) fun v9 ro9 hl9 hq9=>Ad C U U<|Xt C func91<|Hr hret (RO.le_trans k6 hl9) ?_
  exact hq9
 ·have hud:=hmy hu
  refine Rm C U U<|R.ext C U U U U<|R.ext C U U U U<|R.asg C U U U<|Ad C U U<|Xs C<|Xr C U U<|Rm C U U<|R.int C U U U U b_neq<|R.fixv (t:=62) (v':= .bool false) U (by rfl)<|Rm C U U<|Rm C U U<|R.int C U U U U b_neq<|R.fixv (t:=65) (v':= .bool false) U (by rfl)<|R.pickF C U U U U<|Rm C U U<|Rm C U U<|R.int C U U U U b_neq<|R.fixv (t:=69) (v':= .bool false) U (by rfl)<|R.pickF C U U U U<|Rm C U U<|Rm C U U<|R.int C U U U U b_neq<|R.fixv (t:=73) (v':= .bool false) U (by rfl)<|R.pickF C U U U U<|Rm C U U<|Rm C U U<|R.int C U U U U b_neq<|R.fixv (t:=77) (v':= .bool false) U (by rfl)<|R.pickF C U U U U<|Rm C U U<|Rm C U U<|R.int C U U U U b_neq<|R.fixv (t:=81) (v':= .bool false) U (by rfl)<|R.pickF C U U U U<|Rm C U U<|Rm C U U<|Rm C U U<|R.callP C U U U U (betweenR_c hJ _ _ _ _)<|R.fixv (t:=86) (v':= .bool true) U (Bv (by rw [between_iff];omega)) ?_;refine R.not C U U U<|R.fixv (t:=87) (v':= .bool false) U U<|R.fixv (t:=87) (v':= .bool false) U (by rfl)<|R.pickF C U U U U<|Rm C U U<|Rm C U U<|Rm C U U<|R.callP C U U U U (inside2R_c hJ (z4.mono (RO.le_trans hl5 hl6)) (z3.mono (RO.le_trans hl4 (RO.le_trans hl5 hl6))) (by omega) (by omega))<|R.not C U U U<|R.fixv (t:=93) (v':= .bool false) U (by(rw [hin];rfl))<|R.pickF C U U U U<|Rm C U U<|Rm C U U<|R.int C U U U U b_neq<|R.fixv (t:=97) (v':= .bool true) U (Bv (by simp [hu])) ?_;refine Rm C U U<|Rm C U U<|Rm C U U<|R.int C U U U U b_neq<|R.fixv (t:=101) (v':= .bool false) U (Bv (by simp [hud])) ?_;refine R.pickT C U U U U<|R.pickF C U U U U<|R.done C<|X.cond C.1 U (fun h=>nomatch h) (fun _=>?_)
  refine X.skip C.1<|Xr C U U<|R5 C U U isAgg27 sizeOf27 (by repeat constructor) Tk5<|R5 C U U isAgg27 sizeOf27 (by repeat constructor) Tk5<|Rm C U U<|Rm C U U<|R.callR C U U U U (noLessR_c (he.mono k6) (hvb0.mono k6) (hvd0.mono k6) hb hd nb nd hno hg hn) fun v9 ro9 hl9 hq9=>Ad C U U<|Xt C func91<|Hr hret (RO.le_trans k6 hl9) ?_
  exact hq9
end
section
variable {main:Bool}{J:Goroutine→Mem→Prop}(hJ:Closed prog main J)
include hJ
theorem overlapR_c(x y:Rc)(ro:RO):CallP prog J (fnv 92) [x.val,y.val] ro (x.meet y).val:=by
 refine CallP.intro hJ (by kernel_rfl) fun c cs tail hret=>enter_X (n:=16) func92 U U (Nl U) ?_
 have C:Ctx prog main J (bf 92 .normal):=⟨hJ,by decide⟩
 refine Xr C U U<|R.box C U U U U fun p2=>R.box C U U U U fun p3=>R.alloc C U U zeroValue65 U fun p4=>R.done C<|Xr C U U<|Rf C 0 U U runUnderlying65 U sizeOf3<|Rl C U U isAgg3 (by repeat constructor) U<|Rf C 0 U U runUnderlying65 U sizeOf3<|Rl C U U isAgg3 (by repeat constructor) U<|R.max2 C U U U U<|Rf C 1 U U runUnderlying65 U sizeOf3<|Rl C U U isAgg3 (by repeat constructor) U<|Rf C 1 U U runUnderlying65 U sizeOf3<|Rl C U U isAgg3 (by repeat constructor) U<|R.min2 C U U U U ?_;refine R.build C U U U zeroValue65 U runUnderlying65 (by kernel_rfl) (Fills.part U U sizeOf3 U (.here .nil) (Fills.part U U sizeOf3 U (.skip (.here .nil)) .nil))<|R.store C U U U U sizeOf65 U U U (by repeat constructor) Ph2<|R.done C<|X.ret C U U func92 U (by exact(.agg U isAgg65 sizeOf65 (by repeat constructor) Tk2 .nil))<|Hp hret ?_
 rfl
theorem weighedR_c{b:Bk}{v:Value}{ro:RO}(hv:BkV ro v b)(hn:b.cs.length≤1000){i:Int}(hi:0≤i∧i<b.cs.length)(r:Rc):CallR prog J (fnv 77) [v, .int .i64 i,r.val] ro (fun w ro'=>BkV ro' w (b.weighed i.toNat r)):=by
 obtain⟨vp,vg,vc,vt,rfl,hv⟩:=hv
 obtain⟨pb,pcap,rfl⟩:=hv.1.form
 obtain⟨gb,gcap,rfl⟩:=hv.2.1.form
 obtain⟨cb,ccap,rfl⟩:=hv.2.2.1.form
 obtain⟨tb,tcap,rfl⟩:=hv.2.2.2.form
 have hil:i.toNat<b.cs.length:=by omega
 have hfl:=flatMap_len Pc.len b.cs
 refine CallR.intro hJ (by kernel_rfl) fun c cs tail hret=>enter_X (n:=19) func77 U U (Nl U) ?_
 have C:Ctx prog main J (bf 77 .normal):=⟨hJ,by decide⟩
 refine Xr C U U<|R.box C U U U U fun p3=>R.box C U U U U fun p5=>R.alloc C U U zeroValue27 U fun p6=>R.done C<|Xr C U U<|R.buildSlice C (vs:=_) U U (show pvals _ _=some (numbered 0 []) from rfl) U runUnderlying24 sizeOf79 zeroValue79 (by decide) (.nil) fun p7=>Rf C 3 U U runUnderlying27 U sizeOf24<|Rl C U U isAgg24 (by repeat constructor) U<|R.append (kk:=3) C U U U U runUnderlying24 runUnderlying24 (fun _=>nofun) (show prog.info? 79=some Tryz.t79 by kernel_rfl) U U U (by decide) (by decide) (Buf.blk (cells:= []) (spare:= []) (len:=0) (cap:=0) U U (Nat.le_refl _)) (hv.2.2.1.rd Pc.len) (ones_cs b.cs) (by simp only [List.length_nil];omega) fun v' own' hb'=>Rf C 3 U U runUnderlying27 U sizeOf24 ?_
 obtain⟨own1,rfl,hb1⟩:=hb'.unapp (tail:= [])
 rw [List.nil_append] at hb1
 obtain⟨p9,cap9,sp9,rfl,hcap9,rfl⟩:=blk_of Pc.len (by decide) hb1 (by intro h;rw [h] at hil;exact absurd hil (Nat.not_lt_zero _))
 refine R.store C U U U U sizeOf24 U U U (by repeat constructor) (.skip (.skip (.skip (.here .nil)))) ?_
 have hmf:=modify_flat (enc:=Pc.cells) (k:=3) Pc.len (fun p=>{p with r:=r}) b.cs i.toNat sp9 1 [.int .i64 r.lo, .int .i64 r.hi] hil (fun x _=> .skip Ph2)
 have hml:(b.cs.modify i.toNat fun p=>{p with r:=r}).length=b.cs.length:=by simp
 have eo:0+i.toNat*3+1=i.toNat*3+1:=by omega
 rw [←eo] at hmf
 refine R.done C<|Xr C U U<|Rf C 3 U U runUnderlying27 U sizeOf24<|Rl C U U isAgg24 (by repeat constructor) U<|Rm C U U<|R5 C U U isAgg65 sizeOf65 (by repeat constructor) Tk2<|Rx C U U U runUnderlying24 sizeOf79<|R.fieldAddr C U U U runUnderlying79 U sizeOf65 U<|R.store C U U U U sizeOf65 U U U (by repeat constructor) hmf<|R.done C<|Xs C<|X.persist C.1 fun ro4 hl4 h9=>?_
 have hls:Ls Pc.cells 3 ro4 (.slice (some ⟨p9,0,none⟩) b.cs.length cap9) (b.cs.modify i.toNat fun p=>{p with r:=r}):=⟨_,_,by rw [hml], .inr ⟨p9,0,_,_,_,rfl,h9,by rw [←flatMap_len Pc.len];exact Sub.front _ _⟩⟩
 have hv4:=hv.mono hl4
 refine X.region C U U<|R5 C U U isAgg27 sizeOf27 (by repeat constructor) Tk5<|R.store C U U U U sizeOf27 U U U (by repeat constructor) Ph5<|R.done C<|X.ret C U U func77 U (by exact(.agg U isAgg27 sizeOf27 (by repeat constructor) Tk5 .nil))<|Hr hret hl4 ?_
 exact⟨_,_,_,_,rfl,hv4.1,hv4.2.1,hls,hv4.2.2.2⟩
end
end Go.Lg.B
namespace Go.Lg.B
open Go Go.Conc Go.Lg Go.Proofs Go.Proofs.Tryz
def nothing:Bk:=⟨0, [], [], [], []⟩
def newB(b:Bk)(h:Int):Bk:=if h=0 then b else nothing
theorem noBk_v(ro:RO):BkV ro noBk nothing:=⟨_,_,_,_,rfl, .nil,⟨[], .nil,rfl,fun z hz=>by cases hz⟩, .nil, .nil⟩
theorem NewV.bk{ro:RO}{b:Bk}{h:Int}{w:Value}(hn:NewV ro b h w):∃v,BkV ro v (newB b h)∧w= .tuple [v, .int .i64 h].toArray:=by
 rcases hn with⟨h0,rfl⟩|⟨rfl,v,hv,rfl⟩
 ·exact⟨_,by rw [newB,if_neg h0];exact noBk_v ro,rfl⟩
 ·exact⟨v,hv,rfl⟩
theorem tiny_of{b:Bk}(hb:b.good):b.tiny:=
 ⟨by have:=hb.np;omega,⟨by have:=hb.ng;omega,fun g hg=>by
  obtain⟨_,h1,h2⟩:=hb.gs g hg
  have:=nodup_len h2 h1
  have:=hb.np;omega⟩,by have:=hb.nc;omega,by have:=hb.nt;omega⟩
theorem tiny_nothing:nothing.tiny:=⟨by decide,⟨by decide,fun g hg=>by cases hg⟩,by decide,by decide⟩
theorem try_law{b:Bk}(hch:checkBook b=0)(t:Ts):tryH b t≠0∨(tryH b t=0∧checkBook (b.tried t)=0∧cases (b.tried t)≠ []∧Fewer b (b.tried t)):=by
 by_cases h:tryH b t=0
 ·refine .inr ⟨h, ?_⟩
  rw [tryH,if_neg (fun e=>e hch)] at h
  obtain⟨_,_,ne,ch⟩:=openH_good h
  exact⟨ch,ne,⟨rfl,rfl,rfl,rfl,fun _=>rfl,by rw [cases_tried];exact List.filter_sublist⟩⟩
 ·exact .inl h
theorem openH_or{b:Bk}(hch:checkBook b=0):openH b 0=9∨(openH b 0=0∧cases b≠ []):=by
 by_cases h:cases b= []
 ·exact .inl (open_nine hch h)
 ·exact .inr ⟨open_zero hch h,h⟩
theorem knownH_or{r y:Rc}{l:Int}(hr:l≤r.lo∧r.lo≤r.hi∧r.hi≤99∧r.hi-r.lo<3):knownH r y l=1∨knownH r y l=9∨(knownH r y l=0∧isNarrow (r.meet y) l=true):=by
 unfold knownH
 split
 ·exact .inl rfl
 ·split
  ·exact .inr (.inl rfl)
  ·rename_i h1 h2
   refine .inr (.inr ⟨rfl,isNarrow_iff.2 ?_⟩)
   simp only [Rc.meet] at h2⊢
   omega
theorem part_fine{b:Bk}(hb:b.good){i:Int}(h:0≤i∧i<b.ps.length):(b.part i).fine:=by
 have hk:i.toNat<b.ps.length:=by omega
 have hp:b.part i=b.ps[i.toNat]:=by simp [Bk.part,List.getD_eq_getElem?_getD,hk]
 rw [hp];exact hb.ps _ (List.getElem_mem hk)
theorem piece_fine{b:Bk}(hb:b.good){i:Int}(h:0≤i∧i<b.cs.length):(b.piece i).fine:=by
 have hk:i.toNat<b.cs.length:=by omega
 have hp:b.piece i=b.cs[i.toNat]:=by simp [Bk.piece,List.getD_eq_getElem?_getD,hk]
 rw [hp];exact hb.cs _ (List.getElem_mem hk)
theorem fewer_borne{b:Bk}{i:Int}(h:0≤i∧i<b.ps.length)(y:Rc):Fewer b (b.borne i.toNat ((b.part i).r.meet y)):=
 ⟨rfl,rfl,rfl,List.length_modify ..,borne_sheaves b _ _,by rw [cases_borne h.1 h.2];exact List.filter_sublist⟩
theorem fewer_weighed{b:Bk}{i:Int}(h:0≤i∧i<b.cs.length)(y:Rc):Fewer b (b.weighed i.toNat ((b.piece i).r.meet y)):=
 ⟨rfl,rfl,List.length_modify ..,rfl,fun _=>rfl,by rw [cases_weighed h.1 h.2];exact List.filter_sublist⟩
theorem know_law{b:Bk}(hch:checkBook b=0){i:Int}(hi:0≤i∧i<b.ps.length)(y:Rc):(knowH b i y=1∨knowH b i y=9)∨(knowH b i y=0∧checkBook (b.borne i.toNat ((b.part i).r.meet y))=0∧cases (b.borne i.toNat ((b.part i).r.meet y))≠ []):=by
 have hf:=part_fine (good_of hch) hi
 unfold Pt.fine at hf
 have e:knowH b i y=if knownH (b.part i).r y 0≠0 then knownH (b.part i).r y 0 else openH (b.borne i.toNat ((b.part i).r.meet y)) 0:=by
  rw [knowH,if_neg (fun h=>h hch),if_neg (fun h=>h (there_zero.2 hi))]
 rw [e]
 rcases knownH_or (y:=y) hf.2 with h|h|⟨h,hn⟩
 ·exact .inl (.inl (by rw [h];rfl))
 ·exact .inl (.inr (by rw [h];rfl))
 ·have hc:=check_borne hch i.toNat hn
  rw [if_neg (fun e=>e h)]
  rcases openH_or hc with h9|⟨h0,hne⟩
  ·exact .inl (.inr h9)
  ·exact .inr ⟨h0,hc,hne⟩
theorem weigh_law{b:Bk}(hch:checkBook b=0){i:Int}(hi:0≤i∧i<b.cs.length)(y:Rc):(weighH b i y=1∨weighH b i y=9)∨(weighH b i y=0∧checkBook (b.weighed i.toNat ((b.piece i).r.meet y))=0∧cases (b.weighed i.toNat ((b.piece i).r.meet y))≠ []):=by
 have hf:=piece_fine (good_of hch) hi
 unfold Pc.fine at hf
 have e:weighH b i y=if knownH (b.piece i).r y 1≠0 then knownH (b.piece i).r y 1 else openH (b.weighed i.toNat ((b.piece i).r.meet y)) 0:=by
  rw [weighH,if_neg (fun h=>h hch),if_neg (fun h=>h (there_zero.2 hi))]
 rw [e]
 rcases knownH_or (y:=y) hf with h|h|⟨h,hn⟩
 ·exact .inl (.inl (by rw [h];rfl))
 ·exact .inl (.inr (by rw [h];rfl))
 ·have hc:=check_weighed hch i.toNat hn
  rw [if_neg (fun e=>e h)]
  rcases openH_or hc with h9|⟨h0,hne⟩
  ·exact .inl (.inr h9)
  ·exact .inr ⟨h0,hc,hne⟩
theorem sub_part{off n m k:Nat}{l c:List Value}(h:Sub off (n+1) l c)(hk:k+m≤n+1)(hc:c.length=n+1):Sub (off+k) m l ((c.drop k).take m):=by
 have h1:=h.get n (by omega)
 rw [List.getElem?_eq_getElem (show n<c.length by omega)] at h1
 have h2:=(List.getElem?_eq_some_iff.1 h1).1
 refine Sub.of_get (by omega) (by rw [List.length_take,List.length_drop];omega) fun i hi=>?_
 rw [Nat.add_assoc,h.get (k+i) (by omega),List.getElem?_take,if_pos hi,List.getElem?_drop]
theorem learnt_root{b:Bk}{vb:Value}{t:Ts}{x y:Rc}{i0 g0 k0 n0:Int}(hi0:0≤i0∧i0≤255)(hg0:0≤g0∧g0≤255)(hk0:0≤k0∧k0≤255)(hn0:0≤n0∧n0≤255){ro:RO}(he:Env ro)(hv:BkV ro vb b):
  Root prog 19 [vb,t.val,x.val,y.val, .int .u8 i0, .int .u8 g0, .int .u8 k0, .int .u8 n0] ro (fun w _=>w= .bool true):=by
 intro Post hret
 have hJ:Closed prog true (JM prog (Go.Conc.Good prog Post)):=JM.closed
 have hvv:=hv
 obtain⟨vp,vg,vc,vt,rfl,hp,hg,hc,ht⟩:=hv
 obtain⟨pb,pc,rfl⟩:=hp.form
 obtain⟨gb,gc,rfl⟩:=hg.form
 obtain⟨cb,cc,rfl⟩:=hc.form
 obtain⟨tb,tc,rfl⟩:=ht.form
 let main:=true
 let J:=JM prog (Go.Conc.Good prog Post)
 refine enter_X (n:=199) func19 U U (Nl U) ?_
 have C:Ctx prog main J (bf 19 .normal):=⟨hJ,by decide⟩
 refine Xr C U U<|R.box C U U U U fun p8=>R.box C U U U U fun p9=>R.box C U U U U fun p10=>R.box C U U U U fun p11=>Ad C U U<|Xs C<|Xr C U U<|R5 C U U isAgg27 sizeOf27 (by repeat constructor) Tk5<|R.callP C U U U U (fitR_c hJ hvv)<|R.not C U U U<|R.done C<|X.cond C.1 U (fun hfit=>?_) (fun hfit=>?_)
 ·refine Xr C U U<|R.callR C U U U U ((hoisted_c _ he)) fun v9 ro9 hl9 hq9=>Ad C U U<|X.ret0 C (by kernel_rfl) U U func19 U (by exact(.tmp U .nil)) fun w9 hs9=>hret _ _ _ hl9 ?_ w9 hs9
  exact hq9
 ·have hch:checkBook b=0:=by simpa using hfit
  have hb:=good_of hch
  have hsh:=short_of (not_great hch)
  have hnp:=hb.np
  have hng:=hb.ng
  have hnc:=hb.nc
  have hnt:=hb.nt
  refine X.skip C.1<|Xs C<|Xd C fun hok=>Dm C 0 hok U U U<|Dp 1 hok (fun _ _ _ A h=>R.convInt C U (A.w U U) (A.x U U) runUnderlying5 runUnderlying3 (wrap64 (by omega) (by omega)) h)<|Df (off':=1) C 2 hok U U U runUnderlying27 U sizeOf22 U<|D1 C 3 hok U U isAgg22 (by repeat constructor) U<|Ds C 4 hok U U runUnderlying22<|Di C 5 hok U U U U U (b_remP (by omega) (by omega))<|Dm C 6 hok U U U<|Dp 7 hok (fun _ _ _ A h=>R.convInt C U (A.w U U) (A.x U U) runUnderlying5 runUnderlying3 (wrap64 (by omega) (by omega)) h)<|Df (off':=2) C 8 hok U U U runUnderlying27 U sizeOf23 U<|D1 C 9 hok U U isAgg23 (by repeat constructor) U<|Ds C 10 hok U U runUnderlying23<|Di C 11 hok U U U U U (b_remP (by omega) (by omega))<|Dm C 12 hok U U U<|Dp 13 hok (fun _ _ _ A h=>R.convInt C U (A.w U U) (A.x U U) runUnderlying5 runUnderlying3 (wrap64 (by omega) (by omega)) h)<|Df (off':=3) C 14 hok U U U runUnderlying27 U sizeOf24 U<|D1 C 15 hok U U isAgg24 (by repeat constructor) U<|Ds C 16 hok U U runUnderlying24<|Di C 17 hok U U U U U (b_remP (by omega) (by omega))<|Dm C 18 hok U U U<|De 19 (some 46) [true,true,true] hok (fun _ _ A hk=>?_)
  refine R.callP C U (A.w U U) (A.x U U) (A.s U U) (loadR_c hJ (by omega) _) (hk _ _ ⟨(QFs.cons (QF.of U (fun _ _ A h=>R.loadOne C U (A.w U U) (A.x U U) isAgg24 (by repeat constructor) U h)) (QFs.cons (QF.of U (fun _ _ A h=>R.loadOne C U (A.w U U) (A.x U U) isAgg23 (by repeat constructor) U h)) (QFs.cons (QF.of U (fun _ _ A h=>R.loadOne C U (A.w U U) (A.x U U) isAgg22 (by repeat constructor) U h)) QFs.nil))), ?_⟩)
  refine Da C 20 hok U U<|Da C 21 hok U U<|Da C 22 hok U U<|Da C 23 hok U U<|D.done C hok (by kernel_rfl)<|Xs C ?_
  have hi:0≤i0% (b.ps.length:Int)∧i0% (b.ps.length:Int)<b.ps.length:=⟨Int.emod_nonneg _ (by omega),Int.emod_lt_of_pos _ (by omega)⟩
  have hgb:0≤g0% (b.gs.length:Int)∧g0% (b.gs.length:Int)<b.gs.length:=⟨Int.emod_nonneg _ (by omega),Int.emod_lt_of_pos _ (by omega)⟩
  have hkb:0≤k0% (b.cs.length:Int)∧k0% (b.cs.length:Int)<b.cs.length:=⟨Int.emod_nonneg _ (by omega),Int.emod_lt_of_pos _ (by omega)⟩
  have hlo:1≤loadOf n0∧loadOf n0≤99:=loadOf_bd
  generalize i0% (b.ps.length:Int)=i at hi⊢
  generalize g0% (b.gs.length:Int)=g at hgb⊢
  generalize k0% (b.cs.length:Int)=k at hkb⊢
  generalize loadOf n0=n at hlo⊢
  refine X.region C U U<|R5 C U U isAgg27 sizeOf27 (by repeat constructor) Tk5<|R5 C U U isAgg92 sizeOf92 (by repeat constructor) Tk3<|R.callR C U U U U (try_c hJ he hvv hsh t) fun v1 ro1 hl1 hq1=>?_
  obtain⟨v1,hnb,rfl⟩:=hq1.bk
  have hnb0:=hnb
  obtain⟨_,_,_,_,rfl,hnb⟩:=hnb
  obtain⟨_,_,rfl⟩:=hnb.1.form
  obtain⟨_,_,rfl⟩:=hnb.2.1.form
  obtain⟨_,_,rfl⟩:=hnb.2.2.1.form
  obtain⟨_,_,rfl⟩:=hnb.2.2.2.form
  refine Rm C U U<|R.ext C U U U U<|R.ext C U U U U<|R.alloc C U U zeroValue27 U fun p21=>R.store C U U U U sizeOf27 U U U (by repeat constructor) Ph5<|Ad C U U<|Xs C<|Xs C<|X.afterI (ι:=RO×Int×Value×Value×Value×Value) (fun s=>ro.le s.1) (fun s=> [(87, .bool false),(17, .int .i64 i),(18, .int .i64 g),(19, .int .i64 k),(20, .int .i64 n),(8, .pointer (some ⟨p8,0,none⟩)),(9, .pointer (some ⟨p9,0,none⟩)),(10, .pointer (some ⟨p10,0,none⟩)),(11, .pointer (some ⟨p11,0,none⟩)),(21, .pointer (some ⟨p21,0,none⟩))])
   (fun s=>⟨s.1,(p21, .cells [.int .i64 s.2.1,s.2.2.1,s.2.2.2.1,s.2.2.2.2.1,s.2.2.2.2.2].toArray 27 (0,0))::(p11, .cells y.cells.toArray 65 (0,0))::(p10, .cells x.cells.toArray 65 (0,0))::(p9, .cells t.cells.toArray 92 (0,0))::(p8, .cells [.int .i64 b.w, .slice pb b.ps.length pc, .slice gb b.gs.length gc, .slice cb b.cs.length cc, .slice tb b.ts.length tc].toArray 27 (0,0)):: []⟩) (fun s hs=>?_) (fun hcont=>?_)
  rotate_left
  ·have he1:=he.mono hl1
   have hv1:=hvv.mono hl1
   rcases try_law hch t with h0|⟨h0,hcn,hne,hfw⟩
   ·have hnw:newB (b.tried t) (tryH b t)=nothing:=by rw [newB,if_neg h0]
    refine Xd C fun hok=>Dm C 0 hok U U U<|Di C 1 hok U U U U U b_eql<|D.fixv (t:=54) (v':= .bool false) U (Bv (by rw [beq_eq_false_iff_ne];exact h0)) ?_;refine Dm C 2 hok U U U<|Du C 3 hok U<|Du C 4 hok U<|Du C 5 hok U<|Du C 6 hok U<|Du C 7 hok U<|Du C 8 hok U<|Du C 9 hok U<|Du C 10 hok U<|Du C 11 hok U<|Du C 12 hok U<|Du C 13 hok U<|Du C 14 hok U<|Du C 15 hok U<|Du C 16 hok U<|Du C 17 hok U<|Du C 18 hok U<|Du C 19 hok U<|Du C 20 hok U<|Du C 21 hok U<|Du C 22 hok U<|Du C 23 hok U<|Dp 24 hok (fun _ _ _ A h=>R.pickF C U (A.w U U) (A.x U U) (A.x U U) h)<|Dm C 25 hok U U U<|Dm C 26 hok U U U<|Di C 27 hok U U U U U b_neq<|D.fixv (t:=80) (v':= .bool true) U (Bv (by simp [h0])) ?_;refine Dm C 28 hok U U U<|D5 C 29 hok U U isAgg27 sizeOf27 (by repeat constructor) Tk5 ?_;refine Dp 30 hok (fun _ _ _ A h=>R.build C U (A.w U U) (A.p U U) zeroValue27 U runUnderlying27 (by kernel_rfl) .nil h)<|De 31 (some 84) [false] hok (fun _ _ A hk=>?_)
    refine R.callP C U (A.w U U) (A.x U U) (A.s U U) (sameR_c hJ hnb0 (noBk_v _) (by rw [hnw];exact tiny_nothing) tiny_nothing) (hk _ _ ⟨QFs.nil, ?_⟩)
    refine Dp 32 hok (fun _ _ _ A h=>R.not C U (A.w U U) (A.x U U) h)<|D.fixv (t:=85) (v':= .bool false) U (by(rw [decide_eq_true hnw];rfl))<|Dp 33 hok (fun _ _ _ A h=>R.pickT C U (A.w U U) (A.x U U) (A.x U U) h)<|Dp 34 hok (fun _ _ _ A h=>R.pickF C U (A.w U U) (A.x U U) (A.x U U) h)<|D.done C hok (by kernel_rfl)<|X.weaken ?_ (hcont (ro1,_,_,_,_,_) hl1)
    exact⟨U,U,U,U,U,U,U,U,U,U,trivial⟩
   ·have hnw:newB (b.tried t) (tryH b t)=b.tried t:=by rw [newB,if_pos h0]
    have hbn:=Eq.mp (congrArg (BkV ro1 _) hnw) hnb0
    refine Xd C fun hok=>Dm C 0 hok U U U<|Di C 1 hok U U U U U b_eql<|D.fixv (t:=54) (v':= .bool true) U (Bv (by rw [beq_iff_eq];exact h0)) ?_;refine Dm C 2 hok U U U<|D5 C 3 hok U U isAgg27 sizeOf27 (by repeat constructor) Tk5<|D5 C 4 hok U U isAgg27 sizeOf27 (by repeat constructor) Tk5<|D5 C 5 hok U U isAgg92 sizeOf92 (by repeat constructor) Tk3<|De 6 (some 59) [false,false,true] hok (fun _ _ A hk=>?_)
    refine R.callR C U (A.w U U) (A.x U U) (A.s U U) (tried_c hJ hv1 (by omega) t) fun v2 ro2 hl2 hq2=>hk _ _ ⟨(QFs.cons (QF.of U (fun _ _ A h=>R.loadAgg C U (A.w U U) (A.x U U) isAgg27 sizeOf27 (by repeat constructor) Tk5 h)) QFs.nil), ?_⟩
    refine De 7 (some 60) [false] hok (fun _ _ A hk=>?_)
    refine R.callP C U (A.w U U) (A.x U U) (A.s U U) (sameR_c hJ (hbn.mono hl2) hq2 (tiny_of (good_of hcn)) (tiny_of (good_of hcn))) (hk _ _ ⟨QFs.nil, ?_⟩)
    have k2:=RO.le_trans hl1 hl2
    refine Dp 8 hok (fun _ _ _ A h=>R.not C U (A.w U U) (A.x U U) h)<|D.fixv (t:=61) (v':= .bool false) U (by(simp))<|Dm C 9 hok U U U<|D5 C 10 hok U U isAgg27 sizeOf27 (by repeat constructor) Tk5<|De 11 (some 64) [false] hok (fun _ _ A hk=>?_)
    refine R.callP C U (A.w U U) (A.x U U) (A.s U U) (checkBookR_c hJ (hbn.mono hl2) (short_of (not_great hcn))) (hk _ _ ⟨QFs.nil, ?_⟩)
    refine Di C 12 hok U U U U U b_neq<|D.fixv (t:=65) (v':= .bool false) U (by(rw [hcn];rfl))<|Dp 13 hok (fun _ _ _ A h=>R.pickF C U (A.w U U) (A.x U U) (A.x U U) h)<|Dm C 14 hok U U U<|D5 C 15 hok U U isAgg27 sizeOf27 (by repeat constructor) Tk5<|D5 C 16 hok U U isAgg27 sizeOf27 (by repeat constructor) Tk5<|Dm C 17 hok U U U<|Dm C 18 hok U U U<|Dm C 19 hok U U U<|Dm C 20 hok U U U<|De 21 (some 74) [false,false] hok (fun _ _ A hk=>?_)
    refine R.callR C U (A.w U U) (A.x U U) (A.s U U) (betterR_c (he.mono k2) (hvv.mono k2) (hbn.mono hl2) hch hcn hne hfw hi hgb hkb hlo) fun v3 ro3 hl3 hq3=>hk _ _ ⟨QFs.nil, ?_⟩
    subst hq3
    refine Dp 22 hok (fun _ _ _ A h=>R.not C U (A.w U U) (A.x U U) h)<|D.fixv (t:=75) (v':= .bool false) U (by rfl)<|Dp 23 hok (fun _ _ _ A h=>R.pickF C U (A.w U U) (A.x U U) (A.x U U) h)<|Dp 24 hok (fun _ _ _ A h=>R.pickT C U (A.w U U) (A.x U U) (A.x U U) h)<|Dm C 25 hok U U U<|Dm C 26 hok U U U<|Di C 27 hok U U U U U b_neq<|D.fixv (t:=80) (v':= .bool false) U (Bv (by simp [h0])) ?_;refine Dm C 28 hok U U U<|Du C 29 hok U<|Du C 30 hok U<|Du C 31 hok U<|Du C 32 hok U<|Dp 33 hok (fun _ _ _ A h=>R.pickF C U (A.w U U) (A.x U U) (A.x U U) h)<|Dp 34 hok (fun _ _ _ A h=>R.pickF C U (A.w U U) (A.x U U) (A.x U U) h)<|D.done C hok (by kernel_rfl)<|X.weaken ?_ (hcont (ro3,_,_,_,_,_) (RO.le_trans k2 hl3))
    exact⟨U,U,U,U,U,U,U,U,U,U,trivial⟩
  obtain⟨roN,zw,zp,zg,zc,zt⟩:=s
  simp only at hs⊢
  have heN:=he.mono hs
  have hvN:=hvv.mono hs
  refine X.cond C.1 U (fun h=>nomatch h) (fun _=>?_)
  refine X.skip C.1<|Xr C U U<|R5 C U U isAgg27 sizeOf27 (by repeat constructor) Tk5<|Rm C U U<|R5 C U U isAgg65 sizeOf65 (by repeat constructor) Tk2<|R.callR C U U U U (know_c hJ heN hvN hsh i x) fun v1 ro1 hl1 hq1=>?_
  obtain⟨v1,hnb,rfl⟩:=hq1.bk
  have hnb0:=hnb
  obtain⟨_,_,_,_,rfl,hnb⟩:=hnb
  obtain⟨_,_,rfl⟩:=hnb.1.form
  obtain⟨_,_,rfl⟩:=hnb.2.1.form
  obtain⟨_,_,rfl⟩:=hnb.2.2.1.form
  obtain⟨_,_,rfl⟩:=hnb.2.2.2.form
  have hsN1:=RO.le_trans hs hl1
  refine Rm C U U<|R.ext C U U U U<|R.ext C U U U U<|R.store C U U U U sizeOf27 U U U (by repeat constructor) Ph5<|Ad C U U<|Xs C<|Xs C<|X.afterI (ι:=RO×Int×Value×Value×Value×Value) (fun s=>ro.le s.1) (fun s=> [(145, .bool false),(17, .int .i64 i),(18, .int .i64 g),(19, .int .i64 k),(20, .int .i64 n),(8, .pointer (some ⟨p8,0,none⟩)),(9, .pointer (some ⟨p9,0,none⟩)),(10, .pointer (some ⟨p10,0,none⟩)),(11, .pointer (some ⟨p11,0,none⟩)),(21, .pointer (some ⟨p21,0,none⟩))])
   (fun s=>⟨s.1,(p21, .cells [.int .i64 s.2.1,s.2.2.1,s.2.2.2.1,s.2.2.2.2.1,s.2.2.2.2.2].toArray 27 (0,0))::(p11, .cells y.cells.toArray 65 (0,0))::(p10, .cells x.cells.toArray 65 (0,0))::(p9, .cells t.cells.toArray 92 (0,0))::(p8, .cells [.int .i64 b.w, .slice pb b.ps.length pc, .slice gb b.gs.length gc, .slice cb b.cs.length cc, .slice tb b.ts.length tc].toArray 27 (0,0)):: []⟩) (fun s hs=>?_) (fun hcont=>?_)
  rotate_left
  ·have he1:=he.mono hsN1
   have hv1:=hvv.mono hsN1
   rcases know_law hch hi x with h0|⟨h0,hcn,hne⟩
   ·have h00:knowH b i x≠0:=by rcases h0 with h0|h0<;>rw [h0]<;>decide
    have hnw:newB (b.borne i.toNat ((b.part i).r.meet x)) (knowH b i x)=nothing:=by rw [newB,if_neg h00]
    rcases h0 with h0|h0
    ·have _:=h00
     refine Xd C fun hok=>Dm C 0 hok U U U<|Di C 1 hok U U U U U b_eql<|D.fixv (t:=96) (v':= .bool false) U (Bv (by rw [beq_eq_false_iff_ne];exact h00)) ?_;refine Dm C 2 hok U U U<|Du C 3 hok U<|Du C 4 hok U<|Du C 5 hok U<|Du C 6 hok U<|Du C 7 hok U<|Du C 8 hok U<|Du C 9 hok U<|Du C 10 hok U<|Du C 11 hok U<|Du C 12 hok U<|Du C 13 hok U<|Du C 14 hok U<|Du C 15 hok U<|Du C 16 hok U<|Du C 17 hok U<|Du C 18 hok U<|Du C 19 hok U<|Du C 20 hok U<|Du C 21 hok U<|Du C 22 hok U<|Du C 23 hok U<|Du C 24 hok U<|Du C 25 hok U<|Du C 26 hok U<|Du C 27 hok U<|Du C 28 hok U<|Du C 29 hok U<|Du C 30 hok U<|Du C 31 hok U<|Dp 32 hok (fun _ _ _ A h=>R.pickF C U (A.w U U) (A.x U U) (A.x U U) h)<|Dm C 33 hok U U U<|Dm C 34 hok U U U<|Di C 35 hok U U U U U b_neq<|D.fixv (t:=130) (v':= .bool true) U (Bv (by simp [h00])) ?_;refine Dm C 36 hok U U U<|Dm C 37 hok U U U<|Di C 38 hok U U U U U b_neq<|D.fixv (t:=133) (v':= .bool false) U (Bv (by simp [h0])) ?_;refine Dm C 39 hok U U U<|Du C 40 hok U<|Du C 41 hok U<|Dp 42 hok (fun _ _ _ A h=>R.pickF C U (A.w U U) (A.x U U) (A.x U U) h)<|Dm C 43 hok U U U<|D5 C 44 hok U U isAgg27 sizeOf27 (by repeat constructor) Tk5 ?_;refine Dp 45 hok (fun _ _ _ A h=>R.build C U (A.w U U) (A.p U U) zeroValue27 U runUnderlying27 (by kernel_rfl) .nil h)<|De 46 (some 141) [false] hok (fun _ _ A hk=>?_)
     refine R.callP C U (A.w U U) (A.x U U) (A.s U U) (sameR_c hJ hnb0 (noBk_v _) (by rw [hnw];exact tiny_nothing) tiny_nothing) (hk _ _ ⟨QFs.nil, ?_⟩)
     refine Dp 47 hok (fun _ _ _ A h=>R.not C U (A.w U U) (A.x U U) h)<|D.fixv (t:=142) (v':= .bool false) U (by(rw [decide_eq_true hnw];rfl))<|Dp 48 hok (fun _ _ _ A h=>R.pickF C U (A.w U U) (A.x U U) (A.x U U) h)<|Dp 49 hok (fun _ _ _ A h=>R.pickT C U (A.w U U) (A.x U U) (A.x U U) h)<|Dp 50 hok (fun _ _ _ A h=>R.pickF C U (A.w U U) (A.x U U) (A.x U U) h)<|D.done C hok (by kernel_rfl)<|X.weaken ?_ (hcont (ro1,_,_,_,_,_) hsN1)
     exact⟨U,U,U,U,U,U,U,U,U,U,trivial⟩
    ·have _:=h00
     refine Xd C fun hok=>Dm C 0 hok U U U<|Di C 1 hok U U U U U b_eql<|D.fixv (t:=96) (v':= .bool false) U (Bv (by rw [beq_eq_false_iff_ne];exact h00)) ?_;refine Dm C 2 hok U U U<|Du C 3 hok U<|Du C 4 hok U<|Du C 5 hok U<|Du C 6 hok U<|Du C 7 hok U<|Du C 8 hok U<|Du C 9 hok U<|Du C 10 hok U<|Du C 11 hok U<|Du C 12 hok U<|Du C 13 hok U<|Du C 14 hok U<|Du C 15 hok U<|Du C 16 hok U<|Du C 17 hok U<|Du C 18 hok U<|Du C 19 hok U<|Du C 20 hok U<|Du C 21 hok U<|Du C 22 hok U<|Du C 23 hok U<|Du C 24 hok U<|Du C 25 hok U<|Du C 26 hok U<|Du C 27 hok U<|Du C 28 hok U<|Du C 29 hok U<|Du C 30 hok U<|Du C 31 hok U<|Dp 32 hok (fun _ _ _ A h=>R.pickF C U (A.w U U) (A.x U U) (A.x U U) h)<|Dm C 33 hok U U U<|Dm C 34 hok U U U<|Di C 35 hok U U U U U b_neq<|D.fixv (t:=130) (v':= .bool true) U (Bv (by simp [h00])) ?_;refine Dm C 36 hok U U U<|Dm C 37 hok U U U<|Di C 38 hok U U U U U b_neq<|D.fixv (t:=133) (v':= .bool true) U (Bv (by simp [h0])) ?_;refine Dm C 39 hok U U U<|Dm C 40 hok U U U<|Di C 41 hok U U U U U b_neq<|D.fixv (t:=136) (v':= .bool false) U (Bv (by simp [h0])) ?_;refine Dp 42 hok (fun _ _ _ A h=>R.pickT C U (A.w U U) (A.x U U) (A.x U U) h)<|Dm C 43 hok U U U<|D5 C 44 hok U U isAgg27 sizeOf27 (by repeat constructor) Tk5 ?_;refine Dp 45 hok (fun _ _ _ A h=>R.build C U (A.w U U) (A.p U U) zeroValue27 U runUnderlying27 (by kernel_rfl) .nil h)<|De 46 (some 141) [false] hok (fun _ _ A hk=>?_)
     refine R.callP C U (A.w U U) (A.x U U) (A.s U U) (sameR_c hJ hnb0 (noBk_v _) (by rw [hnw];exact tiny_nothing) tiny_nothing) (hk _ _ ⟨QFs.nil, ?_⟩)
     refine Dp 47 hok (fun _ _ _ A h=>R.not C U (A.w U U) (A.x U U) h)<|D.fixv (t:=142) (v':= .bool false) U (by(rw [decide_eq_true hnw];rfl))<|Dp 48 hok (fun _ _ _ A h=>R.pickF C U (A.w U U) (A.x U U) (A.x U U) h)<|Dp 49 hok (fun _ _ _ A h=>R.pickT C U (A.w U U) (A.x U U) (A.x U U) h)<|Dp 50 hok (fun _ _ _ A h=>R.pickF C U (A.w U U) (A.x U U) (A.x U U) h)<|D.done C hok (by kernel_rfl)<|X.weaken ?_ (hcont (ro1,_,_,_,_,_) hsN1)
     exact⟨U,U,U,U,U,U,U,U,U,U,trivial⟩
   ·have hnw:newB (b.borne i.toNat ((b.part i).r.meet x)) (knowH b i x)=b.borne i.toNat ((b.part i).r.meet x):=by rw [newB,if_pos h0]
    have hbn:=Eq.mp (congrArg (BkV ro1 _) hnw) hnb0
    have hil:i.toNat<b.ps.length:=by omega
    have hpi:b.part i=b.ps[i.toNat]:=by simp [Bk.part,List.getD_eq_getElem?_getD,hil]
    obtain⟨pp,off,cap,ll,ty,fq,hsl,hrop,hsub⟩:=(hp.mono hsN1).at Pt.len (by omega)
    cases hsl
    have hrc:=sub_part (k:=2) (m:=2) (hsub i.toNat hil) (by decide) (Pt.len _)
    rw [←hpi] at hrc
    refine Xd C fun hok=>Dm C 0 hok U U U<|Di C 1 hok U U U U U b_eql<|D.fixv (t:=96) (v':= .bool true) U (Bv (by rw [beq_iff_eq];exact h0)) ?_;refine Dm C 2 hok U U U<|D5 C 3 hok U U isAgg27 sizeOf27 (by repeat constructor) Tk5<|D5 C 4 hok U U isAgg27 sizeOf27 (by repeat constructor) Tk5<|Dm C 5 hok U U U<|Df (off':=1) C 6 hok U U U runUnderlying27 U sizeOf22 U<|D1 C 7 hok U U isAgg22 (by repeat constructor) U<|Dm C 8 hok U U U<|Dx C 9 hok U U U runUnderlying22 sizeOf67<|Df C 10 hok U U U runUnderlying67 U sizeOf65 U<|Dl 11 hok (fun _ _ A h=>R.loadAggRo C U (A.w U U) (A.x U U) isAgg65 sizeOf65 hrop hrc h)<|D5 C 12 hok U U isAgg65 sizeOf65 (by repeat constructor) Tk2<|De 13 (some 108) [false,false,false,true,true] hok (fun _ _ A hk=>?_)
    refine R.callP C U (A.w U U) (A.x U U) (A.s U U) (overlapR_c hJ (b.part i).r x _) (hk _ _ ⟨(QFs.cons (QF.of U (fun _ _ A h=>R.loadAgg C U (A.w U U) (A.x U U) isAgg27 sizeOf27 (by repeat constructor) Tk5 h)) (QFs.cons (QF.of U (fun _ _ A h=>R.loadAgg C U (A.w U U) (A.x U U) isAgg27 sizeOf27 (by repeat constructor) Tk5 h)) QFs.nil)), ?_⟩)
    refine De 14 (some 109) [false,true] hok (fun _ _ A hk=>?_)
    refine R.callR C U (A.w U U) (A.x U U) (A.s U U) (borneR_c hJ hv1 (by omega) hi ((b.part i).r.meet x)) fun v2 ro2 hl2 hq2=>hk _ _ ⟨(QFs.cons (QF.of U (fun _ _ A h=>R.loadAgg C U (A.w U U) (A.x U U) isAgg27 sizeOf27 (by repeat constructor) Tk5 h)) QFs.nil), ?_⟩
    refine De 15 (some 110) [false] hok (fun _ _ A hk=>?_)
    refine R.callP C U (A.w U U) (A.x U U) (A.s U U) (sameR_c hJ (hbn.mono hl2) hq2 (tiny_of (good_of hcn)) (tiny_of (good_of hcn))) (hk _ _ ⟨QFs.nil, ?_⟩)
    have k2:=RO.le_trans hsN1 hl2
    refine Dp 16 hok (fun _ _ _ A h=>R.not C U (A.w U U) (A.x U U) h)<|D.fixv (t:=111) (v':= .bool false) U (by(simp))<|Dm C 17 hok U U U<|D5 C 18 hok U U isAgg27 sizeOf27 (by repeat constructor) Tk5<|De 19 (some 114) [false] hok (fun _ _ A hk=>?_)
    refine R.callP C U (A.w U U) (A.x U U) (A.s U U) (checkBookR_c hJ (hbn.mono hl2) (short_of (not_great hcn))) (hk _ _ ⟨QFs.nil, ?_⟩)
    refine Di C 20 hok U U U U U b_neq<|D.fixv (t:=115) (v':= .bool false) U (by(rw [hcn];rfl))<|Dp 21 hok (fun _ _ _ A h=>R.pickF C U (A.w U U) (A.x U U) (A.x U U) h)<|Dm C 22 hok U U U<|D5 C 23 hok U U isAgg27 sizeOf27 (by repeat constructor) Tk5<|D5 C 24 hok U U isAgg27 sizeOf27 (by repeat constructor) Tk5<|Dm C 25 hok U U U<|Dm C 26 hok U U U<|Dm C 27 hok U U U<|Dm C 28 hok U U U<|De 29 (some 124) [false,false] hok (fun _ _ A hk=>?_)
    refine R.callR C U (A.w U U) (A.x U U) (A.s U U) (betterR_c (he.mono k2) (hvv.mono k2) (hbn.mono hl2) hch hcn hne (fewer_borne hi x) hi hgb hkb hlo) fun v3 ro3 hl3 hq3=>hk _ _ ⟨QFs.nil, ?_⟩
    subst hq3
    refine Dp 30 hok (fun _ _ _ A h=>R.not C U (A.w U U) (A.x U U) h)<|D.fixv (t:=125) (v':= .bool false) U (by rfl)<|Dp 31 hok (fun _ _ _ A h=>R.pickF C U (A.w U U) (A.x U U) (A.x U U) h)<|Dp 32 hok (fun _ _ _ A h=>R.pickT C U (A.w U U) (A.x U U) (A.x U U) h)<|Dm C 33 hok U U U<|Dm C 34 hok U U U<|Di C 35 hok U U U U U b_neq<|D.fixv (t:=130) (v':= .bool false) U (Bv (by simp [h0])) ?_;refine Dm C 36 hok U U U<|Du C 37 hok U<|Du C 38 hok U<|Du C 39 hok U<|Du C 40 hok U<|Du C 41 hok U<|Du C 42 hok U<|Du C 43 hok U<|Du C 44 hok U<|Du C 45 hok U<|Du C 46 hok U<|Du C 47 hok U<|Du C 48 hok U<|Dp 49 hok (fun _ _ _ A h=>R.pickF C U (A.w U U) (A.x U U) (A.x U U) h)<|Dp 50 hok (fun _ _ _ A h=>R.pickF C U (A.w U U) (A.x U U) (A.x U U) h)<|D.done C hok (by kernel_rfl)<|X.weaken ?_ (hcont (ro3,_,_,_,_,_) (RO.le_trans k2 hl3))
    exact⟨U,U,U,U,U,U,U,U,U,U,trivial⟩
  obtain⟨roN,zw,zp,zg,zc,zt⟩:=s
  simp only at hs⊢
  have heN:=he.mono hs
  have hvN:=hvv.mono hs
  refine X.cond C.1 U (fun h=>nomatch h) (fun _=>?_)
  refine X.skip C.1<|Xr C U U<|R5 C U U isAgg27 sizeOf27 (by repeat constructor) Tk5<|Rm C U U<|R5 C U U isAgg65 sizeOf65 (by repeat constructor) Tk2<|R.callR C U U U U (weigh_c hJ heN hvN hsh k y) fun v1 ro1 hl1 hq1=>?_
  obtain⟨v1,hnb,rfl⟩:=hq1.bk
  have hnb0:=hnb
  obtain⟨_,_,_,_,rfl,hnb⟩:=hnb
  obtain⟨_,_,rfl⟩:=hnb.1.form
  obtain⟨_,_,rfl⟩:=hnb.2.1.form
  obtain⟨_,_,rfl⟩:=hnb.2.2.1.form
  obtain⟨_,_,rfl⟩:=hnb.2.2.2.form
  have hsN1:=RO.le_trans hs hl1
  have he1:=he.mono hsN1
  have hv1:=hvv.mono hsN1
  rcases weigh_law hch hkb y with h0|⟨h0,hcn,hne⟩
  ·have h00:weighH b k y≠0:=by rcases h0 with h0|h0<;>rw [h0]<;>decide
   have hnw:newB (b.weighed k.toNat ((b.piece k).r.meet y)) (weighH b k y)=nothing:=by rw [newB,if_neg h00]
   rcases h0 with h0|h0
   ·have _:=h00
    refine Rm C U U<|R.ext C U U U U<|R.ext C U U U U<|R.store C U U U U sizeOf27 U U U (by repeat constructor) Ph5<|Ad C U U<|Xs C<|Xr C U U<|Rm C U U<|R.int C U U U U b_neq<|R.fixv (t:=154) (v':= .bool true) U (Bv (by simp [h00])) ?_;refine R.done C<|X.cond C.1 U (fun _=>?_) (fun h=>nomatch h)
    refine Xr C U U<|Rm C U U<|R.int C U U U U b_eql<|R.fixv (t:=156) (v':= .bool true) U (Bv (by simp [h0])) ?_;refine Rm C U U<|R.pass C U U<|R.pass C U U<|R.pickT C U U U U<|Rm C U U<|R5 C U U isAgg27 sizeOf27 (by repeat constructor) Tk5 ?_;refine R.build C U U U zeroValue27 U runUnderlying27 (by kernel_rfl) .nil<|R.callP C U U U U (sameR_c hJ hnb0 (noBk_v _) (by rw [hnw];exact tiny_nothing) tiny_nothing) ?_
    rw [decide_eq_true hnw]
    refine R.pickT C U U U U<|R.fixv (t:=165) (v':= .bool true) U (by rfl)<|Rm C U U<|R.callR C U U U U ((hoisted_c _ he1)) fun v9 ro9 hl9 hq9=>R.pickT C U U U U<|Ad C U U<|X.ret0 C (by kernel_rfl) U U func19 U (by exact(.tmp U .nil)) fun w9 hs9=>hret _ _ _ (RO.le_trans hsN1 hl9) ?_ w9 hs9
    exact hq9
   ·have _:=h00
    refine Rm C U U<|R.ext C U U U U<|R.ext C U U U U<|R.store C U U U U sizeOf27 U U U (by repeat constructor) Ph5<|Ad C U U<|Xs C<|Xr C U U<|Rm C U U<|R.int C U U U U b_neq<|R.fixv (t:=154) (v':= .bool true) U (Bv (by simp [h00])) ?_;refine R.done C<|X.cond C.1 U (fun _=>?_) (fun h=>nomatch h)
    refine Xr C U U<|Rm C U U<|R.int C U U U U b_eql<|R.fixv (t:=156) (v':= .bool false) U (Bv (by simp [h0])) ?_;refine Rm C U U<|Rm C U U<|R.int C U U U U b_eql<|R.fixv (t:=159) (v':= .bool true) U (Bv (by simp [h0])) ?_;refine R.pickF C U U U U<|Rm C U U<|R5 C U U isAgg27 sizeOf27 (by repeat constructor) Tk5 ?_;refine R.build C U U U zeroValue27 U runUnderlying27 (by kernel_rfl) .nil<|R.callP C U U U U (sameR_c hJ hnb0 (noBk_v _) (by rw [hnw];exact tiny_nothing) tiny_nothing) ?_
    rw [decide_eq_true hnw]
    refine R.pickT C U U U U<|R.fixv (t:=165) (v':= .bool true) U (by rfl)<|Rm C U U<|R.callR C U U U U ((hoisted_c _ he1)) fun v9 ro9 hl9 hq9=>R.pickT C U U U U<|Ad C U U<|X.ret0 C (by kernel_rfl) U U func19 U (by exact(.tmp U .nil)) fun w9 hs9=>hret _ _ _ (RO.le_trans hsN1 hl9) ?_ w9 hs9
    exact hq9
  ·have hnw:newB (b.weighed k.toNat ((b.piece k).r.meet y)) (weighH b k y)=b.weighed k.toNat ((b.piece k).r.meet y):=by rw [newB,if_pos h0]
   have hbn:=Eq.mp (congrArg (BkV ro1 _) hnw) hnb0
   have hil:k.toNat<b.cs.length:=by omega
   have hpi:b.piece k=b.cs[k.toNat]:=by simp [Bk.piece,List.getD_eq_getElem?_getD,hil]
   obtain⟨pp,off,cap,ll,ty,fq,hsl,hrop,hsub⟩:=(hc.mono hsN1).at Pc.len (by omega)
   cases hsl
   have hrc:=sub_part (k:=1) (m:=2) (hsub k.toNat hil) (by decide) (Pc.len _)
   rw [←hpi] at hrc
   refine Rm C U U<|R.ext C U U U U<|R.ext C U U U U<|R.store C U U U U sizeOf27 U U U (by repeat constructor) Ph5<|Ad C U U<|Xs C<|Xr C U U<|Rm C U U<|R.int C U U U U b_neq<|R.fixv (t:=154) (v':= .bool false) U (Bv (by simp [h0])) ?_;refine R.done C<|X.cond C.1 U (fun h=>nomatch h) (fun _=>?_)
   refine X.skip C.1<|Xs C<|Xd C fun hok=>D5 C 0 hok U U isAgg27 sizeOf27 (by repeat constructor) Tk5<|D5 C 1 hok U U isAgg27 sizeOf27 (by repeat constructor) Tk5<|Dm C 2 hok U U U<|Df (off':=3) C 3 hok U U U runUnderlying27 U sizeOf24 U<|D1 C 4 hok U U isAgg24 (by repeat constructor) U<|Dm C 5 hok U U U<|Dx C 6 hok U U U runUnderlying24 sizeOf79<|Df C 7 hok U U U runUnderlying79 U sizeOf65 U<|Dl 8 hok (fun _ _ A h=>R.loadAggRo C U (A.w U U) (A.x U U) isAgg65 sizeOf65 hrop hrc h)<|D5 C 9 hok U U isAgg65 sizeOf65 (by repeat constructor) Tk2<|De 10 (some 179) [false,false,false,true,true] hok (fun _ _ A hk=>?_)
   refine R.callP C U (A.w U U) (A.x U U) (A.s U U) (overlapR_c hJ (b.piece k).r y _) (hk _ _ ⟨(QFs.cons (QF.of U (fun _ _ A h=>R.loadAgg C U (A.w U U) (A.x U U) isAgg27 sizeOf27 (by repeat constructor) Tk5 h)) (QFs.cons (QF.of U (fun _ _ A h=>R.loadAgg C U (A.w U U) (A.x U U) isAgg27 sizeOf27 (by repeat constructor) Tk5 h)) QFs.nil)), ?_⟩)
   refine De 11 (some 180) [false,true] hok (fun _ _ A hk=>?_)
   refine R.callR C U (A.w U U) (A.x U U) (A.s U U) (weighedR_c hJ hv1 (by omega) hkb ((b.piece k).r.meet y)) fun v2 ro2 hl2 hq2=>hk _ _ ⟨(QFs.cons (QF.of U (fun _ _ A h=>R.loadAgg C U (A.w U U) (A.x U U) isAgg27 sizeOf27 (by repeat constructor) Tk5 h)) QFs.nil), ?_⟩
   refine De 12 (some 181) [false] hok (fun _ _ A hk=>?_)
   refine R.callP C U (A.w U U) (A.x U U) (A.s U U) (sameR_c hJ (hbn.mono hl2) hq2 (tiny_of (good_of hcn)) (tiny_of (good_of hcn))) (hk _ _ ⟨QFs.nil, ?_⟩)
   have k2:=RO.le_trans hsN1 hl2
   refine Dm C 13 hok U U U<|D.fixv (t:=182) (v':= .bool true) U (by(simp))<|D5 C 14 hok U U isAgg27 sizeOf27 (by repeat constructor) Tk5<|De 15 (some 184) [false] hok (fun _ _ A hk=>?_)
   refine R.callP C U (A.w U U) (A.x U U) (A.s U U) (checkBookR_c hJ (hbn.mono hl2) (short_of (not_great hcn))) (hk _ _ ⟨QFs.nil, ?_⟩)
   refine Di C 16 hok U U U U U b_eql<|D.fixv (t:=185) (v':= .bool true) U (by(rw [hcn];rfl))<|Dp 17 hok (fun _ _ _ A h=>R.pickT C U (A.w U U) (A.x U U) (A.x U U) h)<|Dm C 18 hok U U U<|D5 C 19 hok U U isAgg27 sizeOf27 (by repeat constructor) Tk5<|D5 C 20 hok U U isAgg27 sizeOf27 (by repeat constructor) Tk5<|Dm C 21 hok U U U<|Dm C 22 hok U U U<|Dm C 23 hok U U U<|Dm C 24 hok U U U<|De 25 (some 194) [false,false] hok (fun _ _ A hk=>?_)
   refine R.callR C U (A.w U U) (A.x U U) (A.s U U) (betterR_c (he.mono k2) (hvv.mono k2) (hbn.mono hl2) hch hcn hne (fewer_weighed hkb y) hi hgb hkb hlo) fun v3 ro3 hl3 hq3=>hk _ _ ⟨QFs.nil, ?_⟩
   subst hq3
   have k3:=RO.le_trans k2 hl3
   refine Dp 26 hok (fun _ _ _ A h=>R.pickT C U (A.w U U) (A.x U U) (A.x U U) h)<|D.fixv (t:=195) (v':= .bool true) U (by rfl)<|Dm C 27 hok U U U<|De 28 (some 197) [] hok (fun _ _ A hk=>?_)
   refine R.callR C U (A.w U U) (A.x U U) (A.s U U) ((hoisted_c _ (he.mono k3))) fun v9 ro9 hl9 hq9=>hk _ _ ⟨QFs.nil, ?_⟩
   refine Dp 29 hok (fun _ _ _ A h=>R.pickT C U (A.w U U) (A.x U U) (A.x U U) h)<|Da C 30 hok U U<|D.done C hok (by kernel_rfl)<|X.ret0 C (by kernel_rfl) U U func19 U (by exact(.tmp U .nil)) fun w9 hs9=>hret _ _ _ (RO.le_trans k3 hl9) ?_ w9 hs9
   exact hq9
end Go.Lg.B
namespace Go.Lg.B
open Go Go.Proofs Go.Proofs.YtchjgmkeemdhlaaGreatDoor Go.Proofs.Tryz
theorem learnt_k1:(Rows.tackleLearntRow.inPlace==prog.inPlace 19)=true:=by kernel_rfl
theorem learnt_k2:(Rows.tackleLearntRow.unfollowed==prog.unfollowed 19)=true:=by kernel_rfl
theorem learnt_k3:(Rows.tackleLearntRow.recurses==prog.recurses 19)=true:=by kernel_rfl
theorem learnt_k4:(Rows.tackleLearntRow.named==prog.varsNamed 19)=true:=by kernel_rfl
theorem learnt_name:prog.funcNamed "lagan/laganlaw07.TackleLearnt" =some 19:=by kernel_rfl
theorem learnt_goes:true=Rows.tackleLearntRow.goesBy prog:=by kernel_rfl
theorem learnt_wf:Rows.tackleLearntRow.wfByText (OpenSpec.ofChange Rows.tackleLearntSpec)=true:=by kernel_rfl
theorem learnt_facts:joinedFacts prog 19 Tryz.f19 Rows.tackleLearntSpec Rows.tackleLearntRow=true:=by
 unfold joinedFacts
 exact(and_mk (and_mk (and_mk (and_mk (and_mk (and_mk (and_mk (and_mk (and_mk (and_mk (and_mk (and_mk (and_mk (and_mk (and_mk (and_mk (and_mk (and_mk (and_mk (and_mk (and_mk (and_mk (and_mk (and_mk (and_mk (and_mk (and_mk (and_mk (and_mk (and_mk (and_mk (by as_aux_lemma=>kernel_rfl)
  k_lo)
  k_mr)
  (by as_aux_lemma=>kernel_rfl))
  (by as_aux_lemma=>kernel_rfl))
  (by as_aux_lemma=>kernel_rfl))
  k_stops)
  (by as_aux_lemma=>kernel_rfl))
  k_knobs)
  learnt_k1)
  learnt_k2)
  learnt_k3)
  learnt_k4)
  (by as_aux_lemma=>kernel_rfl))
  (by as_aux_lemma=>kernel_rfl))
  (by as_aux_lemma=>kernel_rfl))
  (by as_aux_lemma=>kernel_rfl))
  (by as_aux_lemma=>kernel_rfl))
  (by as_aux_lemma=>kernel_rfl))
  (by as_aux_lemma=>kernel_rfl))
  (by as_aux_lemma=>kernel_rfl))
  (by as_aux_lemma=>kernel_rfl))
  (beq_iff_eq.2 k_pk.symm))
  (by as_aux_lemma=>kernel_rfl))
  k_heard)
  k_may)
  (beq_iff_eq.2 k_lift.symm))
  (beq_iff_eq.2 k_make))
  (by as_aux_lemma=>kernel_rfl))
  (by as_aux_lemma=>kernel_rfl))
  (by as_aux_lemma=>kernel_rfl))
  (by as_aux_lemma=>kernel_rfl))
end Go.Lg.B
namespace Go.Proofs.YtchjgmkeemdhlaaGreatDoor
open Go Go.Conc Go.Lg Go.Lg.B Go.ChangeShapes Go.RowKit Go.WideShapes
theorem learnt_lifted(os:Os)(started:os.Started)(H:Type)(enc:TypeId×Value→H):
  ReturnsInLeavingWide {} Tryz.checked os 19 .any (fun w args=>(Rows.tackleLearntSpec.pre enc Tryz.prog Tryz.f19 [] false w args∧laidMetH Tryz.prog laid1 w)∧sizedMet enc Tryz.prog Tryz.f19 (OpenSpec.ofChange Rows.tackleLearntSpec) false w args)
   (Rows.tackleLearntSpec.post enc Tryz.prog Tryz.f19 false true false false):=by
 refine leaving_of_root (C:=Tryz.checked) (tb:=4) (X:=fun w _=>laidMetH Tryz.prog laid1 w) (fun _ _ _ hh h=>h.of_heap hh) own0 started Tryz.func19 laid0 (by
   intro t ht
   rw [Tryz.params19] at ht
   have hm:t∈ [27,92,65,65,5,5,5,5]:=ht
   have hall:([27,92,65,65,5,5,5,5].all fun u=>Tryz.prog.readableRec u && decide (u<Tryz.prog.types.size))=true:=by kernel_rfl
   have:=List.all_eq_true.1 hall t hm
   rw [Bool.and_eq_true,decide_eq_true_eq] at this
   exact this) rfl (by kernel_rfl) Tryz.underlying4
  (ChangeSpec.witness_shaped (enc:=enc) (C:=Tryz.checked) (os:=os) (X:=fun w _=>laidMetH Tryz.prog laid1 w) false (World.doorLaid Tryz.prog 89 os) #[.agg #[.int .i64 0, .slice none 0 0, .slice none 0 0, .slice none 0 0, .slice none 0 0], .agg #[.int .i64 0, .int .i64 0, .bool false], .agg #[.int .i64 0, .int .i64 0], .agg #[.int .i64 0, .int .i64 0], .int .u8 0, .int .u8 0, .int .u8 0, .int .u8 0] 8 rfl (door_shaped os _) (by kernel_rfl) (by kernel_rfl) (by kernel_rfl) (door_met os _)) ?_
 intro W base args ds gs before hval hW _ _ hL
 obtain⟨p,q,hA,hV,rfl,_,_⟩:=hW
 obtain⟨rfl,rfl⟩:=trodVars_none hV
 have hA:DataW.TrodAll enc Tryz.prog W 0 (fun _=>true) true Tryz.f19.params.toList args.toList ds p:=hA
 have hval:∀ (j:Nat) t v,Tryz.f19.params[j]? =some t→args[j]? =some v→Value.okWide Tryz.prog W .any base t v:=hval
 rw [Tryz.params19] at hA hval
 obtain⟨v1,l1,d1,k1,p1,q1,e1,rfl,rfl,h1,hA⟩:=trodAll_cons hA
 obtain⟨v2,l2,d2,k2,p2,q2,rfl,rfl,rfl,h2,hA⟩:=trodAll_cons hA
 obtain⟨v3,l3,d3,k3,p3,q3,rfl,rfl,rfl,h3,hA⟩:=trodAll_cons hA
 obtain⟨v4,l4,d4,k4,p4,q4,rfl,rfl,rfl,h4,hA⟩:=trodAll_cons hA
 obtain⟨v5,l5,d5,k5,p5,q5,rfl,rfl,rfl,h5,hA⟩:=trodAll_cons hA
 obtain⟨v6,l6,d6,k6,p6,q6,rfl,rfl,rfl,h6,hA⟩:=trodAll_cons hA
 obtain⟨v7,l7,d7,k7,p7,q7,rfl,rfl,rfl,h7,hA⟩:=trodAll_cons hA
 obtain⟨v8,l8,d8,k8,p8,q8,rfl,rfl,rfl,h8,hA⟩:=trodAll_cons hA
 obtain⟨rfl,rfl,rfl⟩:=trodAll_nil hA
 have ea:args= #[v1,v2,v3,v4,v5,v6,v7,v8]:=Array.toList_inj.1 e1
 subst ea
 obtain⟨b,b1⟩:=argBk (hval 0 27 v1 rfl rfl) h1
 obtain⟨t,rfl⟩:=argTs (hval 1 92 v2 rfl rfl) h2
 obtain⟨x,rfl⟩:=argRc (hval 2 65 v3 rfl rfl) h3
 obtain⟨y,rfl⟩:=argRc (hval 3 65 v4 rfl rfl) h4
 obtain⟨a1,rfl,o1⟩:=argU8 (hval 4 5 v5 rfl rfl) h5
 obtain⟨a2,rfl,o2⟩:=argU8 (hval 5 5 v6 rfl rfl) h6
 obtain⟨a3,rfl,o3⟩:=argU8 (hval 6 5 v7 rfl rfl) h7
 obtain⟨a4,rfl,o4⟩:=argU8 (hval 7 5 v8 rfl rfl) h8
 exact⟨rfl,learnt_root o1 o2 o3 o4 (env_of_laid hL) b1⟩
theorem learnt_row:Rows.TackleLearntSaid:=
 OpenClaim.holds_of_wide_leaving 19 Tryz.f19 rfl rfl rfl rfl rfl rfl rfl ⟨rfl,rfl,rfl,rfl,rfl⟩ rfl rfl rfl rfl rfl learnt_name Tryz.func19 learnt_facts
  (of_decide_eq_true (by kernel_rfl)) (by unfold Func.isWrapper;first|(rw [if_pos (by decide+kernel)];kernel_rfl)|(rw [if_neg (by decide+kernel)];exact⟨rfl,rfl⟩))
  (fun os started H enc _=>learnt_lifted os started H enc)
theorem learnt_holds:Rows.TackleLearntCardSaid:=
 card_goes .later [.funcs] true (true, "6ec45924a9ef3528b91853e2f3d4ce9a8ac3f7423f5bdc8d9ecf7c969235976f") true
  learnt_row learnt_wf tackleLearnt_row_tie rfl ⟨rfl,rfl⟩ k_main rfl
  (fun f fn hf hfn=>by
   obtain rfl:f=19:=Option.some.inj (learnt_name.symm.trans hf)|>.symm
   obtain rfl:fn=Tryz.f19:=(Option.some.inj (Tryz.func19.symm.trans hfn)).symm
   exact⟨k_looks,fun j t ht=>by
    rw [Tryz.params19] at ht
    have hm:t∈ [27,92,65,65,5,5,5,5]:=by simpa using Array.mem_of_getElem? ht
    have hall:([27,92,65,65,5,5,5,5].all fun u=> !Tryz.prog.wantsStandIn u)=true:=by kernel_rfl
    exact(show Tryz.prog.wantsStandIn t=false by simpa using List.all_eq_true.1 hall t hm)⟩)
  learnt_goes
end Go.Proofs.YtchjgmkeemdhlaaGreatDoor
