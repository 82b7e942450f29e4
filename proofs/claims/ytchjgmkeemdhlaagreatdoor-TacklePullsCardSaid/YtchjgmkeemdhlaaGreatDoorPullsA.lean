/-
  It is proved that the given function answers true for every input, whatever is scheduled: the statement Pulls of the seat. Conditions: none but those of the given statement itself.
-/
import Derived.Test.YtchjgmkeemdhlaaGreatDoorKE
import Derived.WideShapes
import Derived.ChangeShapes
import Derived.Conc.Holds
set_option maxRecDepth 100000
set_option maxHeartbeats 2000000
set_option linter.all false
set_option linter.unusedVariables false
set_option linter.unusedSimpArgs false
set_option linter.unusedSectionVars false
namespace Go.Lg
open Go
theorem Bv{a c:Bool}(h:a=c):Value.bool a=Value.bool c:=congrArg _ h
end Go.Lg
namespace Go.Lg.B
open Go Go.Conc Go.Lg
theorem pulls_bd{b:Bk}(hb:b.good){g l:Int}(h0:0≤g)(h1:g<b.gs.length)(hl:0≤l):∀y∈pulls b g l,0≤y∧y≤l:=fun y hy=>by
 simp only [pulls,List.mem_cons] at hy
 rcases hy with rfl|hy
 ·omega
 ·exact pullsGo_bd hb (hb.gear h0 h1).2.1 hl y hy
end Go.Lg.B
namespace Go.Lg.B
open Go Go.Conc Go.Lg Go.Proofs Go.Proofs.Tryz
theorem cmpI_flip(x y:Int):cmpI y x= -cmpI x y:=by unfold cmpI;split<;>split<;>(try split)<;>omega
theorem cmpL_flip:∀a c:List Int,cmpL c a= -cmpL a c
 | [], []=>rfl
 | [],_::_=>rfl
 |_::_, []=>rfl
 |x::xs,y::ys=>by
  have h:=cmpI_flip x y
  have ih:=cmpL_flip xs ys
  simp only [cmpL]
  split<;>split<;>omega
theorem cmpL_zero:∀ {a c:List Int},cmpL a c=0→a=c
 | [], [],_=>rfl
 | [],_::_,h=>by simp [cmpL] at h
 |_::_, [],h=>by simp [cmpL] at h
 |x::xs,y::ys,h=>by
  simp only [cmpL] at h
  split at h
  ·contradiction
  ·rename_i hx
   simp only [ne_eq,Decidable.not_not] at hx
   rw [cmpI_zero.1 hx,cmpL_zero h]
theorem cmpL_refl:∀a:List Int,cmpL a a=0
 | []=>rfl
 |x::xs=>by
  have:cmpI x x=0:=cmpI_zero.2 rfl
  simp [cmpL,this,cmpL_refl xs]
theorem sameInts_iff{a c:List Int}:sameInts a c=decide (a=c):=by
 unfold sameInts earlier
 have h:=cmpL_flip a c
 by_cases e:a=c
 ·subst e;simp [cmpL_refl]
 ·have:cmpL a c≠0:=fun h=>e (cmpL_zero h)
  rw [decide_eq_false e]
  by_cases h1:cmpL a c<0
  ·simp [h1]
  ·have h2:cmpL c a<0:=by omega
   simp [h2]
section
variable {main:Bool}{J:Goroutine→Mem→Prop}(hJ:Closed prog main J)
include hJ
theorem isPieceR_c{b:Bk}{v:Value}{ro:RO}(hv:BkV ro v b)(hb:b.cs.length≤1000000)(k:Int):CallP prog J (fnv 107) [v, .int .i64 k] ro (.bool (between k 0 (b.cs.length-1))):=by
 obtain⟨vp,vg,vc,vt,rfl,hp,hg,hc,ht⟩:=hv
 obtain⟨b1,c1,rfl⟩:=hc.form
 refine CallP.intro hJ (by kernel_rfl) fun c cs tail hret=>enter_X (n:=11) func107 U U (Nl U) ?_
 have C:Ctx prog main J (bf 107 .normal):=⟨hJ,by decide⟩
 refine Xr C U U<|R.box C U U U U fun p2=>Ad C U U<|Xr C U U<|Rm C U U<|Rf C 3 U U runUnderlying27 U sizeOf24<|Rl C U U isAgg24 (by repeat constructor) U<|Rn C U U runUnderlying24<|R.int C U U U U (b_sub (by omega) (by omega))<|R.callP C U U U U (betweenR_c hJ _ _ _ _)<|Ad C U U<|Xt C func107<|Hp hret ?_
 simp_all [retVal]
end
end Go.Lg.B
namespace Go.Lg.B
open Go Go.Conc Go.Lg Go.Proofs Go.WideShapes Go.ChangeShapes Go.Proofs.Tryz
theorem cells30:prog.cellsOf 30=2:=by kernel_rfl
section
variable {H:Type}{enc0:TypeId×Value→H}{W:World}{base:Nat}{sp:Nat→Bool}{held:Bool}
theorem argKs{r:Reach}{b0:Nat}{v:Value}{d:DataW H}{p:List MemPlace}(hv:Value.okWide prog W r b0 30 v)(h:DataW.Trod enc0 prog W base sp held 30 v d p):∃k,KsV (fun b=>W.heap[b]?) v k:=by
 obtain⟨⟨cs⟩,rfl,_⟩:=okWide_struct underlying30 hv
 obtain⟨n,h⟩:=h
 obtain⟨hl,hf⟩:=field_of (cs:=cs) underlying30 h
 rw [cells30] at hl
 match cs,hl with
 | [a,c],_=>
  have g0:∃n z,DataW.trod enc0 prog W base sp held n 28 (([a,c].drop 0).take (prog.cellsOf 28))=some z:=hf 0 _ rfl
  rw [cells28] at g0
  obtain⟨_,_,h0⟩:=g0
  have g1:∃n z,DataW.trod enc0 prog W base sp held n 28 (([a,c].drop 1).take (prog.cellsOf 28))=some z:=hf 1 _ rfl
  rw [cells28] at g1
  obtain⟨_,_,h1⟩:=g1
  obtain⟨v0,x0,e0,l0,m0⟩:=ints_of h0
  obtain⟨v1,x1,e1,l1,m1⟩:=ints_of h1
  simp [Rc.cells] at e0 e1
  subst e0
  subst e1
  exact⟨⟨x0,x1⟩,_,_,rfl,l0,l1⟩
theorem argInt{r:Reach}{b0:Nat}{v:Value}{d:DataW H}{p:List MemPlace}(hv:Value.okWide prog W r b0 3 v)(h:DataW.Trod enc0 prog W base sp held 3 v d p):∃n,v= .int .i64 n∧ -9223372036854775808≤n∧n≤9223372036854775807:=by
 obtain⟨x,rfl,_,_,wx⟩:=open_int underlying3 hv h
 exact⟨x,rfl,by simpa [Lit.wf,IntKind.min,IntKind.max,IntKind.signed,IntKind.bits] using wx⟩
end
end Go.Lg.B
namespace Go.Lg.B
open Go Go.Conc Go.Lg Go.Proofs Go.Proofs.Tryz
inductive LeL:List Int→List Int→Prop
 |nil:LeL [] []
 |cons {x y:Int} {a c:List Int}:x≤y→LeL a c→LeL (x::a) (y::c)
theorem LeL.getD{a c:List Int}(h:LeL a c):∀i,a.getD i 0≤c.getD i 0:=by
 induction h with
 |nil=>intro i;simp
 |cons h _ ih=>
  intro i
  cases i with
  |zero=>simpa using h
  |succ i=>simpa using ih i
end Go.Lg.B
namespace Go.Lg
open Go Go.Conc
theorem R.finish{P:Program}{main:Bool}{J:Goroutine→Mem→Prop}{b:Frame}{cs:List Frame}{n:Nat}{ds:List Deferred}{σ:Slots}{ro:RO}{own:List (Nat×Obj)}{k:List Item}{ops:Array Oper}{l:List Nat}{α:Type}{enc:α→List Value}{e:TypeId}{kk:Nat}{v:Value}{xs:List α}{tail:List (Nat×Obj)}(hJ:Closed P main J)(hk:∀x,(enc x).length=kk)(hkp:0<kk)(hb:Buf e kk tail v (xs.flatMap enc) own)
  (h:∀ro':RO,ro.le ro'→Ls enc kk ro' v xs→R J b cs n ops l k ds σ ⟨ro',tail⟩):R J b cs n ops l k ds σ ⟨ro,own⟩:=fun hok=>X.finish hJ hk hkp hb fun ro' hl hls=>h ro' hl hls hok
end Go.Lg
namespace Go.Lg.B
open Go Go.Conc Go.Lg Go.Proofs Go.Proofs.Tryz
section
variable {main:Bool}{J:Goroutine→Mem→Prop}(hJ:Closed prog main J)
include hJ
end
end Go.Lg.B
namespace Go.Lg.B
open Go Go.Conc Go.Lg Go.Proofs Go.Proofs.Tryz
theorem pullsGo_alike{b c:Bk}(h:∀x,b.sheaves x=c.sheaves x):∀ (q:List Int) (n:Int),pullsGo b n q=pullsGo c n q
 | [],_=>rfl
 |x::q,n=>by rw [pullsGo,pullsGo,h,pullsGo_alike h q]
theorem gives_alike{b c:Bk}(hw:b.w=c.w)(hg:b.gs=c.gs)(h:∀x,b.sheaves x=c.sheaves x)(p:List Int)(g n:Int):gives b p g n=gives c p g n:=by
 have e:∀g,b.gear g=c.gear g:=fun g=>by unfold Bk.gear;rw [hg]
 unfold gives pulls
 rw [hw,e,pullsGo_alike h]
theorem lifts_alike{b c:Bk}(hw:b.w=c.w)(hg:b.gs=c.gs)(h:∀x,b.sheaves x=c.sheaves x)(p:List Int)(g n:Int):lifts b p g n=lifts c p g n:=by
 unfold lifts;rw [gives_alike hw hg h]
structure RenOk(b c:Bk)(l:List Int):Prop where
 w:c.w=b.w
 gs:c.gs=b.gs
 cs:c.cs=b.cs
 ts:c.ts=b.ts
 np:c.ps.length=b.ps.length
 sh:∀x,c.sheaves x=b.sheaves x
 ps:∀i:Nat,c.ps[i]? =b.ps[i]?.map fun p=>if(i:Int)∈l then {p with r:=⟨99,99⟩ } else p
 ch:checkBook b=0→checkBook c=0
structure NoLess(b c:Bk):Prop where
 gs:c.gs.length=b.gs.length
 cs:c.cs.length=b.cs.length
 ps:c.ps.length=b.ps.length
 sure:∀m g p:Nat,g<b.gs.length→p<b.cs.length→sure b m g p=true→sure c m g p=true
 most:∀g:Int,0≤g→g<b.gs.length→most b g≤most c g
 weak:∀g n:Int,0≤g→g<b.gs.length→∀x∈weak c g n,x∈weak b g n
theorem NoLess.sureM{b c:Bk}(h:NoLess b c)(m g p:Nat)(hs:sureM b m g p=true):sureM c m g p=true:=by
 simp only [Go.Lg.B.sureM,Bool.and_eq_true,decide_eq_true_eq] at hs⊢
 rw [h.gs,h.cs]
 exact⟨hs.1,hs.2.1,h.sure _ _ _ hs.1 hs.2.1 hs.2.2⟩
structure Fewer(b c:Bk):Prop where
 w:c.w=b.w
 gs:c.gs=b.gs
 nc:c.cs.length=b.cs.length
 np:c.ps.length=b.ps.length
 sh:∀x,c.sheaves x=b.sheaves x
 cases:(cases c).Sublist (cases b)
theorem Fewer.lifts{b c:Bk}(h:Fewer b c)(p:List Int)(g n:Int):lifts c p g n=lifts b p g n:=lifts_alike h.w h.gs h.sh p g n
end Go.Lg.B
namespace Go.Lg
open Go Go.Conc
inductive FsOk(P:Program)(d:Nat)(a b:List Value):List Field→Bool→Prop
 |nil:FsOk P d a b [] true
 |cons {f:Field} {fs:List Field} {x y:Value} {r rs:Bool}:f.name≠ "_" →(∀ (M:Mem) (K:Value→Mem→Prop),K x M→Sm P M (part f.type a.toArray f.offset) K)→(∀ (M:Mem) (K:Value→Mem→Prop),K y M→Sm P M (part f.type b.toArray f.offset) K)→Eq1 P d f.type x y r→FsOk P d a b fs rs→FsOk P d a b (f::fs) (r && rs)
theorem Eq1.int{P:Program}{d:Nat}{t:TypeId}{x y:Int}(hu:∀w,Sem.run P (Go.underlying t) w= .ok (.int .i64) w):Eq1 P (d+1) t (.int .i64 x) (.int .i64 y) (x==y):=by
 intro M K hk
 unfold Op.equalIn
 refine Sm.bind (Sm.underlying hu ?_)
 simp only [if_true]
 exact Sm.pure hk
theorem Eq1.bool{P:Program}{d:Nat}{t:TypeId}{x y:Bool}(hu:∀w,Sem.run P (Go.underlying t) w= .ok .bool w):Eq1 P (d+1) t (.bool x) (.bool y) (x==y):=by
 intro M K hk
 unfold Op.equalIn
 refine Sm.bind (Sm.underlying hu ?_)
 exact Sm.pure hk
theorem bts_beq(x y:List UInt8):((⟨x.toArray⟩:ByteArray)==⟨y.toArray⟩)=(x==y):=by
 show(x.toArray==y.toArray)=(x==y)
 simp
theorem Eq1.str{P:Program}{d:Nat}{t:TypeId}{x y:List UInt8}(hu:∀w,Sem.run P (Go.underlying t) w= .ok .string w):Eq1 P (d+1) t (strV x) (strV y) (x==y):=by
 intro M K hk
 unfold Op.equalIn
 refine Sm.bind (Sm.underlying hu ?_)
 simp only [bts_beq]
 exact Sm.pure hk
end Go.Lg
namespace Go.Lg.B
open Go Go.Conc Go.Lg Go.Proofs Go.Proofs.Tryz
structure Bk.tiny(b:Bk):Prop where
 ps:b.ps.length≤1000
 gs:b.gs.length≤1000∧∀g∈b.gs,g.length≤1000
 cs:b.cs.length≤1000
 ts:b.ts.length≤1000
theorem getLastD_snoc(l:List Int)(x:Int):(l++ [x]).getLastD 0=x:=by simp [List.getLastD_eq_getLast?]
variable {main:Bool}{J:Goroutine→Mem→Prop}(hJ:Closed prog main J)
include hJ
theorem behindR_c{n s:Int}(hn:0≤n∧n≤99)(hs:0≤s∧s≤4)(ro:RO):CallP prog J (fnv 171) [.int .i64 n, .int .i64 s] ro (.int .i64 (behind n s)):=by
 have hm:=mul_bd hn.1 hn.2 hs.1 hs.2
 refine CallP.intro hJ (by kernel_rfl) fun c cs tail hret=>enter_X (n:=18) func171 U U (Nl U) ?_
 have C:Ctx prog main J (bf 171 .normal):=⟨hJ,by decide⟩
 refine Xr C U U<|Ad C U U<|Xr C U U<|Rm C U U<|Ra C U U U<|R.int C U U U U (b_mul (by omega) (by omega))<|Ad C U U<|Xr C U U<|Rm C U U<|Rm C U U<|Ra C U U U<|R.int C U U U U (b_mul (by omega) (by omega))<|Rm C U U<|Ra C U U U<|R.int C U U U U (b_sub (by omega) (by omega))<|Rm C U U<|R.int C U U U U (b_quoP (by omega) (by omega) (by omega))<|Ad C U U<|Xt C func171<|Hp hret ?_
 rfl
theorem pullsOfR_c{b:Bk}{v:Value}{ro:RO}(hv:BkV ro v b)(hb:b.good){g l:Int}(hg:0≤g∧g<b.gs.length)(hl:0≤l∧l≤99):CallR prog J (fnv 102) [v, .int .i64 g, .int .i64 l] ro (fun w ro'=>LsI ro' w (pulls b g l)):=by
 obtain⟨vp,vg,vc,vt,rfl,hp,hgs,hc,ht⟩:=hv
 obtain⟨pb,pc,rfl⟩:=hp.form
 obtain⟨cb,cc,rfl⟩:=hc.form
 obtain⟨tb,tc,rfl⟩:=ht.form
 obtain⟨pp,po,pcap,pl,ptt,pfq,hpe,hpro,hpsub⟩:=hp.at Pt.len (by have:=hb.np;omega)
 cases hpe
 obtain⟨gp,go,gcap,gl,gt,gfq,rfl,hgro,hgsub⟩:=hgs.at (by omega)
 obtain⟨qb,qc,hqat,hqcap,hq⟩:=hgsub g.toNat (by omega)
 have hgear:b.gs[g.toNat]'(by omega)=b.gear g:=by simp [Bk.gear,List.getD_eq_getElem?_getD,show g.toNat<b.gs.length by omega]
 rw [hgear] at hqat hqcap hq
 have hgn:=hb.gear hg.1 hg.2
 have hgl:=hb.gearLen hg.1 hg.2
 have hpl:pulls b g l=l::pullsGo b l (b.gear g):=rfl
 rw [hpl]
 generalize b.gear g=q at hqat hqcap hq hgn hgl
 refine CallR.intro hJ (by kernel_rfl) fun c cs tail hret=>enter_X (n:=39) func102 U U (Nl U) ?_
 have C:Ctx prog main J (bf 102 .normal):=⟨hJ,by decide⟩
 refine Xr C U U<|R.box C U U U U fun p3=>Ad C U U<|Xr C U U<|Rm C U U<|R.buildSlice C (vs:=_) U U (show pvals _ _=some (numbered 0 [_]) from rfl) U runUnderlying28 sizeOf3 zeroValue3 (by decide) (Cat.one U U) fun p11=>Ad C U U<|Xr C U U<|Rf C 2 U U runUnderlying27 U sizeOf23<|Rl C U U isAgg23 (by repeat constructor) U<|Rm C U U<|Rx C U U U runUnderlying23 sizeOf28<|R.loadOneRo C U U U isAgg28 hgro hqat<|Ad C U U<|Xs C<|Xr C U U<|Ad C U U<|X.block C.1<|X.loopI (ι:=Nat×Value×List (Nat×Obj)) C.1 (fun s=>s.1≤q.length∧Buf 3 1 ((p3, .cells [.int .i64 b.w, .slice (some ⟨pp,po,none⟩) b.ps.length pc, .slice (some ⟨gp,go,none⟩) b.gs.length gcap, .slice cb b.cs.length cc, .slice tb b.ts.length tc].toArray 27 (0,0))::tail) s.2.1 ((l::pullsGo b l (q.take s.1)).flatMap ic) s.2.2)
  (fun s=> [(2, .int .i64 ((l::pullsGo b l (q.take s.1)).getLastD 0)),(7,s.2.1),(8, .slice qb q.length qc),(9, .int .i64 (s.1:Int)),(3, .pointer (some ⟨p3,0,none⟩))])
  (fun s=>⟨ro,s.2.2⟩) (fun s=>q.length-s.1) (0,_,_) ⟨Nat.zero_le _, ?_⟩ rfl ⟨U,U,U,U,U,trivial⟩ fun s hi hnext=>?_
 ·exact .blk (p:=p11) (cells:= [.int .i64 l]) (spare:= []) (cap:=1) (len:=1) rfl rfl (Nat.le_refl _)
 obtain⟨i,vo,own⟩:=s
 obtain⟨hi,hbuf⟩:=hi
 simp only at hi hbuf hnext⊢
 obtain⟨p9,cap9,spare9,rfl,rfl⟩:=bufAt hbuf (by simp [ic])
 refine Xs C<|Xr C U U<|Rm C U U<|Rm C U U<|Rn C U U runUnderlying28<|R.int C U U U U b_lss<|R.done C<|Xk C U (fun hlt=>?_) (fun hlt=>?_)
 ·have hi':i<q.length:=by omega
  obtain⟨p,off,cap,ll,t,fq,hsl',hrop,hsub⟩:=hq.at ic_len (by omega)
  cases hsl'
  have hat:=ic_at hsub hi'
  have hn:=hgn.2.1 _ (List.getElem_mem hi')
  have htk:q.take (i+1)=q.take i++ [q[i]]:=List.take_succ_eq_append_getElem hi'
  have hacc:=pullsGo_snoc b (q.take i) l q[i]
  rw [←htk] at hacc
  generalize q[i]=m at hat hn hacc
  have hs:=hb.sheaves hn.1 hn.2
  have hsh:(b.ps[m.toNat]'(by omega)).sh=b.sheaves m:=by simp [Bk.sheaves,List.getD_eq_getElem?_getD,show m.toNat<b.ps.length by omega]
  have hpt:=pt_sh (hpsub m.toNat (by omega))
  rw [hsh] at hpt
  have hbd:0≤(l::pullsGo b l (q.take i)).getLastD 0∧(l::pullsGo b l (q.take i)).getLastD 0≤99:=by
   have h1:(l::pullsGo b l (q.take i)).getLastD 0∈l::pullsGo b l (q.take i):=by
    rw [List.getLastD_eq_getLast?,List.getLast?_eq_getLast (by simp)];exact List.getLast_mem _
   rcases List.mem_cons.1 h1 with h2|h2
   ·rw [h2];exact hl
   ·have:=pullsGo_bd hb (fun x hx=>hgn.2.1 x (List.mem_of_mem_take hx)) hl.1 _ h2;omega
  have hlen:(pullsGo b l (q.take i)).length=i:=by rw [pullsGo_len];simp;omega
  have hfl:((l::pullsGo b l (q.take i)).flatMap ic).length=i+1:=by rw [flat_len,List.length_cons,hlen]
  have hlast:(l::pullsGo b l (q.take (i+1))).getLastD 0=behind ((l::pullsGo b l (q.take i)).getLastD 0) (b.sheaves m):=by
   rw [hacc, ←List.cons_append,getLastD_snoc]
  generalize hx:(l::pullsGo b l (q.take i)).getLastD 0=x at hbd hacc hlast
  generalize b.sheaves m=sm at hs hpt hacc hlast
  refine X.skip C.1<|Xs C<|X.block C.1<|Xs C<|Xd C fun hok=>Dm C 0 hok U U U<|Df (off':=1) C 1 hok U U U runUnderlying27 U sizeOf22 U<|D1 C 2 hok U U isAgg22 (by repeat constructor) U<|Dm C 3 hok U U U<|Dm C 4 hok U U U<|Dx C 5 hok U U U runUnderlying28 sizeOf3<|D2 C 6 hok U U isAgg3 hrop hat<|Dx C 7 hok U U U runUnderlying22 sizeOf67<|Df C 8 hok U U U runUnderlying67 U sizeOf3 U<|D2 C 9 hok U U isAgg3 hpro hpt<|De 10 (some 33) [false,false,false] hok (fun _ _ A hk=>?_)
  refine R.callP C U (A.w U U) (A.x U U) (A.s U U) (behindR_c hJ hbd hs _) (hk _ _ ⟨QFs.nil, ?_⟩)
  refine Da C 11 hok U U<|D.done C hok (by kernel_rfl)<|X.region C U U<|Rm C U U<|Rm C U U<|R.buildSlice C (vs:=_) U U (show pvals _ _=some (numbered 0 [_]) from rfl) U runUnderlying28 sizeOf3 zeroValue3 (by decide) (Cat.one U U) fun p36=>R.append1 (kk:=1) C U U U U runUnderlying28 runUnderlying28 (fun _=>nofun) (show prog.info? 3=some Tryz.t3 by kernel_rfl) U U U (by decide) (by decide) hbuf U U (by simp only [List.length_append,List.length_cons,List.length_nil];omega) fun v' own' hb'=>Ad C U U<|X.inBlock C.1<|X.region C U U<|Rm C U U<|Ra C U U U<|Ad C U U<|X.weaken ?_ (hnext (i+1,v',own') ⟨hi', ?_⟩ ?_)
  ·exact⟨by simp only [look];rw [hlast],rfl,rfl,by simp [look],rfl,trivial⟩
  ·rw [hacc, ←List.cons_append,List.flatMap_append]
   exact hb'
  ·simp only;omega
 ·obtain rfl:i=q.length:=by omega
  rw [List.take_length] at hbuf⊢
  refine X.exit C.1 U<|Xr C U U<|R.finish C.1 ic_len (by decide) hbuf fun ro' hle hls=>Rm C U U<|Ad C U U<|Xt C func102<|Hr hret hle ?_
  exact hls
theorem givesOfR_c{b:Bk}{v vp':Value}{ro:RO}{p:List Int}(hv:BkV ro v b)(hb:b.good)(hp0:LsI ro vp' p)(hpl:p.length=b.ps.length){g l:Int}(hg:0≤g∧g<b.gs.length)(hl:0≤l∧l≤99):CallR prog J (fnv 60) [v,vp', .int .i64 g, .int .i64 l] ro (fun w ro'=>LsI ro' w (gives b p g l)):=by
 have hvv:=hv
 obtain⟨vp,vg,vc,vt,rfl,hp,hgs,hc,ht⟩:=hv
 obtain⟨pb,pc,rfl⟩:=hp.form
 obtain⟨cb,cc,rfl⟩:=hc.form
 obtain⟨tb,tc,rfl⟩:=ht.form
 obtain⟨gp,go,gcap,gl,gt,gfq,rfl,hgro,hgsub⟩:=hgs.at (by omega)
 obtain⟨qb,qc,hqat,hqcap,hq⟩:=hgsub g.toNat (by omega)
 have hgear:b.gs[g.toNat]'(by omega)=b.gear g:=by simp [Bk.gear,List.getD_eq_getElem?_getD,show g.toNat<b.gs.length by omega]
 rw [hgear] at hqat hqcap hq
 have hgn:=hb.gear hg.1 hg.2
 have hgl:=hb.gearLen hg.1 hg.2
 have hpn:=pulls_len b g l
 have hnp:=hb.np
 have hwb:=hb.w
 have hpb:=pulls_bd hb hg.1 hg.2 hl.1
 obtain⟨kp,ko,kcap,kl,kt,kfq,hks,hkro,hksub⟩:=hp0.at ic_len (by omega)
 subst hks
 have hgv:gives b p g l=givesTo p (b.gear g) (pulls b g l) (b.gear g).length++(if b.w<(pulls b g l).getD (b.gear g).length 0 then [((b.gear g).length:Int)] else []):=rfl
 have hpo:=pullsOfR_c hJ hvv hb hg hl
 rw [hgv]
 generalize b.gear g=q at hqat hqcap hq hgn hgl hpn
 generalize pulls b g l=ls at hpn hpo hpb
 refine CallR.intro hJ (by kernel_rfl) fun c cs tail hret=>enter_X (n:=58) func60 U U (Nl U) ?_
 have C:Ctx prog main J (bf 60 .normal):=⟨hJ,by decide⟩
 refine Xr C U U<|R.box C U U U U fun p4=>Ad C U U<|Xs C<|Xd C fun hok=>Df (off':=2) C 0 hok U U U runUnderlying27 U sizeOf23 U<|D1 C 1 hok U U isAgg23 (by repeat constructor) U<|Dm C 2 hok U U U<|Dx C 3 hok U U U runUnderlying23 sizeOf28<|D2 C 4 hok U U isAgg28 (by first|exact hgro|exact hl1 _ _ hgro) hqat<|D5 C 5 hok U U isAgg27 sizeOf27 (by repeat constructor) Tk5<|Dm C 6 hok U U U<|Dm C 7 hok U U U<|De 8 (some 21) [false,true,true] hok (fun _ _ A hk=>?_)
 refine R.callR C U (A.w U U) (A.x U U) (A.s U U) (hpo) fun w1 ro1 hl1 hw=>hk _ _ ⟨(QFs.cons (QF.of U (fun _ _ A h=>R.loadOneRo C U (A.w U U) (A.x U U) isAgg28 (by first|exact hgro|exact hl1 _ _ hgro) hqat h)) (QFs.cons (QF.of U (fun _ _ A h=>R.loadOne C U (A.w U U) (A.x U U) isAgg23 (by repeat constructor) U h)) QFs.nil)), ?_⟩
 obtain⟨wp,wo,wcap,wl,wt,wfq,rfl,hwro,hwsub⟩:=hw.at ic_len (by omega)
 refine Da C 9 hok U U<|Da C 10 hok U U<|D.done C hok (by kernel_rfl)<|Xr C U U<|Ad C U U<|Xs C<|Xr C U U<|Ad C U U<|X.block C.1<|X.loopI (ι:=Nat×Value×List (Nat×Obj)) C.1 (fun s=>s.1≤q.length∧Buf 3 1 [] s.2.1 ((givesTo p q ls s.1).flatMap ic) s.2.2)
  (fun s=> [(1, .slice (some ⟨kp,ko,none⟩) p.length kcap),(9, .slice qb q.length qc),(10, .slice (some ⟨wp,wo,none⟩) ls.length wcap),(11,s.2.1),(12, .int .i64 (s.1:Int)),(4, .pointer (some ⟨p4,0,none⟩))])
  (fun s=>⟨ro1,s.2.2++((p4, .cells [.int .i64 b.w, .slice pb b.ps.length pc, .slice (some ⟨gp,go,none⟩) b.gs.length gcap, .slice cb b.cs.length cc, .slice tb b.ts.length tc].toArray 27 (0,0))::tail)⟩) (fun s=>q.length-s.1) (0, .slice none 0 0, []) ⟨Nat.zero_le _, .nil⟩ rfl ⟨U,U,U,U,U,U,trivial⟩ fun s hi hnext=>?_
 obtain⟨i,vo,own⟩:=s
 obtain⟨hi,hbuf⟩:=hi
 simp only at hi hbuf hnext⊢
 have hgn0:=givesTo_len p q ls i
 have hgn1:=flat_len (givesTo p q ls i)
 refine Xs C<|Xr C U U<|Rm C U U<|Rm C U U<|Rn C U U runUnderlying28<|R.int C U U U U b_lss<|R.done C<|Xk C U (fun hlt=>?_) (fun hlt=>?_)
 ·have hi':i<q.length:=by omega
  obtain⟨p9,off,cap,ll,t,fq,hsl',hrop,hsub⟩:=hq.at ic_len (by omega)
  cases hsl'
  have hat:=ic_at hsub hi'
  have hwat:=ic_at hwsub (i:=i) (by omega)
  have hn:=hgn.2.1 _ (List.getElem_mem hi')
  have hkl:q[i].toNat<p.length:=by omega
  have hkat:=ic_at hksub hkl
  have hstep:=givesTo_succ p q ls i
  have hgp:givesP p q ls i=decide (p[q[i].toNat]<ls[i]'(by omega)):=by
   unfold givesP nth
   simp [List.getD_eq_getElem?_getD,hi',hkl,show i<ls.length by omega]
  rw [hgp] at hstep
  generalize p[q[i].toNat]=y at hkat hstep
  generalize ls[i]'(by omega)=z at hwat hstep
  generalize q[i]=m at hat hn hkl hkat
  have hrop1:=hl1 _ _ hrop
  have hkro1:=hl1 _ _ hkro
  refine X.skip C.1<|Xs C<|X.block C.1<|Xs C<|Xd C fun hok=>Dm C 0 hok U U U<|Dm C 1 hok U U U<|Dx C 2 hok U U U runUnderlying28 sizeOf3<|D2 C 3 hok U U isAgg3 hwro hwat<|Dm C 4 hok U U U<|Dm C 5 hok U U U<|Dm C 6 hok U U U<|Dx C 7 hok U U U runUnderlying28 sizeOf3<|D2 C 8 hok U U isAgg3 hrop1 hat<|Dx C 9 hok U U U runUnderlying28 sizeOf3<|D2 C 10 hok U U isAgg3 hkro1 hkat<|Di C 11 hok U U U U U b_gtr<|D.done C hok (by kernel_rfl)<|X.cond C.1 U (fun hgv1=>?_) (fun hgv1=>?_)
  ·rw [if_pos (by simpa using hgv1)] at hstep
   refine X.region C U U<|Rm C U U<|Rm C U U<|R.buildSlice C (vs:=_) U U (show pvals _ _=some (numbered 0 [_]) from rfl) U runUnderlying28 sizeOf3 zeroValue3 (by decide) (Cat.one U U) fun p42=>R.append1 (kk:=1) C U U U U runUnderlying28 runUnderlying28 (fun _=>nofun) (show prog.info? 3=some Tryz.t3 by kernel_rfl) U U U (by decide) (by decide) (hbuf.app _) U U (by simp only [List.length_append,List.length_cons,List.length_nil];omega) fun v' own' hb'=>Ad C U U<|X.inBlock C.1<|X.region C U U<|Rm C U U<|Ra C U U U<|Ad C U U ?_
   obtain⟨own3,rfl,hb3⟩:=Buf.unapp (tail:= []) hb'
   refine X.weaken ?_ (hnext (i+1,v',own3) ⟨hi', ?_⟩ (by simp only;omega))
   ·exact⟨rfl,rfl,rfl,rfl,by simp [look],rfl,trivial⟩
   ·rw [hstep,List.flatMap_append];exact hb3
  ·rw [if_neg (by simpa using hgv1)] at hstep
   refine X.skip C.1<|X.inBlock C.1<|X.region C U U<|Rm C U U<|Ra C U U U<|Ad C U U<|X.weaken ?_ (hnext (i+1,vo,own) ⟨hi',by rw [hstep];exact hbuf⟩ (by simp only;omega))
   exact⟨rfl,rfl,rfl,rfl,by simp [look],rfl,trivial⟩
 ·obtain rfl:i=q.length:=by omega
  have hwat:=ic_at hwsub (i:=q.length) (by omega)
  have hlsD:ls.getD q.length 0=ls[q.length]'(by omega):=by simp [List.getD_eq_getElem?_getD,show q.length<ls.length by omega]
  rw [hlsD] at hret
  generalize ls[q.length]'(by omega)=z at hwat hlsD hret
  refine X.exit C.1 U<|Xs C<|Xs C<|Xd C fun hok=>Dm C 0 hok U U U<|Dm C 1 hok U U U<|Ds C 2 hok U U runUnderlying28<|Dx C 3 hok U U U runUnderlying28 sizeOf3<|D2 C 4 hok U U isAgg3 hwro hwat<|Df (off':=0) C 5 hok U U U runUnderlying27 U sizeOf3 U<|Dl 6 hok (fun _ _ A h=>R.loadOne C U (A.w U U) (A.x U U) isAgg3 (by repeat (first|exact Mh|apply Mt|apply List.mem_append_right)) U h)<|Di C 7 hok U U U U U b_gtr<|D.done C hok (by kernel_rfl)<|X.cond C.1 U (fun hz=>?_) (fun hz=>?_)
  ·have hz:b.w<z:=by simpa using hz
   refine X.region C U U<|Rm C U U<|Rm C U U<|Rn C U U runUnderlying28<|R.buildSlice C (vs:=_) U U (show pvals _ _=some (numbered 0 [_]) from rfl) U runUnderlying28 sizeOf3 zeroValue3 (by decide) (Cat.one U U) fun p55=>R.append1 (kk:=1) C U U U U runUnderlying28 runUnderlying28 (fun _=>nofun) (show prog.info? 3=some Tryz.t3 by kernel_rfl) U U U (by decide) (by decide) (hbuf.app _) U U (by simp only [List.length_append,List.length_cons,List.length_nil];omega) fun v' own' hb'=>Ad C U U<|Xs C ?_
   obtain⟨own3,rfl,hb3⟩:=Buf.unapp (tail:= []) hb'
   have hcat:(givesTo p q ls q.length).flatMap ic++ [Value.int .i64 (q.length:Int)]=(givesTo p q ls q.length++ [(q.length:Int)]).flatMap ic:=by rw [List.flatMap_append];rfl
   rw [hcat] at hb3
   refine X.finish C.1 ic_len (by decide) (hb3.app _) fun ro4 hl4 hls4=>X.region C U U<|Rm C U U<|Ad C U U<|Xt C func60<|Hr hret (RO.le_trans hl1 hl4) ?_
   rw [if_pos hz];exact hls4
  ·have hz:¬b.w<z:=by simpa using hz
   refine X.skip C.1<|Xs C<|X.finish C.1 ic_len (by decide) (hbuf.app _) fun ro4 hl4 hls4=>X.region C U U<|Rm C U U<|Ad C U U<|Xt C func60<|Hr hret (RO.le_trans hl1 hl4) ?_
   rw [if_neg hz,List.append_nil];exact hls4
theorem liftsOfR_c{b:Bk}{v vp':Value}{ro:RO}{p:List Int}(hv:BkV ro v b)(hb:b.good)(hp0:LsI ro vp' p)(hpl:p.length=b.ps.length){g l:Int}(hg:0≤g∧g<b.gs.length)(hl:1≤l∧l≤99):CallR prog J (fnv 59) [v,vp', .int .i64 g, .int .i64 l] ro (fun w _=>w= .bool (lifts b p g l)):=by
 have hvv:=hv
 obtain⟨vp,vg,vc,vt,rfl,hp,hgs,hc,ht⟩:=hv
 obtain⟨_,_,rfl⟩:=hp.form
 obtain⟨_,_,rfl⟩:=hgs.form
 obtain⟨_,_,rfl⟩:=hc.form
 obtain⟨_,_,rfl⟩:=ht.form
 have hgl:=gives_len b p g l
 have hgl2:=hb.gearLen hg.1 hg.2
 refine CallR.intro hJ (by kernel_rfl) fun c cs tail hret=>enter_X (n:=16) func59 U U (Nl U) ?_
 have C:Ctx prog main J (bf 59 .normal):=⟨hJ,by decide⟩
 refine Xr C U U<|R.box C U U U U fun p4=>Ad C U U<|Xr C U U<|R5 C U U isAgg27 sizeOf27 (by repeat constructor) Tk5<|Rm C U U<|Rm C U U<|Rm C U U<|R.callR C U U U U (givesOfR_c hJ hvv hb hp0 hpl hg (by omega)) fun w1 ro1 hl1 hw=>?_
 obtain⟨_,_,rfl⟩:=hw.form
 refine Rn C U U runUnderlying28<|R.int C U U U U b_eql<|Ad C U U<|Xt C func59<|Hr hret hl1 ?_
 unfold lifts
 rw [show(l==0)=false by rw [beq_eq_false_iff_ne];omega,Bool.false_or]
 refine congrArg Value.bool ?_
 rw [Bool.eq_iff_iff,beq_iff_eq,beq_iff_eq];omega
theorem testedR_c{b:Bk}{v vp':Value}{ro:RO}{p:List Int}(hv:BkV ro v b)(hb:b.good)(hp0:LsI ro vp' p)(hpl:p.length=b.ps.length):CallR prog J (fnv 109) [v,vp'] ro (fun w _=>w= .bool (right b p)):=by
 have hvv:=hv
 obtain⟨vp,vg,vc,vt,rfl,hp,hgs,hc,ht⟩:=hv
 obtain⟨pb,pc,rfl⟩:=hp.form
 obtain⟨gb,gc,rfl⟩:=hgs.form
 obtain⟨cb,cc,rfl⟩:=hc.form
 obtain⟨tb,tc,rfl⟩:=ht.form
 have hnt:=hb.nt
 obtain⟨kb,kc,hks⟩:=hp0.form
 subst hks
 refine CallR.intro hJ (by kernel_rfl) fun c cs tail hret=>enter_X (n:=29) func109 U U (Nl U) ?_
 have C:Ctx prog main J (bf 109 .normal):=⟨hJ,by decide⟩
 refine Xr C U U<|R.box C U U U U fun p2=>Ad C U U<|Xs C<|Xr C U U<|Ad C U U<|X.block C.1<|X.loopI (ι:=Nat×RO) C.1 (fun s=>s.1≤b.ts.length∧ro.le s.2∧∀j (hj:j<b.ts.length),j<s.1→(lifts b p (b.ts[j]).g (b.ts[j]).l==(b.ts[j]).held)=true) (fun s=> [(1, .slice kb p.length kc),(2, .pointer (some ⟨p2,0,none⟩)),(5, .int .i64 (s.1:Int))])
  (fun s=>⟨s.2,(p2, .cells [.int .i64 b.w, .slice pb b.ps.length pc, .slice gb b.gs.length gc, .slice cb b.cs.length cc, .slice tb b.ts.length tc].toArray 27 (0,0))::tail⟩) (fun s=>b.ts.length-s.1) (0,ro) ⟨Nat.zero_le _,RO.le_refl _,fun j _ hj=>absurd hj (Nat.not_lt_zero _)⟩ rfl ⟨U,U,U,trivial⟩ fun s hs hnext=>?_
 obtain⟨i,ro1⟩:=s
 obtain⟨hi,hle,hall⟩:=hs
 simp only at hi hle hall hnext⊢
 refine Xs C<|Xr C U U<|Rm C U U<|Rf C 4 U U runUnderlying27 U sizeOf25<|Rl C U U isAgg25 (by repeat constructor) U<|Rn C U U runUnderlying25<|R.int C U U U U b_lss<|R.done C<|Xk C U (fun hlt=>?_) (fun hlt=>?_)
 ·have hi':i<b.ts.length:=by omega
  obtain⟨pp,off,cap,ll,ty,fq,hsl,hrop,hsub⟩:=(ht.mono hle).at Ts.len (by omega)
  cases hsl
  have hsi:=hsub i hi'
  have hts:=hb.ts _ (List.getElem_mem hi')
  have hnx:(lifts b p (b.ts[i]).g (b.ts[i]).l==(b.ts[i]).held)=false→right b p=false:=fun h=>by
   unfold right
   rw [List.all_eq_false]
   exact⟨_,List.getElem_mem hi',by simp [h]⟩
  have hst:(lifts b p (b.ts[i]).g (b.ts[i]).l==(b.ts[i]).held)=true→∀j (hj:j<b.ts.length),j<i+1→(lifts b p (b.ts[j]).g (b.ts[j]).l==(b.ts[j]).held)=true:=fun h j hj hji=>by
   by_cases e:j=i
   ·subst e;exact h
   ·exact hall j hj (by omega)
  generalize b.ts[i]=t at hsi hts hnx hst
  have hsi:Sub (off+i*3) 3 ll [.int .i64 t.g, .int .i64 t.l, .bool t.held]:=hsi
  refine X.skip C.1<|Xs C<|X.block C.1<|Xr C U U<|Rf C 4 U U runUnderlying27 U sizeOf25<|Rl C U U isAgg25 (by repeat constructor) U<|Rm C U U<|Rx C U U U runUnderlying25 sizeOf92<|R.loadAggRo C U U U isAgg92 sizeOf92 hrop hsi<|R.alloc C U U zeroValue92 U fun p6=>R.store C U U U U sizeOf92 U U U (by repeat constructor) Ph3<|R.done C<|Xs C<|Xd C fun hok=>D5 C 0 hok U U isAgg27 sizeOf27 (by repeat constructor) Tk5<|Dm C 1 hok U U U<|Df (off':=0) C 2 hok U U U runUnderlying92 U sizeOf3 U<|D1 C 3 hok U U isAgg3 (by repeat constructor) U<|Df (off':=1) C 4 hok U U U runUnderlying92 U sizeOf3 U<|D1 C 5 hok U U isAgg3 (by repeat constructor) U<|Df (off':=2) C 7 hok U U U runUnderlying92 U sizeOf4 U<|D1 C 8 hok U U isAgg4 (by repeat constructor) U<|De 6 (some 25) [true,false,false,false] hok (fun _ _ A hk=>?_)
  refine R.callR C U (A.w U U) (A.x U U) (A.s U U) (liftsOfR_c hJ (hvv.mono hle) hb (hp0.mono hle) hpl hts.1 hts.2) fun w2 ro2 hl2 hw=>hk _ _ ⟨(QFs.cons (QF.of U (fun _ _ A h=>R.loadOne C U (A.w U U) (A.x U U) isAgg4 (by repeat constructor) U h)) QFs.nil), ?_⟩
  subst hw
  refine Dp 9 hok (fun _ _ _ A h=>R.neBool C U (A.w U U) (A.x U U) (A.x U U) runUnderlying4 h)<|D.done C hok (by kernel_rfl)<|X.cond C.1 U (fun hne=>?_) (fun hne=>?_)
  ·have hne:(lifts b p t.g t.l==t.held)=false:=by simpa using hne
   refine Xr C U U<|Ad C U U<|Xt C func109<|Hr hret (RO.le_trans hle hl2) ?_
   rw [hnx hne];rfl
  ·have hne:(lifts b p t.g t.l==t.held)=true:=by simpa using hne
   refine X.skip C.1<|X.inBlock C.1<|X.region C U U<|Rm C U U<|Ra C U U U<|Ad C U U<|X.drop C.1 (own':=_::tail) (List.sublist_cons_self _ _)<|X.weaken ?_ (hnext (i+1,ro2) ⟨hi',RO.le_trans hle hl2,hst hne⟩ (by simp only;omega))
   exact⟨rfl,rfl,by simp [look],trivial⟩
 ·obtain rfl:i=b.ts.length:=by omega
  refine X.exit C.1 U<|Xr C U U<|Ad C U U<|Xt C func109<|Hr hret hle ?_
  have:right b p=true:=by
   unfold right
   rw [List.all_eq_true]
   intro t ht
   obtain⟨j,hj,rfl⟩:=List.getElem_of_mem ht
   exact hall j hj hj
  rw [this];rfl
end Go.Lg.B
namespace Go.Lg.B
open Go Go.Conc Go.Lg Go.Proofs Go.Proofs.Tryz
def nothing:Bk:=⟨0, [], [], [], []⟩
def newB(b:Bk)(h:Int):Bk:=if h=0 then b else nothing
theorem noBk_v(ro:RO):BkV ro noBk nothing:=⟨_,_,_,_,rfl, .nil,⟨[], .nil,rfl,fun z hz=>by cases hz⟩, .nil, .nil⟩
theorem NewV.bk{ro:RO}{b:Bk}{h:Int}{w:Value}(hn:NewV ro b h w):∃v,BkV ro v (newB b h)∧w= .tuple [v, .int .i64 h].toArray:=by
 rcases hn with⟨h0,rfl⟩|⟨rfl,v,hv,rfl⟩
 ·exact⟨_,by rw [newB,if_neg h0];exact noBk_v ro,rfl⟩
 ·exact⟨v,hv,rfl⟩
theorem sub_part{off n m k:Nat}{l c:List Value}(h:Sub off (n+1) l c)(hk:k+m≤n+1)(hc:c.length=n+1):Sub (off+k) m l ((c.drop k).take m):=by
 have h1:=h.get n (by omega)
 rw [List.getElem?_eq_getElem (show n<c.length by omega)] at h1
 have h2:=(List.getElem?_eq_some_iff.1 h1).1
 refine Sub.of_get (by omega) (by rw [List.length_take,List.length_drop];omega) fun i hi=>?_
 rw [Nat.add_assoc,h.get (k+i) (by omega),List.getElem?_take,if_pos hi,List.getElem?_drop]
theorem any_at{α:Type}{p:α→Bool}{l:List α}{i:Nat}(h:i<l.length)(hp:p l[i]=true):l.any p=true:=by
 rw [List.any_eq_true];exact⟨_,List.getElem_mem h,hp⟩
theorem any_none{α:Type}{p:α→Bool}{l:List α}(h:∀j (hj:j<l.length),j<l.length→p l[j]=false):l.any p=false:=by
 rw [List.any_eq_false]
 intro x hx
 obtain⟨j,hj,rfl⟩:=List.getElem_of_mem hx
 simp [h j hj hj]
theorem loadH_if(n:Int):loadH n=if between n 1 99=true then 0 else 1:=rfl
theorem handed_ok{b:Bk}{k:Ks}(h:handedH b k=0):k.ks.length=b.ps.length∧k.ws.length=b.cs.length∧∀x∈k.ws,1≤x∧x≤99:=by
 unfold handedH at h
 obtain⟨h1,h⟩:=ite_zero (by decide) h
 obtain⟨h2,_⟩:=ite_zero (by decide) h
 simp only [Bool.or_eq_true,not_or,Bool.not_eq_true,List.any_eq_false] at h2
 refine⟨by omega,by omega,fun x hx=>?_⟩
 have:=h2.2 x hx
 exact loadH_zero.1 (by simpa using this)
theorem pullsR_len{b:Bk}(hs:b.short)(g n:Int):(pullsR b g n).1.length≤1000000:=by
 unfold pullsR
 split
 ·exact Nat.zero_le _
 ·split
  ·exact Nat.zero_le _
  ·split
   ·exact Nat.zero_le _
   ·rename_i h1 h2 _
    have h1:checkBook b=0:=Classical.not_not.1 h1
    have h2:=there_zero.1 (Classical.not_not.1 h2)
    have:=(good_of h1).gearLen h2.1 h2.2
    simp only [pulls_len];omega
theorem case_iff{b:Bk}{p w:List Int}:((p,w):Tn)∈cases b↔(p.length=b.ps.length∧∀ (i:Nat) (x:Int) (q:Pt),p[i]? =some x→b.ps[i]? =some q→q.r.lo≤x∧x≤q.r.hi)∧(w.length=b.cs.length∧∀ (i:Nat) (x:Int) (q:Pc),w[i]? =some x→b.cs[i]? =some q→q.r.lo≤x∧x≤q.r.hi)∧right b p=true:=by
 have key:∀ (rs:List Rc) (l:List Int),l∈spread rs↔l.length=rs.length∧∀ (i:Nat) (x:Int) (r:Rc),l[i]? =some x→rs[i]? =some r→r.lo≤x∧x≤r.hi:=fun rs l=>by
  rw [mem_spread]
  constructor
  ·rintro⟨h1,h2⟩
   refine⟨h1,fun i x r hx hr=>?_⟩
   obtain⟨y,hy,h3⟩:=h2 i r hr
   rw [hx] at hy;cases hy;exact h3
  ·rintro⟨h1,h2⟩
   refine⟨h1,fun i r hr=>?_⟩
   have hi:i<l.length:=by rw [h1];exact(List.getElem?_eq_some_iff.1 hr).1
   exact⟨l[i],List.getElem?_eq_getElem hi,h2 i _ r (List.getElem?_eq_getElem hi) hr⟩
 rw [mem_cases]
 unfold bearsL weightsL
 rw [List.mem_filter,key,key,List.length_map,List.length_map]
 constructor
 ·rintro⟨⟨⟨h1,h2⟩,h3⟩,h4,h5⟩
  exact⟨⟨h1,fun i x q hx hq=>h2 i x q.r hx (by rw [List.getElem?_map,hq];rfl)⟩,⟨h4,fun i x q hx hq=>h5 i x q.r hx (by rw [List.getElem?_map,hq];rfl)⟩,h3⟩
 ·rintro⟨⟨h1,h2⟩,⟨h4,h5⟩,h3⟩
  refine⟨⟨⟨h1,fun i x r hx hr=>?_⟩,h3⟩,h4,fun i x r hx hr=>?_⟩
  ·rw [List.getElem?_map] at hr
   obtain⟨q,hq,rfl⟩:=Option.map_eq_some_iff.1 hr
   exact h2 i x q hx hq
  ·rw [List.getElem?_map] at hr
   obtain⟨q,hq,rfl⟩:=Option.map_eq_some_iff.1 hr
   exact h5 i x q hx hq
section
variable {main:Bool}{J:Goroutine→Mem→Prop}(hJ:Closed prog main J)
include hJ
theorem askedR_c{b:Bk}{v:Value}{ro:RO}(hv:BkV ro v b)(hs:b.short)(g n:Int):CallP prog J (fnv 101) [v, .int .i64 g, .int .i64 n] ro (.int .i64 (if there g b.gs.length≠0 then there g b.gs.length else loadH n)):=by
 have hvv:=hv
 obtain⟨vp,vg,vc,vt,rfl,hp,hg,hc,ht⟩:=hv
 obtain⟨pb,pc,rfl⟩:=hp.form
 obtain⟨gb,gc,rfl⟩:=hg.form
 obtain⟨cb,cc,rfl⟩:=hc.form
 obtain⟨tb,tc,rfl⟩:=ht.form
 have hsg:=hs.gs.1
 refine CallP.intro hJ (by kernel_rfl) fun c cs tail hret=>enter_X (n:=14) func101 U U (Nl U) ?_
 have C:Ctx prog main J (bf 101 .normal):=⟨hJ,by decide⟩
 refine Xr C U U<|R.box C U U U U fun p3=>Ad C U U<|Xs C<|Xr C U U<|R5 C U U isAgg27 sizeOf27 (by repeat constructor) Tk5<|Rm C U U<|R.callP C U U U U (isGearR_c hJ hvv (by omega) g)<|R.not C U U U<|R.done C<|X.cond C.1 U (fun h1=>?_) (fun h1=>?_)
 ·have h1:between g 0 ((b.gs.length:Int) -1)=false:=by simpa using h1
  refine Xr C U U<|Ad C U U<|Xt C func101<|Hp hret ?_
  rw [there_if,if_neg (show¬between g 0 ((b.gs.length:Int) -1)=true by rw [h1];decide)];rfl
 ·have h1:between g 0 ((b.gs.length:Int) -1)=true:=by simpa using h1
  refine X.skip C.1<|Xs C<|Xr C U U<|Rm C U U<|R.callP C U U U U (betweenR_c hJ _ _ _ _)<|R.not C U U U<|R.done C<|X.cond C.1 U (fun h2=>?_) (fun h2=>?_)
  ·have h2:between n 1 99=false:=by simpa using h2
   refine Xr C U U<|Ad C U U<|Xt C func101<|Hp hret ?_
   rw [there_if,if_pos h1,loadH_if,if_neg (show¬between n 1 99=true by rw [h2];decide)];rfl
  ·have h2:between n 1 99=true:=by simpa using h2
   refine X.skip C.1<|Xr C U U<|Ad C U U<|Xt C func101<|Hp hret ?_
   rw [there_if,if_pos h1,loadH_if,if_pos h2];rfl
theorem pullsRef_c{b:Bk}{v:Value}{ro:RO}(hv:BkV ro v b)(hs:b.short)(g n:Int):CallR prog J (fnv 25) [v, .int .i64 g, .int .i64 n] ro (fun w ro'=>∃vl,LsI ro' vl (pullsR b g n).1∧w= .tuple [vl, .int .i64 (pullsR b g n).2].toArray):=by
 have hvv:=hv
 obtain⟨vp,vg,vc,vt,rfl,hp,hg,hc,ht⟩:=hv
 obtain⟨pb,pc,rfl⟩:=hp.form
 obtain⟨gb,gc,rfl⟩:=hg.form
 obtain⟨cb,cc,rfl⟩:=hc.form
 obtain⟨tb,tc,rfl⟩:=ht.form
 refine CallR.intro hJ (by kernel_rfl) fun c cs tail hret=>enter_X (n:=26) func25 U U (Nl U) ?_
 have C:Ctx prog main J (bf 25 .normal):=⟨hJ,by decide⟩
 refine Xr C U U<|R.box C U U U U fun p3=>R.asg C U U U<|Ad C U U<|Xs C<|Xr C U U<|R5 C U U isAgg27 sizeOf27 (by repeat constructor) Tk5<|R.callP C U U U U (checkBookR_c hJ hvv hs)<|Ad C U U<|Xr C U U<|Rm C U U<|R.int C U U U U b_neq<|R.done C<|X.cond C.1 U (fun h1=>?_) (fun h1=>?_)
 ·have h1:checkBook b≠0:=by simpa using h1
  refine Xr C U U<|Rm C U U<|R.asg C U U U<|Ad C U U<|X.ret C U U func25 U (by exact(.tmp U (.tmp U .nil)))<|Hr hret (RO.le_refl _) ?_
  rw [pullsR,if_pos h1];exact⟨_, .nil,rfl⟩
 ·have h1:checkBook b=0:=by simpa using h1
  have hb:=good_of h1
  have hask:=askedR_c hJ hvv hs g n
  by_cases h2:there g b.gs.length=0
  ·rw [if_neg (fun h=>h h2)] at hask
   by_cases h3:loadH n=0
   ·have hg2:=there_zero.1 h2
    have hn2:=loadH_zero.1 h3
    rw [h3] at hask
    refine X.skip C.1<|Xs C<|Xr C U U<|R5 C U U isAgg27 sizeOf27 (by repeat constructor) Tk5<|Rm C U U<|Rm C U U<|R.callP C U U U U (hask)<|Ad C U U<|Xr C U U<|Rm C U U<|R.int C U U U U b_neq<|R.fixv (t:=20) (v':= .bool false) U (by rfl)<|R.done C<|X.cond C.1 U (fun h=>nomatch h) (fun _=>?_)
    refine X.skip C.1<|Xr C U U<|R5 C U U isAgg27 sizeOf27 (by repeat constructor) Tk5<|Rm C U U<|Rm C U U<|R.callR C U U U U (pullsOfR_c hJ hvv hb hg2 (by omega)) fun w1 ro1 hl1 hw=>?_
    obtain⟨_,_,rfl⟩:=hw.form
    refine R.asg C U U U<|Ad C U U<|X.ret C U U func25 U (by exact(.tmp U (.tmp U .nil)))<|Hr hret hl1 ?_
    rw [pullsR,if_neg (fun h=>h h1),if_neg (fun h=>h h2),if_neg (fun h=>h h3)]
    exact⟨_,hw,rfl⟩
   ·have _:=h3
    refine X.skip C.1<|Xs C<|Xr C U U<|R5 C U U isAgg27 sizeOf27 (by repeat constructor) Tk5<|Rm C U U<|Rm C U U<|R.callP C U U U U (hask)<|Ad C U U<|Xr C U U<|Rm C U U<|R.int C U U U U b_neq<|R.fixv (t:=20) (v':= .bool true) U (Bv (by simpa using h3)) ?_;refine R.done C<|X.cond C.1 U (fun _=>?_) (fun h=>nomatch h)
    refine Xr C U U<|Rm C U U<|R.asg C U U U<|Ad C U U<|X.ret C U U func25 U (by exact(.tmp U (.tmp U .nil)))<|Hr hret (RO.le_refl _) ?_
    rw [pullsR,if_neg (fun h=>h h1),if_neg (fun h=>h h2),if_pos h3]
    exact⟨_, .nil,rfl⟩
  ·rw [if_pos h2] at hask
   refine X.skip C.1<|Xs C<|Xr C U U<|R5 C U U isAgg27 sizeOf27 (by repeat constructor) Tk5<|Rm C U U<|Rm C U U<|R.callP C U U U U (hask)<|Ad C U U<|Xr C U U<|Rm C U U<|R.int C U U U U b_neq<|R.fixv (t:=20) (v':= .bool true) U (Bv (by simpa using h2)) ?_;refine R.done C<|X.cond C.1 U (fun _=>?_) (fun h=>nomatch h)
   refine Xr C U U<|Rm C U U<|R.asg C U U U<|Ad C U U<|X.ret C U U func25 U (by exact(.tmp U (.tmp U .nil)))<|Hr hret (RO.le_refl _) ?_
   rw [pullsR,if_neg (fun h=>h h1),if_pos h2]
   exact⟨_, .nil,rfl⟩
theorem checkCaseR_c{b:Bk}{k:Ks}{v vk:Value}{ro:RO}(hv:BkV ro v b)(hs:b.short)(hks:KsV ro vk k)(hk2:k.short):CallP prog J (fnv 105) [v,vk] ro (.int .i64 (handedH b k)):=by
 have hvv:=hv
 obtain⟨vp,vg,vc,vt,rfl,hp,hg,hc,ht⟩:=hv
 obtain⟨pb,pc,rfl⟩:=hp.form
 obtain⟨gb,gc,rfl⟩:=hg.form
 obtain⟨cb,cc,rfl⟩:=hc.form
 obtain⟨tb,tc,rfl⟩:=ht.form
 obtain⟨vk1,vk2,rfl,hkk,hw⟩:=hks
 have hk0:=hkk
 have hw0:=hw
 obtain⟨kb,kc,rfl⟩:=hkk.form
 obtain⟨wb,wc,rfl⟩:=hw.form
 have q1:=hk2.1
 have q2:=hk2.2
 have q3:=hs.ps.1
 have q4:=hs.cs.1
 refine CallP.intro hJ (by kernel_rfl) fun c cs tail hret=>enter_X (n:=51) func105 U U (Nl U) ?_
 have C:Ctx prog main J (bf 105 .normal):=⟨hJ,by decide⟩
 by_cases e1:k.ks.length=b.ps.length
 ·by_cases e2:k.ws.length=b.cs.length
  ·have hn:¬(k.ks.length≠b.ps.length∨k.ws.length≠b.cs.length):=by omega
   rw [handedH,if_neg hn] at hret
   refine Xr C U U<|R.box C U U U U fun p2=>R.box C U U U U fun p3=>Ad C U U<|Xs C<|Xr C U U<|Rf C 0 U U runUnderlying30 U sizeOf28<|Rl C U U isAgg28 (by repeat constructor) U<|Rn C U U runUnderlying28<|Rf C 1 U U runUnderlying27 U sizeOf22<|Rl C U U isAgg22 (by repeat constructor) U<|Rn C U U runUnderlying22<|R.int C U U U U b_neq<|R.fixv (t:=13) (v':= .bool false) U (Bv (by simp [e1])) ?_;refine Rm C U U<|Rf C 1 U U runUnderlying30 U sizeOf28<|Rl C U U isAgg28 (by repeat constructor) U<|Rn C U U runUnderlying28<|Rf C 3 U U runUnderlying27 U sizeOf24<|Rl C U U isAgg24 (by repeat constructor) U<|Rn C U U runUnderlying24<|R.int C U U U U b_neq<|R.fixv (t:=21) (v':= .bool false) U (Bv (by simp [e2])) ?_;refine R.pickF C U U U U<|R.done C<|X.cond C.1 U (fun h=>nomatch h) (fun _=>?_)
   refine X.skip C.1<|Xs C<|Xr C U U<|Ad C U U<|X.block C.1<|X.loopI (ι:=Nat) C.1 (fun i=>i≤k.ks.length∧∀j (hj:j<k.ks.length),j<i→(!between k.ks[j] 0 99)=false) (fun i=> [(2, .pointer (some ⟨p2,0,none⟩)),(3, .pointer (some ⟨p3,0,none⟩)),(5, .int .i64 (i:Int))])
    (fun _=>⟨ro,(p3, .cells [.slice kb k.ks.length kc, .slice wb k.ws.length wc].toArray 30 (0,0))::(p2, .cells [.int .i64 b.w, .slice pb b.ps.length pc, .slice gb b.gs.length gc, .slice cb b.cs.length cc, .slice tb b.ts.length tc].toArray 27 (0,0))::tail⟩) (fun i=>k.ks.length-i) 0 ⟨Nat.zero_le _,fun j _ hj=>absurd hj (Nat.not_lt_zero _)⟩ rfl ⟨U,U,U,trivial⟩ fun i hi hnext=>?_
   obtain⟨hi,hall⟩:=hi
   refine Xs C<|Xr C U U<|Rm C U U<|Rf C 0 U U runUnderlying30 U sizeOf28<|Rl C U U isAgg28 (by repeat constructor) U<|Rn C U U runUnderlying28<|R.int C U U U U b_lss<|R.done C<|Xk C U (fun hlt=>?_) (fun hlt=>?_)
   ·have hi':i<k.ks.length:=by omega
    obtain⟨pp,off,cap,ll,ty,fq,hsl,hrop,hsub⟩:=hkk.at ic_len (by omega)
    cases hsl
    have hat:=ic_at hsub hi'
    have hyes:(!between k.ks[i] 0 99)=true→(k.ks.any fun n=> !between n 0 99)=true:=fun h=>any_at hi' h
    have hno:(!between k.ks[i] 0 99)=false→∀j (hj:j<k.ks.length),j<i+1→(!between k.ks[j] 0 99)=false:=fun h j hj hji=>by
     by_cases e:j=i
     ·subst e;exact h
     ·exact hall j hj (by omega)
    generalize k.ks[i]=z at hat hyes hno
    refine X.skip C.1<|Xs C<|X.block C.1<|Xr C U U<|Rf C 0 U U runUnderlying30 U sizeOf28<|Rl C U U isAgg28 (by repeat constructor) U<|Rm C U U<|Rx C U U U runUnderlying28 sizeOf3<|R.loadOneRo C U U U isAgg3 hrop hat<|R.callP C U U U U (betweenR_c hJ _ _ _ _)<|R.not C U U U<|R.done C<|X.cond C.1 U (fun hq=>?_) (fun hq=>?_)
    ·refine Xr C U U<|Ad C U U<|Xt C func105<|Hp hret ?_
     rw [hyes hq];rfl
    ·refine X.skip C.1<|X.inBlock C.1<|X.region C U U<|Rm C U U<|Ra C U U U<|Ad C U U<|X.weaken ?_ (hnext (i+1) ⟨hi',hno hq⟩ (by omega))
     exact⟨rfl,rfl,by simp [look],trivial⟩
   ·obtain rfl:i=k.ks.length:=by omega
    rw [any_none hall,Bool.false_or] at hret
    refine X.exit C.1 U<|Xs C<|Xr C U U<|Ad C U U<|X.block C.1<|X.loopI (ι:=Nat) C.1 (fun i=>i≤k.ws.length∧∀j (hj:j<k.ws.length),j<i→(loadH k.ws[j] !=0)=false) (fun i=> [(2, .pointer (some ⟨p2,0,none⟩)),(3, .pointer (some ⟨p3,0,none⟩)),(6, .int .i64 (i:Int))])
     (fun _=>⟨ro,(p3, .cells [.slice kb k.ks.length kc, .slice wb k.ws.length wc].toArray 30 (0,0))::(p2, .cells [.int .i64 b.w, .slice pb b.ps.length pc, .slice gb b.gs.length gc, .slice cb b.cs.length cc, .slice tb b.ts.length tc].toArray 27 (0,0))::tail⟩) (fun i=>k.ws.length-i) 0 ⟨Nat.zero_le _,fun j _ hj=>absurd hj (Nat.not_lt_zero _)⟩ rfl ⟨U,U,U,trivial⟩ fun i hi hnext=>?_
    obtain⟨hi,hall2⟩:=hi
    refine Xs C<|Xr C U U<|Rm C U U<|Rf C 1 U U runUnderlying30 U sizeOf28<|Rl C U U isAgg28 (by repeat constructor) U<|Rn C U U runUnderlying28<|R.int C U U U U b_lss<|R.done C<|Xk C U (fun hlt2=>?_) (fun hlt2=>?_)
    ·have hi':i<k.ws.length:=by omega
     obtain⟨pp,off,cap,ll,ty,fq,hsl,hrop,hsub⟩:=hw.at ic_len (by omega)
     cases hsl
     have hat:=ic_at hsub hi'
     have hyes:(loadH k.ws[i] !=0)=true→(k.ws.any fun n=>(loadH n !=0))=true:=fun h=>any_at hi' h
     have hno:(loadH k.ws[i] !=0)=false→∀j (hj:j<k.ws.length),j<i+1→(loadH k.ws[j] !=0)=false:=fun h j hj hji=>by
      by_cases e:j=i
      ·subst e;exact h
      ·exact hall2 j hj (by omega)
     generalize k.ws[i]=z at hat hyes hno
     refine X.skip C.1<|Xs C<|X.block C.1<|Xr C U U<|Rf C 1 U U runUnderlying30 U sizeOf28<|Rl C U U isAgg28 (by repeat constructor) U<|Rm C U U<|Rx C U U U runUnderlying28 sizeOf3<|R.loadOneRo C U U U isAgg3 hrop hat<|R.callP C U U U U (betweenR_c hJ _ _ _ _)<|R.not C U U U<|R.done C<|X.cond C.1 U (fun hq=>?_) (fun hq=>?_)
     ·have hq:between z 1 99=false:=by simpa using hq
      refine Xr C U U<|Ad C U U<|Xt C func105<|Hp hret ?_
      rw [hyes (by rw [loadH_if,hq];rfl)];rfl
     ·have hq:between z 1 99=true:=by simpa using hq
      refine X.skip C.1<|X.inBlock C.1<|X.region C U U<|Rm C U U<|Ra C U U U<|Ad C U U<|X.weaken ?_ (hnext (i+1) ⟨hi',hno (by rw [loadH_if,hq];rfl)⟩ (by omega))
      exact⟨rfl,rfl,by simp [look],trivial⟩
    ·obtain rfl:i=k.ws.length:=by omega
     refine X.exit C.1 U<|Xr C U U<|Ad C U U<|Xt C func105<|Hp hret ?_
     rw [any_none hall2];rfl
  ·have hn:k.ks.length≠b.ps.length∨k.ws.length≠b.cs.length:=by omega
   refine Xr C U U<|R.box C U U U U fun p2=>R.box C U U U U fun p3=>Ad C U U<|Xs C<|Xr C U U<|Rf C 0 U U runUnderlying30 U sizeOf28<|Rl C U U isAgg28 (by repeat constructor) U<|Rn C U U runUnderlying28<|Rf C 1 U U runUnderlying27 U sizeOf22<|Rl C U U isAgg22 (by repeat constructor) U<|Rn C U U runUnderlying22<|R.int C U U U U b_neq<|R.fixv (t:=13) (v':= .bool false) U (Bv (by simp [e1])) ?_;refine Rm C U U<|Rf C 1 U U runUnderlying30 U sizeOf28<|Rl C U U isAgg28 (by repeat constructor) U<|Rn C U U runUnderlying28<|Rf C 3 U U runUnderlying27 U sizeOf24<|Rl C U U isAgg24 (by repeat constructor) U<|Rn C U U runUnderlying24<|R.int C U U U U b_neq<|R.fixv (t:=21) (v':= .bool true) U (Bv (by simp;omega)) ?_;refine R.pickF C U U U U<|R.done C<|X.cond C.1 U (fun _=>?_) (fun h=>nomatch h)
   refine Xr C U U<|Ad C U U<|Xt C func105<|Hp hret ?_
   rw [handedH,if_pos hn];rfl
 ·have hn:k.ks.length≠b.ps.length∨k.ws.length≠b.cs.length:=by omega
  refine Xr C U U<|R.box C U U U U fun p2=>R.box C U U U U fun p3=>Ad C U U<|Xs C<|Xr C U U<|Rf C 0 U U runUnderlying30 U sizeOf28<|Rl C U U isAgg28 (by repeat constructor) U<|Rn C U U runUnderlying28<|Rf C 1 U U runUnderlying27 U sizeOf22<|Rl C U U isAgg22 (by repeat constructor) U<|Rn C U U runUnderlying22<|R.int C U U U U b_neq<|R.fixv (t:=13) (v':= .bool true) U (Bv (by simp;omega)) ?_;refine Rm C U U<|R.pass C U U<|R.pass C U U<|R.pass C U U<|R.pass C U U<|R.pass C U U<|R.pass C U U<|R.pass C U U<|R.pickT C U U U U<|R.done C<|X.cond C.1 U (fun _=>?_) (fun h=>nomatch h)
  refine Xr C U U<|Ad C U U<|Xt C func105<|Hp hret ?_
  rw [handedH,if_pos hn];rfl
theorem liftsRef_c{b:Bk}{k:Ks}{v vk:Value}{ro:RO}(hv:BkV ro v b)(hs:b.short)(hks:KsV ro vk k)(hk2:k.short)(g p:Int):CallR prog J (fnv 27) [v,vk, .int .i64 g, .int .i64 p] ro (fun w _=>w= .tuple [.bool (liftsOf b k g p).1, .int .i64 (liftsOf b k g p).2].toArray):=by
 have hvv:=hv
 obtain⟨vp,vg,vc,vt,rfl,hp,hg,hc,ht⟩:=hv
 obtain⟨pb,pc,rfl⟩:=hp.form
 obtain⟨gb,gc,rfl⟩:=hg.form
 obtain⟨cb,cc,rfl⟩:=hc.form
 obtain⟨tb,tc,rfl⟩:=ht.form
 have hks0:=hks
 obtain⟨vk1,vk2,rfl,hkk,hw⟩:=hks
 obtain⟨kb,kc,rfl⟩:=hkk.form
 obtain⟨wb,wc,rfl⟩:=hw.form
 have hsg:=hs.gs.1
 have hsc:=hs.cs.1
 refine CallR.intro hJ (by kernel_rfl) fun c cs tail hret=>enter_X (n:=43) func27 U U (Nl U) ?_
 have C:Ctx prog main J (bf 27 .normal):=⟨hJ,by decide⟩
 refine Xr C U U<|R.box C U U U U fun p4=>R.box C U U U U fun p5=>R.asg C U U U<|Ad C U U<|Xs C<|Xr C U U<|R5 C U U isAgg27 sizeOf27 (by repeat constructor) Tk5<|R.callP C U U U U (checkBookR_c hJ hvv hs)<|Ad C U U<|Xr C U U<|Rm C U U<|R.int C U U U U b_neq<|R.done C<|X.cond C.1 U (fun h1=>?_) (fun h1=>?_)
 ·have h1:checkBook b≠0:=by simpa using h1
  have e1:lookedH b k=checkBook b:=by rw [lookedH,if_pos h1]
  refine Xr C U U<|Rm C U U<|R.asg C U U U<|Ad C U U<|X.ret C U U func27 U (by exact(.tmp U (.tmp U .nil)))<|Hr hret (RO.le_refl _) ?_
  rw [liftsOf,e1,if_pos h1];rfl
 ·have h1:checkBook b=0:=by simpa using h1
  have hb:=good_of h1
  have e1:lookedH b k=handedH b k:=by rw [lookedH,if_neg (fun h=>h h1)]
  refine X.skip C.1<|Xs C<|Xr C U U<|R5 C U U isAgg27 sizeOf27 (by repeat constructor) Tk5<|R5 C U U isAgg30 sizeOf30 (by repeat constructor) Tk2<|R.callP C U U U U (checkCaseR_c hJ hvv hs hks0 hk2)<|Ad C U U<|Xr C U U<|Rm C U U<|R.int C U U U U b_neq<|R.done C<|X.cond C.1 U (fun h2=>?_) (fun h2=>?_)
  ·have h2:handedH b k≠0:=by simpa using h2
   refine Xr C U U<|Rm C U U<|R.asg C U U U<|Ad C U U<|X.ret C U U func27 U (by exact(.tmp U (.tmp U .nil)))<|Hr hret (RO.le_refl _) ?_
   rw [liftsOf,e1,if_pos h2];rfl
  ·have h2:handedH b k=0:=by simpa using h2
   have e2:liftsOf b k g p=if max (there g b.gs.length) (there p b.cs.length)≠0 then(false,max (there g b.gs.length) (there p b.cs.length)) else(lifts b k.ks g (nth k.ws p),0):=by rw [liftsOf,e1,if_neg (fun h=>h h2)]
   by_cases h3:between g 0 ((b.gs.length:Int) -1)=true
   ·have t1:there g b.gs.length=0:=by rw [there_if,if_pos h3]
    by_cases h4:between p 0 ((b.cs.length:Int) -1)=true
    ·have t2:there p b.cs.length=0:=by rw [there_if,if_pos h4]
     obtain⟨l1,l2,hws⟩:=handed_ok h2
     have hp2:=there_zero.1 t2
     have hpl:p.toNat<k.ws.length:=by omega
     have hwz:=hws _ (List.getElem_mem hpl)
     obtain⟨pp,off,cap,ll,ty,fq,hsl,hrop,hsub⟩:=hw.at ic_len (by omega)
     cases hsl
     have hat:=ic_at hsub hpl
     have hnth:nth k.ws p=k.ws[p.toNat]:=by simp [nth,List.getD_eq_getElem?_getD,hpl]
     rw [hnth,t1,t2] at e2
     generalize k.ws[p.toNat]=z at hat hwz e2
     refine X.skip C.1<|Xs C<|Xr C U U<|R5 C U U isAgg27 sizeOf27 (by repeat constructor) Tk5<|Rm C U U<|R.callP C U U U U (isGearR_c hJ (by assumption) (by omega) _)<|R.not C U U U<|R.fixv (t:=26) (v':= .bool false) U (by(rw [h3];rfl))<|Rm C U U<|R5 C U U isAgg27 sizeOf27 (by repeat constructor) Tk5<|Rm C U U<|R.callP C U U U U (isPieceR_c hJ (by assumption) (by omega) _)<|R.not C U U U<|R.fixv (t:=31) (v':= .bool false) U (by(rw [h4];rfl))<|R.pickF C U U U U<|R.done C<|X.cond C.1 U (fun h=>nomatch h) (fun _=>?_)
     refine X.skip C.1<|Xs C<|Xd C fun hok=>D5 C 0 hok U U isAgg27 sizeOf27 (by repeat constructor) Tk5<|Df (off':=0) C 1 hok U U U runUnderlying30 U sizeOf28 U<|D1 C 2 hok U U isAgg28 (by repeat constructor) U<|Dm C 3 hok U U U<|Df (off':=1) C 4 hok U U U runUnderlying30 U sizeOf28 U<|D1 C 5 hok U U isAgg28 (by repeat constructor) U<|Dm C 6 hok U U U<|Dx C 7 hok U U U runUnderlying28 sizeOf3<|D2 C 8 hok U U isAgg3 hrop hat<|De 9 (some 42) [false,false,false,false] hok (fun _ _ A hk=>?_)
     refine R.callR C U (A.w U U) (A.x U U) (A.s U U) (liftsOfR_c hJ hvv hb hkk l1 (there_zero.1 t1) hwz) fun w1 ro1 hl1 hq1=>hk _ _ ⟨QFs.nil, ?_⟩
     subst hq1
     refine Da C 10 hok U U<|Da C 11 hok U U<|D.done C hok (by kernel_rfl)<|X.ret C U U func27 U (by exact(.tmp U (.tmp U .nil)))<|Hr hret hl1 ?_
     rw [e2];rfl
    ·have t2:there p b.cs.length=6:=by rw [there_if,if_neg h4]
     have h4:between p 0 ((b.cs.length:Int) -1)=false:=by simpa using h4
     refine X.skip C.1<|Xs C<|Xr C U U<|R5 C U U isAgg27 sizeOf27 (by repeat constructor) Tk5<|Rm C U U<|R.callP C U U U U (isGearR_c hJ (by assumption) (by omega) _)<|R.not C U U U<|R.fixv (t:=26) (v':= .bool false) U (by(rw [h3];rfl))<|Rm C U U<|R5 C U U isAgg27 sizeOf27 (by repeat constructor) Tk5<|Rm C U U<|R.callP C U U U U (isPieceR_c hJ (by assumption) (by omega) _)<|R.not C U U U<|R.fixv (t:=31) (v':= .bool true) U (by(rw [h4];rfl))<|R.pickF C U U U U<|R.done C<|X.cond C.1 U (fun _=>?_) (fun h=>nomatch h)
     refine Xr C U U<|R.asg C U U U<|Ad C U U<|X.ret C U U func27 U (by exact(.tmp U (.tmp U .nil)))<|Hr hret (RO.le_refl _) ?_
     rw [e2,t1,t2];rfl
   ·have t1:there g b.gs.length=6:=by rw [there_if,if_neg h3]
    have h3:between g 0 ((b.gs.length:Int) -1)=false:=by simpa using h3
    have t2:max (there g b.gs.length) (there p b.cs.length)=6:=by
     rw [t1,there_if];split<;>rfl
    refine X.skip C.1<|Xs C<|Xr C U U<|R5 C U U isAgg27 sizeOf27 (by repeat constructor) Tk5<|Rm C U U<|R.callP C U U U U (isGearR_c hJ (by assumption) (by omega) _)<|R.not C U U U<|R.fixv (t:=26) (v':= .bool true) U (by(rw [h3];rfl))<|Rm C U U<|R.pass C U U<|R.pass C U U<|R.pass C U U<|R.pass C U U<|R.pickT C U U U U<|R.done C<|X.cond C.1 U (fun _=>?_) (fun h=>nomatch h)
    refine Xr C U U<|R.asg C U U U<|Ad C U U<|X.ret C U U func27 U (by exact(.tmp U (.tmp U .nil)))<|Hr hret (RO.le_refl _) ?_
    rw [e2,t2];rfl
theorem isCaseRef_c{b:Bk}{k:Ks}{v vk:Value}{ro:RO}(hv:BkV ro v b)(hs:b.short)(hks:KsV ro vk k)(hk2:k.short):CallR prog J (fnv 29) [v,vk] ro (fun w _=>w= .tuple [.bool (isCaseOf b k).1, .int .i64 (isCaseOf b k).2].toArray):=by
 have hvv:=hv
 obtain⟨vp,vg,vc,vt,rfl,hp,hg,hc,ht⟩:=hv
 obtain⟨pb,pc,rfl⟩:=hp.form
 obtain⟨gb,gc,rfl⟩:=hg.form
 obtain⟨cb,cc,rfl⟩:=hc.form
 obtain⟨tb,tc,rfl⟩:=ht.form
 have hks0:=hks
 obtain⟨vk1,vk2,rfl,hkk,hw⟩:=hks
 obtain⟨kb,kc,rfl⟩:=hkk.form
 obtain⟨wb,wc,rfl⟩:=hw.form
 refine CallR.intro hJ (by kernel_rfl) fun c cs tail hret=>enter_X (n:=75) func29 U U (Nl U) ?_
 have C:Ctx prog main J (bf 29 .normal):=⟨hJ,by decide⟩
 refine Xr C U U<|R.box C U U U U fun p2=>R.box C U U U U fun p3=>R.asg C U U U<|Ad C U U<|Xs C<|Xr C U U<|R5 C U U isAgg27 sizeOf27 (by repeat constructor) Tk5<|R.callP C U U U U (checkBookR_c hJ hvv hs)<|Ad C U U<|Xr C U U<|Rm C U U<|R.int C U U U U b_neq<|R.done C<|X.cond C.1 U (fun h1=>?_) (fun h1=>?_)
 ·have h1:checkBook b≠0:=by simpa using h1
  have e1:lookedH b k=checkBook b:=by rw [lookedH,if_pos h1]
  refine Xr C U U<|Rm C U U<|R.asg C U U U<|Ad C U U<|X.ret C U U func29 U (by exact(.tmp U (.tmp U .nil)))<|Hr hret (RO.le_refl _) ?_
  rw [isCaseOf,e1,if_pos h1];rfl
 ·have h1:checkBook b=0:=by simpa using h1
  have hb:=good_of h1
  have hnp:=hb.np
  have hnc:=hb.nc
  have e1:lookedH b k=handedH b k:=by rw [lookedH,if_neg (fun h=>h h1)]
  refine X.skip C.1<|Xs C<|Xr C U U<|R5 C U U isAgg27 sizeOf27 (by repeat constructor) Tk5<|R5 C U U isAgg30 sizeOf30 (by repeat constructor) Tk2<|R.callP C U U U U (checkCaseR_c hJ hvv hs hks0 hk2)<|Ad C U U<|Xr C U U<|Rm C U U<|R.int C U U U U b_neq<|R.done C<|X.cond C.1 U (fun h2=>?_) (fun h2=>?_)
  ·have h2:handedH b k≠0:=by simpa using h2
   refine Xr C U U<|Rm C U U<|R.asg C U U U<|Ad C U U<|X.ret C U U func29 U (by exact(.tmp U (.tmp U .nil)))<|Hr hret (RO.le_refl _) ?_
   rw [isCaseOf,e1,if_pos h2];rfl
  ·have h2:handedH b k=0:=by simpa using h2
   have e2:isCaseOf b k=(decide (((k.ks,k.ws):Tn)∈cases b),0):=by rw [isCaseOf,e1,if_neg (fun h=>h h2)]
   obtain⟨l1,l2,hws⟩:=handed_ok h2
   rw [e2] at hret
   refine X.skip C.1<|Xs C<|Xr C U U<|Ad C U U<|X.block C.1<|X.loopI (ι:=Nat) C.1 (fun i=>i≤k.ks.length∧∀ (j:Nat) (x:Int) (q:Pt),j<i→k.ks[j]? =some x→b.ps[j]? =some q→q.r.lo≤x∧x≤q.r.hi) (fun i=> [(2, .pointer (some ⟨p2,0,none⟩)),(3, .pointer (some ⟨p3,0,none⟩)),(8, .int .i64 (i:Int))])
    (fun _=>⟨ro,(p3, .cells [.slice kb k.ks.length kc, .slice wb k.ws.length wc].toArray 30 (0,0))::(p2, .cells [.int .i64 b.w, .slice pb b.ps.length pc, .slice gb b.gs.length gc, .slice cb b.cs.length cc, .slice tb b.ts.length tc].toArray 27 (0,0))::tail⟩) (fun i=>k.ks.length-i) 0 ⟨Nat.zero_le _,fun j _ _ hj=>absurd hj (Nat.not_lt_zero _)⟩ rfl ⟨U,U,U,trivial⟩ fun i hi hnext=>?_
   obtain⟨hi,hall⟩:=hi
   refine Xs C<|Xr C U U<|Rm C U U<|Rf C 0 U U runUnderlying30 U sizeOf28<|Rl C U U isAgg28 (by repeat constructor) U<|Rn C U U runUnderlying28<|R.int C U U U U b_lss<|R.done C<|Xk C U (fun hlt=>?_) (fun hlt=>?_)
   ·have hi':i<k.ks.length:=by omega
    have hip:i<b.ps.length:=by omega
    obtain⟨pp,off,cap,ll,ty,fq,hsl,hrop,hsub⟩:=hkk.at ic_len (by omega)
    cases hsl
    have hat:=ic_at hsub hi'
    obtain⟨pp2,off2,cap2,ll2,ty2,fq2,hsl2,hrop2,hsub2⟩:=hp.at Pt.len (by omega)
    cases hsl2
    have hrc:Sub (off2+i*4+2) 2 ll2 [.int .i64 (b.ps[i]).r.lo, .int .i64 (b.ps[i]).r.hi]:=sub_part (k:=2) (m:=2) (hsub2 i hip) (by decide) (Pt.len _)
    have hyes:between k.ks[i] (b.ps[i]).r.lo (b.ps[i]).r.hi=false→¬(((k.ks,k.ws):Tn)∈cases b):=fun h hm=>by
     have:=(case_iff.1 hm).1.2 i _ _ (List.getElem?_eq_getElem hi') (List.getElem?_eq_getElem hip)
     rw [between_iff.2 this] at h;cases h
    have hno:between k.ks[i] (b.ps[i]).r.lo (b.ps[i]).r.hi=true→∀ (j:Nat) (x:Int) (q:Pt),j<i+1→k.ks[j]? =some x→b.ps[j]? =some q→q.r.lo≤x∧x≤q.r.hi:=fun h j x q hj hx hq=>by
     by_cases e:j=i
     ·subst e
      rw [List.getElem?_eq_getElem hi'] at hx
      rw [List.getElem?_eq_getElem hip] at hq
      cases hx;cases hq
      exact between_iff.1 h
     ·exact hall j x q (by omega) hx hq
    generalize k.ks[i]=z at hat hyes hno
    generalize b.ps[i]=q at hrc hyes hno
    refine X.skip C.1<|Xs C<|X.block C.1<|Xr C U U<|Rf C 1 U U runUnderlying27 U sizeOf22<|Rl C U U isAgg22 (by repeat constructor) U<|Rm C U U<|Rx C U U U runUnderlying22 sizeOf67<|R.fieldAddr C U U U runUnderlying67 U sizeOf65 U<|R.loadAggRo C U U U isAgg65 sizeOf65 hrop2 hrc<|R.alloc C U U zeroValue65 U fun p9=>R.store C U U U U sizeOf65 U U U (by repeat constructor) Ph2<|R.done C<|Xs C<|Xd C fun hok=>Df (off':=0) C 0 hok U U U runUnderlying30 U sizeOf28 U<|D1 C 1 hok U U isAgg28 (by repeat constructor) U<|Dm C 2 hok U U U<|Dx C 3 hok U U U runUnderlying28 sizeOf3<|D2 C 4 hok U U isAgg3 hrop hat<|Df (off':=0) C 5 hok U U U runUnderlying65 U sizeOf3 U<|D1 C 6 hok U U isAgg3 (by repeat constructor) U<|Df (off':=1) C 7 hok U U U runUnderlying65 U sizeOf3 U<|D1 C 8 hok U U isAgg3 (by repeat constructor) U<|De 9 (some 45) [false,false,false,false] hok (fun _ _ A hk=>?_)
    refine R.callP C U (A.w U U) (A.x U U) (A.s U U) (betweenR_c hJ _ _ _ _) (hk _ _ ⟨QFs.nil, ?_⟩)
    refine Dp 10 hok (fun _ _ _ A h=>R.not C U (A.w U U) (A.x U U) h)<|D.done C hok (by kernel_rfl)<|X.cond C.1 U (fun hq=>?_) (fun hq=>?_)
    ·have hq:between z q.r.lo q.r.hi=false:=by simpa using hq
     refine Xr C U U<|R.asg C U U U<|Ad C U U<|X.ret C U U func29 U (by exact(.tmp U (.tmp U .nil)))<|Hr hret (RO.le_refl _) ?_
     rw [decide_eq_false (hyes hq)];rfl
    ·have hq:between z q.r.lo q.r.hi=true:=by simpa using hq
     refine X.skip C.1<|X.inBlock C.1<|X.region C U U<|Rm C U U<|Ra C U U U<|Ad C U U<|X.drop C.1 (own':=_::_::tail) (List.sublist_cons_self _ _)<|X.weaken ?_ (hnext (i+1) ⟨hi',hno hq⟩ (by omega))
     exact⟨rfl,rfl,by simp [look],trivial⟩
   ·obtain rfl:i=k.ks.length:=by omega
    refine X.exit C.1 U<|Xs C<|Xr C U U<|Ad C U U<|X.block C.1<|X.loopI (ι:=Nat) C.1 (fun i=>i≤k.ws.length∧∀ (j:Nat) (x:Int) (q:Pc),j<i→k.ws[j]? =some x→b.cs[j]? =some q→q.r.lo≤x∧x≤q.r.hi) (fun i=> [(2, .pointer (some ⟨p2,0,none⟩)),(3, .pointer (some ⟨p3,0,none⟩)),(10, .int .i64 (i:Int))])
     (fun _=>⟨ro,(p3, .cells [.slice kb k.ks.length kc, .slice wb k.ws.length wc].toArray 30 (0,0))::(p2, .cells [.int .i64 b.w, .slice pb b.ps.length pc, .slice gb b.gs.length gc, .slice cb b.cs.length cc, .slice tb b.ts.length tc].toArray 27 (0,0))::tail⟩) (fun i=>k.ws.length-i) 0 ⟨Nat.zero_le _,fun j _ _ hj=>absurd hj (Nat.not_lt_zero _)⟩ rfl ⟨U,U,U,trivial⟩ fun i hi hnext=>?_
    obtain⟨hi,hall2⟩:=hi
    refine Xs C<|Xr C U U<|Rm C U U<|Rf C 1 U U runUnderlying30 U sizeOf28<|Rl C U U isAgg28 (by repeat constructor) U<|Rn C U U runUnderlying28<|R.int C U U U U b_lss<|R.done C<|Xk C U (fun hlt2=>?_) (fun hlt2=>?_)
    ·have hi':i<k.ws.length:=by omega
     have hip:i<b.cs.length:=by omega
     obtain⟨pp,off,cap,ll,ty,fq,hsl,hrop,hsub⟩:=hw.at ic_len (by omega)
     cases hsl
     have hat:=ic_at hsub hi'
     obtain⟨pp2,off2,cap2,ll2,ty2,fq2,hsl2,hrop2,hsub2⟩:=hc.at Pc.len (by omega)
     cases hsl2
     have hrc:Sub (off2+i*3+1) 2 ll2 [.int .i64 (b.cs[i]).r.lo, .int .i64 (b.cs[i]).r.hi]:=sub_part (k:=1) (m:=2) (hsub2 i hip) (by decide) (Pc.len _)
     have hyes:between k.ws[i] (b.cs[i]).r.lo (b.cs[i]).r.hi=false→¬(((k.ks,k.ws):Tn)∈cases b):=fun h hm=>by
      have:=(case_iff.1 hm).2.1.2 i _ _ (List.getElem?_eq_getElem hi') (List.getElem?_eq_getElem hip)
      rw [between_iff.2 this] at h;cases h
     have hno:between k.ws[i] (b.cs[i]).r.lo (b.cs[i]).r.hi=true→∀ (j:Nat) (x:Int) (q:Pc),j<i+1→k.ws[j]? =some x→b.cs[j]? =some q→q.r.lo≤x∧x≤q.r.hi:=fun h j x q hj hx hq=>by
      by_cases e:j=i
      ·subst e
       rw [List.getElem?_eq_getElem hi'] at hx
       rw [List.getElem?_eq_getElem hip] at hq
       cases hx;cases hq
       exact between_iff.1 h
      ·exact hall2 j x q (by omega) hx hq
     generalize k.ws[i]=z at hat hyes hno
     generalize b.cs[i]=q at hrc hyes hno
     refine X.skip C.1<|Xs C<|X.block C.1<|Xr C U U<|Rf C 3 U U runUnderlying27 U sizeOf24<|Rl C U U isAgg24 (by repeat constructor) U<|Rm C U U<|Rx C U U U runUnderlying24 sizeOf79<|R.fieldAddr C U U U runUnderlying79 U sizeOf65 U<|R.loadAggRo C U U U isAgg65 sizeOf65 hrop2 hrc<|R.alloc C U U zeroValue65 U fun p11=>R.store C U U U U sizeOf65 U U U (by repeat constructor) Ph2<|R.done C<|Xs C<|Xd C fun hok=>Df (off':=1) C 0 hok U U U runUnderlying30 U sizeOf28 U<|D1 C 1 hok U U isAgg28 (by repeat constructor) U<|Dm C 2 hok U U U<|Dx C 3 hok U U U runUnderlying28 sizeOf3<|D2 C 4 hok U U isAgg3 hrop hat<|Df (off':=0) C 5 hok U U U runUnderlying65 U sizeOf3 U<|D1 C 6 hok U U isAgg3 (by repeat constructor) U<|Df (off':=1) C 7 hok U U U runUnderlying65 U sizeOf3 U<|D1 C 8 hok U U isAgg3 (by repeat constructor) U<|De 9 (some 69) [false,false,false,false] hok (fun _ _ A hk=>?_)
     refine R.callP C U (A.w U U) (A.x U U) (A.s U U) (betweenR_c hJ _ _ _ _) (hk _ _ ⟨QFs.nil, ?_⟩)
     refine Dp 10 hok (fun _ _ _ A h=>R.not C U (A.w U U) (A.x U U) h)<|D.done C hok (by kernel_rfl)<|X.cond C.1 U (fun hq=>?_) (fun hq=>?_)
     ·have hq:between z q.r.lo q.r.hi=false:=by simpa using hq
      refine Xr C U U<|R.asg C U U U<|Ad C U U<|X.ret C U U func29 U (by exact(.tmp U (.tmp U .nil)))<|Hr hret (RO.le_refl _) ?_
      rw [decide_eq_false (hyes hq)];rfl
     ·have hq:between z q.r.lo q.r.hi=true:=by simpa using hq
      refine X.skip C.1<|X.inBlock C.1<|X.region C U U<|Rm C U U<|Ra C U U U<|Ad C U U<|X.drop C.1 (own':=_::_::tail) (List.sublist_cons_self _ _)<|X.weaken ?_ (hnext (i+1) ⟨hi',hno hq⟩ (by omega))
      exact⟨rfl,rfl,by simp [look],trivial⟩
    ·obtain rfl:i=k.ws.length:=by omega
     have hfin:decide (((k.ks,k.ws):Tn)∈cases b)=right b k.ks:=by
      rw [Bool.eq_iff_iff,decide_eq_true_eq,case_iff]
      exact⟨fun h=>h.2.2,fun h=>⟨⟨l1,fun j x q hx hq=>hall j x q (List.getElem?_eq_some_iff.1 hx).1 hx hq⟩,⟨l2,fun j x q hx hq=>hall2 j x q (List.getElem?_eq_some_iff.1 hx).1 hx hq⟩,h⟩⟩
     rw [hfin] at hret
     refine X.exit C.1 U<|Xr C U U<|R5 C U U isAgg27 sizeOf27 (by repeat constructor) Tk5<|Rf C 0 U U runUnderlying30 U sizeOf28<|Rl C U U isAgg28 (by repeat constructor) U<|R.callR C U U U U (testedR_c hJ hvv hb hkk l1) fun w1 ro1 hl1 hq1=>?_
     subst hq1
     refine R.asg C U U U<|Ad C U U<|X.ret C U U func29 U (by exact(.tmp U (.tmp U .nil)))<|Hr hret hl1 ?_
     rfl
end
theorem pulls_root{b:Bk}{vb vk:Value}{k:Ks}{g n q:Int}{ro:RO}(he:Env ro)(hv:BkV ro vb b)(hks:KsV ro vk k):Root prog 3 [vb,vk, .int .i64 g, .int .i64 n, .int .i64 q] ro (fun w _=>w= .bool true):=by
 intro Post hret
 have hJ:Closed prog true (JM prog (Go.Conc.Good prog Post)):=JM.closed
 have hvv:=hv
 obtain⟨vp,vg,vc,vt,rfl,hp,hg,hc,ht⟩:=hv
 obtain⟨pb,pc,rfl⟩:=hp.form
 obtain⟨gb,gc,rfl⟩:=hg.form
 obtain⟨cb,cc,rfl⟩:=hc.form
 obtain⟨tb,tc,rfl⟩:=ht.form
 have hks0:=hks
 obtain⟨vk1,vk2,rfl,hkk,hw⟩:=hks
 obtain⟨kb,kc,rfl⟩:=hkk.form
 obtain⟨wb,wc,rfl⟩:=hw.form
 let main:=true
 let J:=JM prog (Go.Conc.Good prog Post)
 refine enter_X (n:=118) func3 U U (Nl U) ?_
 have C:Ctx prog main J (bf 3 .normal):=⟨hJ,by decide⟩
 by_cases hgr:great b=false
 ·by_cases h1:k.ks.length≤20
  ·by_cases h2:k.ws.length≤20
   ·have hsh:=short_of hgr
    have hk2:k.short:=⟨by omega,by omega⟩
    have hpl:(pullsR b g n).1.length≤1000000:=pullsR_len hsh g n
    refine Xr C U U<|R.box C U U U U fun p5=>R.box C U U U U fun p6=>Ad C U U<|Xs C<|Xr C U U<|R5 C U U isAgg27 sizeOf27 (by repeat constructor) Tk5<|R.callP C U U U U (greatR_c hJ (by assumption))<|R.fixv (t:=24) (v':= .bool false) U (by(rw [hgr]))<|Rm C U U<|Rf C 0 U U runUnderlying30 U sizeOf28<|Rl C U U isAgg28 (by repeat constructor) U<|Rn C U U runUnderlying28<|R.int C U U U U b_gtr<|R.fixv (t:=29) (v':= .bool false) U (Bv (by rw [dF];omega)) ?_;refine R.pickF C U U U U<|Rm C U U<|Rf C 1 U U runUnderlying30 U sizeOf28<|Rl C U U isAgg28 (by repeat constructor) U<|Rn C U U runUnderlying28<|R.int C U U U U b_gtr<|R.fixv (t:=35) (v':= .bool false) U (Bv (by rw [dF];omega)) ?_;refine R.pickF C U U U U<|R.done C<|X.cond C.1 U (fun h=>nomatch h) (fun _=>?_)
    refine X.skip C.1<|Xr C U U<|R5 C U U isAgg27 sizeOf27 (by repeat constructor) Tk5<|Rm C U U<|Rm C U U<|R.callR C U U U U (pullsR_c hJ he hvv hsh g n) fun v1 ro1 hl1 hq1=>?_
    obtain⟨w1,y1,rfl⟩:=hq1
    obtain⟨_,_,rfl⟩:=y1.form
    refine Rm C U U<|R.ext C U U U U<|R.ext C U U U U<|R.asg C U U U<|Ad C U U<|Xr C U U<|R5 C U U isAgg27 sizeOf27 (by repeat constructor) Tk5<|Rm C U U<|Rm C U U<|R.callR C U U U U (pullsRef_c hJ (hvv.mono hl1) hsh g n) fun v2 ro2 hl2 hq2=>?_
    obtain⟨w2,y2,rfl⟩:=hq2
    obtain⟨_,_,rfl⟩:=y2.form
    have k2:=RO.le_trans hl1 hl2
    refine Rm C U U<|R.ext C U U U U<|R.ext C U U U U<|R.asg C U U U<|Ad C U U<|Xr C U U<|R5 C U U isAgg27 sizeOf27 (by repeat constructor) Tk5<|R5 C U U isAgg30 sizeOf30 (by repeat constructor) Tk2<|Rm C U U<|Rm C U U<|R.callR C U U U U (liftsR_c hJ (he.mono k2) (hvv.mono k2) hsh (hks0.mono k2) hk2 g q) fun v3 ro3 hl3 hq3=>?_
    subst hq3
    have k3:=RO.le_trans k2 hl3
    refine Rm C U U<|R.ext C U U U U<|R.ext C U U U U<|R.asg C U U U<|Ad C U U<|Xr C U U<|R5 C U U isAgg27 sizeOf27 (by repeat constructor) Tk5<|R5 C U U isAgg30 sizeOf30 (by repeat constructor) Tk2<|Rm C U U<|Rm C U U<|R.callR C U U U U (liftsRef_c hJ (hvv.mono k3) hsh (hks0.mono k3) hk2 g q) fun v4 ro4 hl4 hq4=>?_
    subst hq4
    have k4:=RO.le_trans k3 hl4
    refine Rm C U U<|R.ext C U U U U<|R.ext C U U U U<|R.asg C U U U<|Ad C U U<|Xr C U U<|R5 C U U isAgg27 sizeOf27 (by repeat constructor) Tk5<|R5 C U U isAgg30 sizeOf30 (by repeat constructor) Tk2<|R.callR C U U U U (isCase_c hJ (he.mono k4) (hvv.mono k4) hsh (hks0.mono k4) hk2) fun v5 ro5 hl5 hq5=>?_
    subst hq5
    have k5:=RO.le_trans k4 hl5
    refine Rm C U U<|R.ext C U U U U<|R.ext C U U U U<|R.asg C U U U<|Ad C U U<|Xr C U U<|R5 C U U isAgg27 sizeOf27 (by repeat constructor) Tk5<|R5 C U U isAgg30 sizeOf30 (by repeat constructor) Tk2<|R.callR C U U U U (isCaseRef_c hJ (hvv.mono k5) hsh (hks0.mono k5) hk2) fun v6 ro6 hl6 hq6=>?_
    subst hq6
    have k6:=RO.le_trans k5 hl6
    refine Rm C U U<|R.ext C U U U U<|R.ext C U U U U<|R.asg C U U U<|Ad C U U<|Xs C<|Xd C fun hok=>D5 C 0 hok U U isAgg27 sizeOf27 (by repeat constructor) Tk5<|D5 C 2 hok U U isAgg27 sizeOf27 (by repeat constructor) Tk5<|De 1 (some 81) [true,false] hok (fun _ _ A hk=>?_)
    refine R.callP C U (A.w U U) (A.x U U) (A.s U U) (checkBook_c hJ (he.mono k6) (hvv.mono k6) hsh) (hk _ _ ⟨(QFs.cons (QF.of U (fun _ _ A h=>R.loadAgg C U (A.w U U) (A.x U U) isAgg27 sizeOf27 (by repeat constructor) Tk5 h)) QFs.nil), ?_⟩)
    refine De 3 (some 83) [false] hok (fun _ _ A hk=>?_)
    refine R.callP C U (A.w U U) (A.x U U) (A.s U U) (checkBookR_c hJ (hvv.mono k6) hsh) (hk _ _ ⟨QFs.nil, ?_⟩)
    refine Di C 4 hok U U U U U b_eql<|D.fixv (t:=84) (v':= .bool true) U (Bv (by simp)) ?_;refine Dm C 5 hok U U U<|Dm C 6 hok U U U<|Dm C 7 hok U U U<|De 8 (some 88) [] hok (fun _ _ A hk=>?_)
    refine R.callP C U (A.w U U) (A.x U U) (A.s U U) (sameInts_c hJ (y1.mono (RO.le_trans hl2 (RO.le_trans hl3 (RO.le_trans hl4 (RO.le_trans hl5 hl6))))) (y2.mono (RO.le_trans hl3 (RO.le_trans hl4 (RO.le_trans hl5 hl6)))) hpl hpl) (hk _ _ ⟨QFs.nil, ?_⟩)
    rw [show sameInts (pullsR b g n).1 (pullsR b g n).1=true by rw [sameInts_iff];simp]
    refine Dp 9 hok (fun _ _ _ A h=>R.pickT C U (A.w U U) (A.x U U) (A.x U U) h)<|D.fixv (t:=89) (v':= .bool true) U (by rfl)<|Dm C 10 hok U U U<|Dm C 11 hok U U U<|Dm C 12 hok U U U<|Dp 13 hok (fun _ _ _ A h=>R.eqBool C U (A.w U U) (A.x U U) (A.x U U) runUnderlying4 h)<|D.fixv (t:=93) (v':= .bool true) U (Bv (by simp)) ?_;refine Dp 14 hok (fun _ _ _ A h=>R.pickT C U (A.w U U) (A.x U U) (A.x U U) h)<|Dm C 15 hok U U U<|Dm C 16 hok U U U<|Dm C 17 hok U U U<|Dp 18 hok (fun _ _ _ A h=>R.eqBool C U (A.w U U) (A.x U U) (A.x U U) runUnderlying4 h)<|D.fixv (t:=98) (v':= .bool true) U (Bv (by simp)) ?_;refine Dp 19 hok (fun _ _ _ A h=>R.pickT C U (A.w U U) (A.x U U) (A.x U U) h)<|Dm C 20 hok U U U<|Dm C 21 hok U U U<|Dm C 22 hok U U U<|Di C 23 hok U U U U U b_eql<|D.fixv (t:=103) (v':= .bool true) U (Bv (by simp)) ?_;refine Dp 24 hok (fun _ _ _ A h=>R.pickT C U (A.w U U) (A.x U U) (A.x U U) h)<|Dm C 25 hok U U U<|Dm C 26 hok U U U<|Dm C 27 hok U U U<|Di C 28 hok U U U U U b_eql<|D.fixv (t:=108) (v':= .bool true) U (Bv (by simp)) ?_;refine Dp 29 hok (fun _ _ _ A h=>R.pickT C U (A.w U U) (A.x U U) (A.x U U) h)<|Dm C 30 hok U U U<|Dm C 31 hok U U U<|Dm C 32 hok U U U<|Di C 33 hok U U U U U b_eql<|D.fixv (t:=113) (v':= .bool true) U (Bv (by simp)) ?_;refine Dp 34 hok (fun _ _ _ A h=>R.pickT C U (A.w U U) (A.x U U) (A.x U U) h)<|Dm C 35 hok U U U<|De 36 (some 116) [] hok (fun _ _ A hk=>?_)
    refine R.callR C U (A.w U U) (A.x U U) (A.s U U) ((hoisted_c _ (he.mono k6))) fun v9 ro9 hl9 hq9=>hk _ _ ⟨QFs.nil, ?_⟩
    refine Dp 37 hok (fun _ _ _ A h=>R.pickT C U (A.w U U) (A.x U U) (A.x U U) h)<|Da C 38 hok U U<|D.done C hok (by kernel_rfl)<|X.ret0 C (by kernel_rfl) U U func3 U (by exact(.tmp U .nil)) fun w9 hs9=>hret _ _ _ (RO.le_trans k6 hl9) ?_ w9 hs9
    exact hq9
   ·have _:=h2
    refine Xr C U U<|R.box C U U U U fun p5=>R.box C U U U U fun p6=>Ad C U U<|Xs C<|Xr C U U<|R5 C U U isAgg27 sizeOf27 (by repeat constructor) Tk5<|R.callP C U U U U (greatR_c hJ (by assumption))<|R.fixv (t:=24) (v':= .bool false) U (by(rw [hgr]))<|Rm C U U<|Rf C 0 U U runUnderlying30 U sizeOf28<|Rl C U U isAgg28 (by repeat constructor) U<|Rn C U U runUnderlying28<|R.int C U U U U b_gtr<|R.fixv (t:=29) (v':= .bool false) U (Bv (by rw [dF];omega)) ?_;refine R.pickF C U U U U<|Rm C U U<|Rf C 1 U U runUnderlying30 U sizeOf28<|Rl C U U isAgg28 (by repeat constructor) U<|Rn C U U runUnderlying28<|R.int C U U U U b_gtr<|R.fixv (t:=35) (v':= .bool true) U (Bv (by rw [decide_eq_true_iff];omega)) ?_;refine R.pickF C U U U U<|R.done C<|X.cond C.1 U (fun _=>?_) (fun h=>nomatch h)
    refine Xr C U U<|R.callR C U U U U ((hoisted_c _ he)) fun v9 ro9 hl9 hq9=>Ad C U U<|X.ret0 C (by kernel_rfl) U U func3 U (by exact(.tmp U .nil)) fun w9 hs9=>hret _ _ _ hl9 ?_ w9 hs9
    exact hq9
  ·have _:=h1
   refine Xr C U U<|R.box C U U U U fun p5=>R.box C U U U U fun p6=>Ad C U U<|Xs C<|Xr C U U<|R5 C U U isAgg27 sizeOf27 (by repeat constructor) Tk5<|R.callP C U U U U (greatR_c hJ (by assumption))<|R.fixv (t:=24) (v':= .bool false) U (by(rw [hgr]))<|Rm C U U<|Rf C 0 U U runUnderlying30 U sizeOf28<|Rl C U U isAgg28 (by repeat constructor) U<|Rn C U U runUnderlying28<|R.int C U U U U b_gtr<|R.fixv (t:=29) (v':= .bool true) U (Bv (by rw [decide_eq_true_iff];omega)) ?_;refine R.pickF C U U U U<|Rm C U U<|R.pass C U U<|R.pass C U U<|R.pass C U U<|R.pass C U U<|R.pickT C U U U U<|R.done C<|X.cond C.1 U (fun _=>?_) (fun h=>nomatch h)
   refine Xr C U U<|R.callR C U U U U ((hoisted_c _ he)) fun v9 ro9 hl9 hq9=>Ad C U U<|X.ret0 C (by kernel_rfl) U U func3 U (by exact(.tmp U .nil)) fun w9 hs9=>hret _ _ _ hl9 ?_ w9 hs9
   exact hq9
 ·have hgr:great b=true:=by simpa using hgr
  refine Xr C U U<|R.box C U U U U fun p5=>R.box C U U U U fun p6=>Ad C U U<|Xs C<|Xr C U U<|R5 C U U isAgg27 sizeOf27 (by repeat constructor) Tk5<|R.callP C U U U U (greatR_c hJ (by assumption))<|R.fixv (t:=24) (v':= .bool true) U (by(rw [hgr]))<|Rm C U U<|R.pass C U U<|R.pass C U U<|R.pass C U U<|R.pass C U U<|R.pickT C U U U U<|Rm C U U<|R.pass C U U<|R.pass C U U<|R.pass C U U<|R.pass C U U<|R.pickT C U U U U<|R.done C<|X.cond C.1 U (fun _=>?_) (fun h=>nomatch h)
  refine Xr C U U<|R.callR C U U U U ((hoisted_c _ he)) fun v9 ro9 hl9 hq9=>Ad C U U<|X.ret0 C (by kernel_rfl) U U func3 U (by exact(.tmp U .nil)) fun w9 hs9=>hret _ _ _ hl9 ?_ w9 hs9
  exact hq9
end Go.Lg.B
namespace Go.Lg.B
open Go Go.Proofs Go.Proofs.YtchjgmkeemdhlaaGreatDoor Go.Proofs.Tryz
theorem pulls_k1:(Rows.tacklePullsRow.inPlace==prog.inPlace 3)=true:=by kernel_rfl
theorem pulls_k2:(Rows.tacklePullsRow.unfollowed==prog.unfollowed 3)=true:=by kernel_rfl
theorem pulls_k3:(Rows.tacklePullsRow.recurses==prog.recurses 3)=true:=by kernel_rfl
theorem pulls_k4:(Rows.tacklePullsRow.named==prog.varsNamed 3)=true:=by kernel_rfl
theorem pulls_name:prog.funcNamed "lagan/laganlaw07.TacklePulls" =some 3:=by kernel_rfl
theorem pulls_goes:true=Rows.tacklePullsRow.goesBy prog:=by kernel_rfl
theorem pulls_wf:Rows.tacklePullsRow.wfByText (OpenSpec.ofChange Rows.tacklePullsSpec)=true:=by kernel_rfl
theorem pulls_facts:joinedFacts prog 3 Tryz.f3 Rows.tacklePullsSpec Rows.tacklePullsRow=true:=by
 unfold joinedFacts
 exact(and_mk (and_mk (and_mk (and_mk (and_mk (and_mk (and_mk (and_mk (and_mk (and_mk (and_mk (and_mk (and_mk (and_mk (and_mk (and_mk (and_mk (and_mk (and_mk (and_mk (and_mk (and_mk (and_mk (and_mk (and_mk (and_mk (and_mk (and_mk (and_mk (and_mk (and_mk (by as_aux_lemma=>kernel_rfl)
  k_lo)
  k_mr)
  (by as_aux_lemma=>kernel_rfl))
  (by as_aux_lemma=>kernel_rfl))
  (by as_aux_lemma=>kernel_rfl))
  k_stops)
  (by as_aux_lemma=>kernel_rfl))
  k_knobs)
  pulls_k1)
  pulls_k2)
  pulls_k3)
  pulls_k4)
  (by as_aux_lemma=>kernel_rfl))
  (by as_aux_lemma=>kernel_rfl))
  (by as_aux_lemma=>kernel_rfl))
  (by as_aux_lemma=>kernel_rfl))
  (by as_aux_lemma=>kernel_rfl))
  (by as_aux_lemma=>kernel_rfl))
  (by as_aux_lemma=>kernel_rfl))
  (by as_aux_lemma=>kernel_rfl))
  (by as_aux_lemma=>kernel_rfl))
  (beq_iff_eq.2 k_pk.symm))
  (by as_aux_lemma=>kernel_rfl))
  k_heard)
  k_may)
  (beq_iff_eq.2 k_lift.symm))
  (beq_iff_eq.2 k_make))
  (by as_aux_lemma=>kernel_rfl))
  (by as_aux_lemma=>kernel_rfl))
  (by as_aux_lemma=>kernel_rfl))
  (by as_aux_lemma=>kernel_rfl))
end Go.Lg.B
namespace Go.Proofs.YtchjgmkeemdhlaaGreatDoor
open Go Go.Conc Go.Lg Go.Lg.B Go.ChangeShapes Go.RowKit Go.WideShapes
theorem pulls_lifted(os:Os)(started:os.Started)(H:Type)(enc:TypeId×Value→H):
  ReturnsInLeavingWide {} Tryz.checked os 3 .any (fun w args=>(Rows.tacklePullsSpec.pre enc Tryz.prog Tryz.f3 [] false w args∧laidMetH Tryz.prog laid1 w)∧sizedMet enc Tryz.prog Tryz.f3 (OpenSpec.ofChange Rows.tacklePullsSpec) false w args)
   (Rows.tacklePullsSpec.post enc Tryz.prog Tryz.f3 false true false false):=by
 refine leaving_of_root (C:=Tryz.checked) (tb:=4) (X:=fun w _=>laidMetH Tryz.prog laid1 w) (fun _ _ _ hh h=>h.of_heap hh) own0 started Tryz.func3 laid0 (by
   intro t ht
   rw [Tryz.params3] at ht
   have hm:t∈ [27,30,3,3,3]:=ht
   have hall:([27,30,3,3,3].all fun u=>Tryz.prog.readableRec u && decide (u<Tryz.prog.types.size))=true:=by kernel_rfl
   have:=List.all_eq_true.1 hall t hm
   rw [Bool.and_eq_true,decide_eq_true_eq] at this
   exact this) rfl (by kernel_rfl) Tryz.underlying4
  (ChangeSpec.witness_shaped (enc:=enc) (C:=Tryz.checked) (os:=os) (X:=fun w _=>laidMetH Tryz.prog laid1 w) false (World.doorLaid Tryz.prog 89 os) #[.agg #[.int .i64 0, .slice none 0 0, .slice none 0 0, .slice none 0 0, .slice none 0 0], .agg #[.slice none 0 0, .slice none 0 0], .int .i64 0, .int .i64 0, .int .i64 0] 8 rfl (door_shaped os _) (by kernel_rfl) (by kernel_rfl) (by kernel_rfl) (door_met os _)) ?_
 intro W base args ds gs before hval hW _ _ hL
 obtain⟨p,q,hA,hV,rfl,_,_⟩:=hW
 obtain⟨rfl,rfl⟩:=trodVars_none hV
 have hA:DataW.TrodAll enc Tryz.prog W 0 (fun _=>true) true Tryz.f3.params.toList args.toList ds p:=hA
 have hval:∀ (j:Nat) t v,Tryz.f3.params[j]? =some t→args[j]? =some v→Value.okWide Tryz.prog W .any base t v:=hval
 rw [Tryz.params3] at hA hval
 obtain⟨v1,l1,d1,k1,p1,q1,e1,rfl,rfl,h1,hA⟩:=trodAll_cons hA
 obtain⟨v2,l2,d2,k2,p2,q2,rfl,rfl,rfl,h2,hA⟩:=trodAll_cons hA
 obtain⟨v3,l3,d3,k3,p3,q3,rfl,rfl,rfl,h3,hA⟩:=trodAll_cons hA
 obtain⟨v4,l4,d4,k4,p4,q4,rfl,rfl,rfl,h4,hA⟩:=trodAll_cons hA
 obtain⟨v5,l5,d5,k5,p5,q5,rfl,rfl,rfl,h5,hA⟩:=trodAll_cons hA
 obtain⟨rfl,rfl,rfl⟩:=trodAll_nil hA
 have ea:args= #[v1,v2,v3,v4,v5]:=Array.toList_inj.1 e1
 subst ea
 obtain⟨b,b1⟩:=argBk (hval 0 27 v1 rfl rfl) h1
 obtain⟨k,b2⟩:=argKs (hval 1 30 v2 rfl rfl) h2
 obtain⟨a1,rfl,_⟩:=argInt (hval 2 3 v3 rfl rfl) h3
 obtain⟨a2,rfl,_⟩:=argInt (hval 3 3 v4 rfl rfl) h4
 obtain⟨a3,rfl,_⟩:=argInt (hval 4 3 v5 rfl rfl) h5
 exact⟨rfl,pulls_root (env_of_laid hL) b1 b2⟩
theorem pulls_row:Rows.TacklePullsSaid:=
 OpenClaim.holds_of_wide_leaving 3 Tryz.f3 rfl rfl rfl rfl rfl rfl rfl ⟨rfl,rfl,rfl,rfl,rfl⟩ rfl rfl rfl rfl rfl pulls_name Tryz.func3 pulls_facts
  (of_decide_eq_true (by kernel_rfl)) (by unfold Func.isWrapper;first|(rw [if_pos (by decide+kernel)];kernel_rfl)|(rw [if_neg (by decide+kernel)];exact⟨rfl,rfl⟩))
  (fun os started H enc _=>pulls_lifted os started H enc)
theorem pulls_holds:Rows.TacklePullsCardSaid:=
 card_goes .later [.funcs] true (true, "6ec45924a9ef3528b91853e2f3d4ce9a8ac3f7423f5bdc8d9ecf7c969235976f") true
  pulls_row pulls_wf tacklePulls_row_tie rfl ⟨rfl,rfl⟩ k_main rfl
  (fun f fn hf hfn=>by
   obtain rfl:f=3:=Option.some.inj (pulls_name.symm.trans hf)|>.symm
   obtain rfl:fn=Tryz.f3:=(Option.some.inj (Tryz.func3.symm.trans hfn)).symm
   exact⟨k_looks,fun j t ht=>by
    rw [Tryz.params3] at ht
    have hm:t∈ [27,30,3,3,3]:=by simpa using Array.mem_of_getElem? ht
    have hall:([27,30,3,3,3].all fun u=> !Tryz.prog.wantsStandIn u)=true:=by kernel_rfl
    exact(show Tryz.prog.wantsStandIn t=false by simpa using List.all_eq_true.1 hall t hm)⟩)
  pulls_goes
end Go.Proofs.YtchjgmkeemdhlaaGreatDoor
