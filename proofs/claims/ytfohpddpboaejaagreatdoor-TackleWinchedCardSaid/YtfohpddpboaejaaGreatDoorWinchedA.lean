/-
  A part of the proof of Winched: what its functions reckon, and plain laws. Conditions: the premises that each theorem states.
-/
import Derived.Test.YtfohpddpboaejaaGreatDoorKE
set_option maxRecDepth 100000
set_option maxHeartbeats 2000000
set_option linter.all false
namespace Go.Lg
open Go
theorem Bv{a c:Bool}(h:a=c):Value.bool a=Value.bool c:=congrArg _ h
end Go.Lg
namespace Go.Lg.B
open Go Go.Conc Go.Lg Go.Proofs Go.Proofs.Tryz
section
variable {b:Bk}
def nothing:Bk:=⟨0, [], [], [], []⟩
def newB(b:Bk)(h:Int):Bk:=if h=0 then b else nothing
theorem noBk_v(ro:RO):BkV ro noBk nothing:=⟨_,_,_,_,rfl, .nil,⟨[], .nil,rfl,fun z hz=>by cases hz⟩, .nil, .nil⟩
theorem NewV.bk{ro:RO}{h:Int}{w:Value}(hn:NewV ro b h w):∃v,BkV ro v (newB b h)∧w= .tuple [v, .int .i64 h].toArray:=by
 rcases hn with⟨h0,rfl⟩|⟨rfl,v,hv,rfl⟩
 ·exact⟨_,by rw [newB,if_neg h0];exact noBk_v ro,rfl⟩
 ·exact⟨v,hv,rfl⟩
theorem piece_fine(hb:b.good){i:Int}(h:0≤i∧i<b.cs.length):(b.piece i).fine:=by
 have hk:i.toNat<b.cs.length:=O
 have hp:b.piece i=b.cs[i.toNat]:=by simp [Bk.piece,List.getD_eq_getElem?_getD,hk]
 rw [hp];exact hb.cs _ (List.getElem_mem hk)
end
section
variable {b c:Bk}{p q:List Int}{g m n:Int}
theorem pulls_alike(hg:c.gs=b.gs)(hs:∀x,c.sheaves x=b.sheaves x)(g n:Int):pulls c g n=pulls b g n:=by
 have e:c.gear g=b.gear g:=by unfold Bk.gear;rw [hg]
 unfold pulls
 rw [e,pullsGo_alike hs]
theorem gives_up(hb:b.good)(hw:b.w≤c.w)(hg:c.gs=b.gs)(hs:∀x,c.sheaves x=b.sheaves x)(h:∀j:Nat,j<b.ps.length→nth p j≤nth q j)(h0:0≤g)(h1:g<b.gs.length)(hn:m≤n){x:Int}(hx:x∈gives c q g m):x∈gives b p g n:=by
 have e:c.gear g=b.gear g:=by unfold Bk.gear;rw [hg]
 have hm:=(pulls_mono hb h0 h1 hn).getD
 rw [gives_mem,e,pulls_alike hg hs] at hx
 rw [gives_mem]
 rcases hx with⟨i,h2,h3,h4⟩|⟨h3,h4⟩
 ·refine .inl ⟨i,h2, ?_,h4⟩
  have hgm:=(hb.gear h0 h1).2.1
  have e2:(b.gear g).getD i 0=(b.gear g)[i]:=by simp [List.getD_eq_getElem?_getD,h2]
  have hi:=hgm _ (List.getElem_mem h2)
  rw [e2] at h3⊢
  have:=h ((b.gear g)[i]).toNat O
  rw [show((((b.gear g)[i]).toNat:Nat):Int)=(b.gear g)[i] by omega] at this
  have:=hm i
  omega
 ·exact .inr ⟨by have:=hm (b.gear g).length;omega,h4⟩
theorem lifts_up(hb:b.good)(hw:b.w≤c.w)(hg:c.gs=b.gs)(hs:∀x,c.sheaves x=b.sheaves x)(h:∀j:Nat,j<b.ps.length→nth p j≤nth q j)(h0:0≤g)(h1:g<b.gs.length)(hm:1≤m)(hn:m≤n)(hl:lifts b p g n=true):lifts c q g m=true:=by
 rw [lifts_iff O] at hl⊢
 rw [List.eq_nil_iff_forall_not_mem]
 intro x hx
 have:=gives_up hb hw hg hs h h0 h1 hn hx
 rw [hl] at this;cases this
structure Up(b c:Bk):Prop where
 hb:checkBook b=0
 hc:checkBook c=0
 tb:b.ts= []
 tc:c.ts= []
 w:b.w≤c.w
 gs:c.gs=b.gs
 sh:∀x,c.sheaves x=b.sheaves x
 np:c.ps.length=b.ps.length
 nc:c.cs.length=b.cs.length
 down:∀t∈cases c,∃t'∈cases b,(∀j:Nat,j<b.ps.length→nth t'.1 j≤nth t.1 j)∧∀j:Nat,j<b.cs.length→nth t.2 j≤nth t'.2 j
 up:∀t∈cases b,∃t'∈cases c,(∀j:Nat,j<b.ps.length→nth t.1 j≤nth t'.1 j)∧∀j:Nat,j<b.cs.length→nth t'.2 j≤nth t.2 j
theorem nth_pos(hb:b.good){t:Tn}(ht:t∈cases b){k:Int}(h:0≤k∧k<b.cs.length):1≤nth t.2 k:=by
 have:=piece_fine hb h
 unfold Pc.fine at this
 have h2:=weights_in h.1 h.2 (mem_cases.1 ht).2
 omega
theorem Up.noLess(h:Up b c):NoLess b c where
 gs:=by rw [h.gs]
 cs:=h.nc
 ps:=h.np
 sure:=fun m g p hg hp hs=>by
  have gb:=good_of h.hb
  have gc:=good_of h.hc
  unfold Go.Lg.B.sure at hs⊢
  rw [List.all_eq_true] at hs⊢
  intro t ht
  obtain⟨t',ht',h1,h2⟩:=h.down t ht
  have hnp:=gb.np
  have l1:=bearsL_len _ (mem_cases.1 ht).1
  have l2:=bearsL_len _ (mem_cases.1 ht').1
  have hnp2:=h.np
  refine lifts_up gb h.w h.gs h.sh (fun j hj=>?_) O O (nth_pos gc ht (k:=(p:Int)) (by rw [h.nc];omega)) (h2 p hp) (hs t' ht')
  rw [nth_renew _ _ (by rw [pad_len O];omega),nth_renew _ _ (by rw [pad_len O];omega),nth_pad,nth_pad]
  split
  ·exact Int.le_refl _
  ·exact h1 j hj
 most:=fun g h0 h1=>by
  have gb:=good_of h.hb
  refine most_le gb (good_of h.hc) h0 h1 (by rw [h.gs];exact h1) fun n hn0 _ ha=>?_
  by_cases e:n=0
  ·subst e;exact allLift_zero c g
  ·unfold Go.Lg.B.allLift at ha⊢
   rw [List.all_eq_true] at ha⊢
   intro t ht
   obtain⟨t',ht',h2,_⟩:=h.down t ht
   exact lifts_up gb h.w h.gs h.sh h2 h0 h1 O (Int.le_refl _) (ha t' ht')
 weak:=fun g n h0 h1 x hx=>by
  obtain⟨t,ht,hg⟩:=weak_mem.1 hx
  obtain⟨t',ht',h2,_⟩:=h.down t ht
  exact weak_mem.2 ⟨t',ht',gives_up (good_of h.hb) h.w h.gs h.sh h2 h0 h1 (Int.le_refl _) hg⟩
theorem check_w(hch:checkBook b=0){w:Int}(hw:0≤w∧w≤99):checkBook {b with w:=w}=0:=by
 obtain⟨_,p,g,c,t⟩:=check_parts hch
 have h1:Bk.winchH {b with w:=w}=0:=by
  unfold Bk.winchH
  rw [if_pos (between_iff.2 hw)]
 have hp:Bk.partsH {b with w:=w}=0:=p
 have hg:Bk.gearsH {b with w:=w}=0:=g
 have hc:Bk.piecesH {b with w:=w}=0:=c
 have ht:Bk.testsH {b with w:=w}=0:=t
 unfold checkBook
 rw [h1,hp,hg,hc,ht];rfl
end
section
theorem winch_up{b:Bk}(hch:checkBook b=0)(ht:b.ts= []){w v:Int}(hw:0≤w∧w≤99)(hv:0≤v∧v≤99)(h:w≤v):Up {b with w:=w} {b with w:=v}:=by
 have hc:∀t:Tn,t∈cases {b with w:=w}↔t∈cases {b with w:=v}:=fun t=>by
  rw [mem_cases,mem_cases,mem_bare (b:={b with w:=w}) ht,mem_bare (b:={b with w:=v}) ht]
  exact Iff.rfl
 exact⟨check_w hch hw,check_w hch hv,ht,ht,h,rfl,fun _=>rfl,rfl,rfl,fun t hx=>⟨t,(hc t).2 hx,fun _ _=>Int.le_refl _,fun _ _=>Int.le_refl _⟩,fun t hx=>⟨t,(hc t).1 hx,fun _ _=>Int.le_refl _,fun _ _=>Int.le_refl _⟩⟩
end
end Go.Lg.B
namespace Go.Lg
open Go Go.Conc
variable {e t:TypeId}{M:Mem}{len:Nat}{l out:List Value}
theorem CheckT.structM{P:Program}{d n:Nat}{fields:Array Field}(hu:∀w,Sem.run P (Go.underlying t) w= .ok (.struct fields) w)(hf:∀f∈fields.toList,∃ (g:Bool)(m:Nat),(∀w,Sem.run P (Go.isAgg f.type) w= .ok g w)∧(∀w,Sem.run P (Go.sizeOf f.type) w= .ok m w)∧CheckT P d f.type m g∧f.offset+m≤n∧(g=false→m=1)):CheckT P (d+1) t n true:=fun a ha e M K hk=>by
 show Sm P M (Instr.checkKey e _ _ (.agg (ints a).toArray)) K
 unfold Instr.checkKey
 refine Sm.bind (Sm.underlying hu ?_)
 simp only
 rw [←Array.forIn_toList]
 refine Sm.bind (Sm.forU _ (fun f hm s M K hk=>?_) _ _ (Sm.pure hk))
 obtain⟨g,m,h1,h2,h3,h4,h5⟩:=hf f hm
 refine Sm.ite (fun _=>?_) (fun _=>Sm.pure hk)
 exact Sm.bind (Sm.partIv h1 h2 O h5 (Sm.bind (h3 _ Zo _ _ _ (Sm.pure hk))))
theorem Sm.index_array_agg{P:Program}{k:Nat}{kk:IntKind}{i:Int}{K:Value→Mem→Prop}(hu:∀w,Sem.run P (Go.underlying t) w= .ok (.array len e) w)(ha:∀w,Sem.run P (Go.isAgg e) w= .ok true w)
  (hz:∀w,Sem.run P (Go.sizeOf e) w= .ok k w) (h0:0≤i) (h1:i<len) (hv:Sub (i.toNat*k) k l out) (hk:K (.agg out.toArray) M):Sm P M (Instr.index t (.agg l.toArray) (.int kk i)) K:=by
 unfold Instr.index asIntOf
 refine Sm.bind (Sm.pure ?_)
 simp only
 refine Sm.bind (Sm.underlying hu ?_)
 simp only [h0,h1,and_self,if_true]
 exact Sm.bind (Sm.sizeOf hz (Sm.partAgg ha hz hv hk))
section
variable {P:Program}{main:Bool}{J:Goroutine→Mem→Prop}{b:Frame}(C:Ctx P main J b){cs:List Frame}{n:Nat}{ds:List Deferred}{σ:Slots}{k:List Item}{ops:Array Oper}{i:Nat}{rest:List Nat}
 {d:Nat} {ty:TypeId} {pos:String} {af:Array Edge} {g:Option (Nat×Bool)}
include C
theorem R.indexAgg{x y:Operand}{kk:Nat}{ik:IntKind}{z:Int}(ho:ops[i]? =some ⟨some d, .index t x y,ty,pos,af,g⟩)(hg:wantedS ops σ ⟨some d, .index t x y,ty,pos,af,g⟩=some true)(hx:ev σ x=some (.agg l.toArray))
  (hy:ev σ y=some (.int ik z)) (hu:∀w,Sem.run P (Go.underlying t) w= .ok (.array len e) w) (ha:∀w,Sem.run P (Go.isAgg e) w= .ok true w) (hz:∀w,Sem.run P (Go.sizeOf e) w= .ok kk w) (h0:0≤z) (h1:z<len) (hv:Sub (z.toNat*kk) kk l out)
  (h:R J b cs n ops rest k ds ((d, .agg out.toArray)::σ) M):R J b cs n ops (i::rest) k ds σ M:=
 R.v C ho hg rfl (fun _ hh _ hk=>by unfold execOp;simp only [hh.ev hx,hh.ev hy];exact ex_v (Sm.index_array_agg hu ha hz h0 h1 hv hk)) h
end
end Go.Lg
namespace Go.Lg.Be
open Go Go.Conc Go.Lg Go.Proofs Go.Lg.B Go.Proofs.Tryz
structure Mn where
 nm:List UInt8
 r:Rc
 deriving DecidableEq
instance : Inhabited Mn := ⟨⟨[], default⟩⟩
def Mn.cells(m:Mn):List Value:= [strV m.nm, .int .i64 m.r.lo, .int .i64 m.r.hi]
theorem Mn.len(m:Mn):m.cells.length=3:=rfl
structure Mk where
 n:Int
 r:Rc
 deriving DecidableEq
instance : Inhabited Mk := ⟨⟨0, default⟩⟩
def Mk.cells(m:Mk):List Value:= [.int .i64 m.n, .int .i64 m.r.lo, .int .i64 m.r.hi]
theorem Mk.len(m:Mk):m.cells.length=3:=rfl
structure Bk where
 room:Int
 dep:Int
 least:Int
 mins:Int
 lamps:Int
 cask:Int
 casks:Int
 pump:Int
 leak:Rc
 pmp:Rc
 ms:List Mn
 sent:List Int
 ks:List Mk
 deriving DecidableEq
abbrev bc(b:Bk)(l:List Value):List Value:=.int .i64 b.room::.int .i64 b.dep::.int .i64 b.least::.int .i64 b.mins::.int .i64 b.lamps::.int .i64 b.cask::.int .i64 b.casks::.int .i64 b.pump::.int .i64 b.leak.lo::.int .i64 b.leak.hi::.int .i64 b.pmp.lo::.int .i64 b.pmp.hi::l
abbrev bs(b:Bk)(x:Option Addr)(k:Nat)(y:Option Addr)(m:Nat)(z:Option Addr)(n:Nat)(l:List Value):List Value:=bc b (.slice x b.ms.length k::.slice y b.sent.length m::.slice z b.ks.length n::l)
variable {x:Rc}{b:Bk}{u:Int}
def Bk.bellH(b:Bk):Int:=if !between b.room 1 99|| !between b.dep 0 99|| !between b.least 0 99|| !between b.mins 1 8 then 1 else 0
def Bk.usesH(b:Bk):Int:=if !between b.lamps 0 99|| !between b.cask 0 99|| !between b.pump 0 99|| !between b.casks 0 3|| !B.isReach b.pmp 1 b.mins|| !B.isReach b.leak 0 99|| !decide (b.leak.hi-b.leak.lo<3) then 1 else 0
def menGo:List (List UInt8)→List Mn→Int
 |_, []=>0
 |before,m::l=>if !isLabel m.nm then 4 else if m.nm∈before then 5 else if !B.isReach m.r 1 99|| !decide (m.r.hi-m.r.lo<3) then 1 else menGo (before++ [m.nm]) l
def Bk.menH(b:Bk):Int:=if b.ms.length>3 then 2 else menGo [] b.ms
def Bk.minute(b:Bk)(n:Int):Bool:=between n 1 b.mins
def Bk.planGo(b:Bk)(l:List Int):Nat→List Int→Int
 |_, []=>if b.casks<l.length then 8 else 0
 |i,n::t=>if !b.minute n then 6 else if 0<i∧n≤l.getD (i-1) 0 then 7 else b.planGo l (i+1) t
def Bk.planH(b:Bk)(l:List Int):Int:=b.planGo l 0 l
def Bk.marksGo(b:Bk):List Mk→Int
 | []=>0
 |m::l=>if !b.minute m.n then 6 else if !B.isReach m.r 0 99 then 1 else b.marksGo l
def Bk.marksH(b:Bk):Int:=if b.ks.length>3 then 2 else b.marksGo b.ks
def checkBook(b:Bk):Int:=if b.bellH≠0 then b.bellH else if b.usesH≠0 then b.usesH else if b.menH≠0 then b.menH else if b.planH b.sent≠0 then b.planH b.sent else b.marksH
def dry(b:Bk)(n:Int):Int:=n*33/ (33+b.dep)
def holds(b:Bk):Int:=b.room*(33+b.dep) /33
def planI:List Int→Nat
 |l=>l.foldl (fun p n=>p|||2^n.toNat) 0
def hasI(p:Nat)(n:Int):Bool:=p.testBit n.toNat
def stepI(b:Bk)(u:Int)(p:Nat)(n m:Int):Int:=
 max 0 (min ((if hasI p m then n+b.cask else n)+(if between m b.pmp.lo b.pmp.hi then b.pump else 0)) (holds b) - (b.lamps+u))
def aft(b:Bk)(u:Int)(p:Nat):Nat→Int
 |0=>b.room
 |k+1=>stepI b u p (aft b u p k) ((k+1:Nat):Int)
def play(b:Bk)(u:Int)(p:Nat):List Int:=(List.range b.mins.toNat).map fun k=>aft b u p (k+1)
def bad(b:Bk)(u:Int)(p:Nat):Int:=1+findA (fun n=>decide (dry b n<b.least)) (play b u p)
abbrev Cs:=Int×List Int
def used(c:Cs):Int:=c.2.foldl (· + ·) c.1
def marked(b:Bk)(c:Cs):Bool:=b.ks.all fun m=>between (dry b ((play b (used c) (planI b.sent)).getD (m.n-1).toNat 0)) m.r.lo m.r.hi
def cases(b:Bk):List Cs:=b.leak.nums.flatMap fun n=>((spread (b.ms.map Mn.r)).map fun w=>(n,w)).filter (marked b)
def openH(b:Bk)(h:Int):Int:=if checkBook b≠0 then checkBook b else if h≠0 then h else if cases b= [] then 9 else 0
def agreedH(b:Bk):Int:=if checkBook b≠0 then checkBook b else if cases b= [] then 9 else 0
def Bk.caulked(b:Bk)(x:Rc):Bk:={b with leak:=⟨max b.leak.lo x.lo,min b.leak.hi x.hi⟩ }
def caulkH(b:Bk)(x:Rc):Int:=if checkBook b≠0 then checkBook b else if !B.isReach x 0 99 then 1 else if !decide (max b.leak.lo x.lo≤min b.leak.hi x.hi) then 9 else agreedH (b.caulked x)
def crewOf(n mask:Nat):List Int:=((List.range n).filter fun i=>mask.testBit i).map fun i:Nat=>(i:Int)
def alone(crew:List Int)(c:Cs):Cs:=(c.1,(List.range 3).map fun i:Nat=>if(i:Int)∈crew then c.2.getD i 0 else 0)
def sureAll(b:Bk)(l:List Cs)(p:Nat):Bool:=l.all fun c=>bad b (used c) p==0
def crewOk(b:Bk)(l:List Cs)(p mask:Nat):Bool:=sureAll b (l.map (alone (crewOf b.ms.length mask))) p
def CrewIs(b:Bk)(l:List Cs)(p:Nat)(m:Nat)(found:Bool):Prop:=
 (∀mask,mask<2^b.ms.length→crewOk b l p mask=true→found=true∧(crewOf b.ms.length mask).length≤m)∧(found=true→∃mask,mask<2^b.ms.length∧crewOk b l p mask=true∧m=(crewOf b.ms.length mask).length)
structure Bk.good(b:Bk):Prop where
 room:1≤b.room∧b.room≤99
 dep:0≤b.dep∧b.dep≤99
 least:0≤b.least∧b.least≤99
 mins:1≤b.mins∧b.mins≤8
 lamps:0≤b.lamps∧b.lamps≤99
 cask:0≤b.cask∧b.cask≤99
 pump:0≤b.pump∧b.pump≤99
 casks:0≤b.casks∧b.casks≤3
 pmp:1≤b.pmp.lo∧b.pmp.lo≤b.pmp.hi∧b.pmp.hi≤b.mins
 leak:0≤b.leak.lo∧b.leak.lo≤b.leak.hi∧b.leak.hi≤99∧b.leak.hi-b.leak.lo<3
 nm:b.ms.length≤3
 ms:∀m∈b.ms,1≤m.r.lo∧m.r.lo≤m.r.hi∧m.r.hi≤99∧m.r.hi-m.r.lo<3
 sent:b.sent.length≤3∧∀n∈b.sent,1≤n∧n≤8
 nk:b.ks.length≤3
 ks:∀m∈b.ks,1≤m.n∧m.n≤b.mins∧0≤m.r.lo∧m.r.hi≤99
theorem reach_iff{l m:Int}:B.isReach x l m=true↔l≤x.lo∧x.lo≤x.hi∧x.hi≤m:=by simp [B.isReach,and_assoc]
theorem menGo_in:∀ {l:List Mn} {before:List (List UInt8)},menGo before l=0→∀m∈l,1≤m.r.lo∧m.r.lo≤m.r.hi∧m.r.hi≤99∧m.r.hi-m.r.lo<3
 |x::l,before,h,m,hm=>by
  simp only [menGo] at h
  split at h
  ·cases h
  ·split at h
   ·cases h
   ·split at h
    ·cases h
    ·rename_i h3
     rcases List.mem_cons.1 hm with rfl|hm
     ·simp only [Bool.or_eq_true,Bool.not_eq_true',not_or,Bool.not_eq_false,decide_eq_false_iff_not,Classical.not_not] at h3
      have:=reach_iff.1 h3.1
      omega
     ·exact menGo_in h m hm
theorem planGo_in{b:Bk}{l:List Int}:∀ {t:List Int} {i:Nat},b.planGo l i t=0→(l.length:Int)≤b.casks∧∀n∈t,1≤n∧n≤b.mins
 | [],i,h=>by
  simp only [Bk.planGo] at h
  split at h
  ·cases h
  ·exact⟨O,fun _ h=>nomatch h⟩
 |x::t,i,h=>by
  simp only [Bk.planGo] at h
  split at h
  ·cases h
  ·rename_i h1
   split at h
   ·cases h
   ·have ih:=planGo_in h
    refine⟨ih.1,fun n hn=>?_⟩
    rcases List.mem_cons.1 hn with rfl|hn
    ·have h1:b.minute n=true:=by simpa using h1
     exact between_iff.1 h1
    ·exact ih.2 n hn
theorem marksGo_in{b:Bk}:∀ {l:List Mk},b.marksGo l=0→∀m∈l,1≤m.n∧m.n≤b.mins∧0≤m.r.lo∧m.r.hi≤99
 |x::l,h,m,hm=>by
  simp only [Bk.marksGo] at h
  split at h
  ·cases h
  ·rename_i h1
   split at h
   ·cases h
   ·rename_i h2
    rcases List.mem_cons.1 hm with rfl|hm
    ·have h1:b.minute m.n=true:=by simpa using h1
     have h2:B.isReach m.r 0 99=true:=by simpa using h2
     have:=between_iff.1 h1
     have:=reach_iff.1 h2
     omega
    ·exact marksGo_in h m hm
theorem good_of(h:checkBook b=0):b.good:=by
 obtain⟨h1,h⟩:=ite_same h
 obtain⟨h2,h⟩:=ite_same h
 obtain⟨h3,h⟩:=ite_same h
 obtain⟨h4,h5⟩:=ite_same h
 have w1:¬(!between b.room 1 99|| !between b.dep 0 99|| !between b.least 0 99|| !between b.mins 1 8)=true:=fun e=>by
  unfold Bk.bellH at h1;rw [if_pos e] at h1;cases h1
 have w2:¬(!between b.lamps 0 99|| !between b.cask 0 99|| !between b.pump 0 99|| !between b.casks 0 3|| !B.isReach b.pmp 1 b.mins|| !B.isReach b.leak 0 99|| !decide (b.leak.hi-b.leak.lo<3))=true:=fun e=>by
  unfold Bk.usesH at h2;rw [if_pos e] at h2;cases h2
 obtain⟨w3,h3⟩:=ite_zero Dd h3
 obtain⟨w5,h5⟩:=ite_zero Dd h5
 simp only [Bool.or_eq_true,Bool.not_eq_true',not_or,Bool.not_eq_false,decide_eq_false_iff_not,Classical.not_not,between_iff,reach_iff] at w1 w2
 obtain⟨⟨⟨a1,a2⟩,a3⟩,a4⟩:=w1
 obtain⟨⟨⟨⟨⟨⟨c1,c2⟩,c3⟩,c4⟩,c5⟩,c6⟩,c7⟩:=w2
 have hp:=planGo_in h4
 exact⟨a1,a2,a3,a4,c1,c2,c3,c4,c5,⟨c6.1,c6.2.1,c6.2.2,c7⟩,O,menGo_in h3,⟨O,fun n hn=>by have:=hp.2 n hn;omega⟩,O,marksGo_in h5⟩
theorem mem_cases{t:Cs}:t∈cases b↔(t.1∈b.leak.nums∧t.2∈spread (b.ms.map Mn.r))∧marked b t=true:=by
 unfold cases
 simp only [List.mem_flatMap,List.mem_filter,List.mem_map]
 constructor
 ·rintro⟨n,hn,⟨w,hw,rfl⟩,hs⟩
  exact⟨⟨hn,hw⟩,hs⟩
 ·rintro⟨⟨hn,hw⟩,hs⟩
  exact⟨t.1,hn,⟨t.2,hw,rfl⟩,hs⟩
theorem nums_in{r:Rc}{n:Int}:n∈r.nums↔r.lo≤n∧n≤r.hi:=by
 have key:∀ (c:Nat) (lo:Int),n∈B.rz lo c↔lo≤n∧n<lo+c:=by
  intro c
  induction c with
  |zero=>intro lo;simp only [B.rz,List.not_mem_nil,false_iff];omega
  |succ c ih=>intro lo;simp only [B.rz,List.mem_cons,ih];omega
 unfold Rc.nums
 rw [key];omega
theorem play_caulked(u:Int)(p:Nat):play (b.caulked x) u p=play b u p:=by
 have key:∀k:Nat,aft (b.caulked x) u p k=aft b u p k:=by
  intro k
  induction k with
  |zero=>rfl
  |succ k ih=>simp only [aft,ih];rfl
 unfold play
 congr 1
 funext k
 exact key _
theorem marked_caulked(c:Cs):marked (b.caulked x) c=marked b c:=by
 unfold marked
 have e:(b.caulked x).sent=b.sent:=rfl
 rw [e,play_caulked];rfl
theorem bad_caulked(u:Int)(p:Nat):bad (b.caulked x) u p=bad b u p:=by
 unfold bad
 rw [play_caulked];rfl
theorem caulked_sub:∀t∈cases (b.caulked x),t∈cases b:=fun t ht=>by
 rw [mem_cases] at ht⊢
 refine⟨⟨?_,ht.1.2⟩,by rw [←marked_caulked (x:=x)];exact ht.2⟩
 have h1:=nums_in.1 ht.1.1
 refine nums_in.2 ?_
 unfold Bk.caulked at h1
 simp only at h1
 omega
theorem crew_law{p m m':Nat}{f f':Bool}(h:CrewIs b (cases b) p m f)(h':CrewIs (b.caulked x) (cases (b.caulked x)) p m' f')(hf:f=true):f'=true∧m≤m':=by
 obtain⟨mask,h1,h2,rfl⟩:=h.2 hf
 refine h'.1 mask h1 ?_
 unfold crewOk sureAll at h2⊢
 rw [List.all_eq_true] at h2⊢
 intro c hc
 obtain⟨a,ha,rfl⟩:=List.mem_map.1 hc
 rw [bad_caulked]
 exact h2 _ (List.mem_map.2 ⟨a,caulked_sub a ha,rfl⟩)
theorem holds_in(hb:b.good):0≤holds b∧holds b≤396:=by
 have h1:=hb.room
 have h2:=hb.dep
 unfold holds
 have h3:b.room*(33+b.dep)≤99*132:=Int.mul_le_mul h1.2 O O O
 have h4:0≤b.room*(33+b.dep):=Int.mul_nonneg O O
 omega
theorem aft_in(hb:b.good)(hu:0≤u)(p:Nat):∀k,0≤aft b u p k∧aft b u p k≤396
 |0=>by have:=hb.room;simp only [aft];omega
 |k+1=>by
  have h1:=holds_in hb
  have h2:=hb.lamps
  simp only [aft,stepI]
  omega
theorem play_len(b:Bk)(u:Int)(p:Nat):(play b u p).length=b.mins.toNat:=by simp [play]
theorem play_in(hb:b.good)(hu:0≤u)(p:Nat):∀x∈play b u p,0≤x∧x≤396:=fun x hx=>by
 obtain⟨k,_,rfl⟩:=List.mem_map.1 hx
 exact aft_in hb hu p _
theorem crewOf_le(n mask:Nat):(crewOf n mask).length≤n:=by
 unfold crewOf
 rw [List.length_map]
 have:=List.length_filter_le (fun i=>mask.testBit i) (List.range n)
 rw [List.length_range] at this
 exact this
theorem openH_good{h:Int}(h0:openH b h=0):checkBook b=0∧h=0∧cases b≠ []:=by
 unfold openH at h0
 split at h0
 ·contradiction
 ·rename_i h1
  split at h0
  ·contradiction
  ·rename_i h2
   split at h0
   ·cases h0
   ·rename_i h3
    exact⟨Classical.not_not.1 h1,Classical.not_not.1 h2,h3⟩
theorem caulk_law{l:List Int}(h:caulkH b x=0)(hl:b.planH l=0):openH b (b.planH l)=0∧openH (b.caulked x) ((b.caulked x).planH l)=0∧checkBook b=0∧checkBook (b.caulked x)=0:=by
 obtain⟨hch,h⟩:=ite_same h
 obtain⟨_,h⟩:=ite_zero Dd h
 obtain⟨_,h⟩:=ite_zero Dd h
 obtain⟨hco,h⟩:=ite_same h
 have hneo:cases (b.caulked x)≠ []:=fun e=>by rw [if_pos e] at h;cases h
 have hne:cases b≠ []:=fun e=>by
  cases hc:cases (b.caulked x) with
  |nil=>exact hneo hc
  |cons t T=>
   have:=caulked_sub t (by rw [hc];simp)
   rw [e] at this;cases this
 have hpl:∀ (t:List Int) (i:Nat),(b.caulked x).planGo l i t=b.planGo l i t:=by
  intro t
  induction t with
  |nil=>intro i;rfl
  |cons n t ih=>intro i;simp only [Bk.planGo,ih];rfl
 have hl2:(b.caulked x).planH l=0:=(hpl l 0).trans hl
 refine⟨?_, ?_,hch,hco⟩
 ·rw [openH,if_neg (fun e=>e hch),if_neg (fun e=>e hl),if_neg hne]
 ·rw [openH,if_neg (fun e=>e hco),if_neg (fun e=>e hl2),if_neg hneo]
end Go.Lg.Be
namespace Go.Lg.Be
open Go Go.Conc Go.Lg Go.Proofs Go.Lg.B Go.Proofs.Tryz
variable {ro ro':RO}{b:Bk}{fv v:Value}{L:List Mn}{f:Mn→Bool}{pre:List (Nat×Obj)}
def BkP(ro:RO)(b:Bk)(vm vs vk:Value):Prop:=Ls Mn.cells 3 ro vm b.ms∧LsI ro vs b.sent∧Ls Mk.cells 3 ro vk b.ks∧capOk vm
theorem BkP.mono{vm vs vk:Value}(h:BkP ro b vm vs vk)(hl:ro.le ro'):BkP ro' b vm vs vk:=⟨h.1.mono hl,h.2.1.mono hl,h.2.2.1.mono hl,h.2.2.2⟩
def BkV(ro:RO)(v:Value)(b:Bk):Prop:= ∃vm vs vk,v= .agg (bc b [vm,vs,vk]).toArray∧BkP ro b vm vs vk
theorem BkV.mono(h:BkV ro v b)(hl:ro.le ro'):BkV ro' v b:=let⟨vm,vs,vk,e,h1⟩:=h;⟨vm,vs,vk,e,h1.mono hl⟩
theorem BkV.all(h:BkV ro v b):∃mb mc sb sc kb kc,v= .agg (bs b mb mc sb sc kb kc []).toArray∧BkP ro b (.slice mb b.ms.length mc) (.slice sb b.sent.length sc) (.slice kb b.ks.length kc)∧b.ms.length≤mc:=by
 obtain⟨vm,vs,vk,rfl,h⟩:=h
 have h0:=h
 obtain⟨h1,h2,h3,h4⟩:=h
 obtain⟨mb,mc,rfl⟩:=h1.form
 obtain⟨sb,sc,rfl⟩:=h2.form
 obtain⟨kb,kc,rfl⟩:=h3.form
 obtain⟨_,_,_,ep,h4⟩:=h4
 cases ep
 exact⟨mb,mc,sb,sc,kb,kc,rfl,h0,h4⟩
structure Bk.short(b:Bk):Prop where
 ms:b.ms.length≤1000∧∀m∈b.ms,m.nm.length≤1000
 sent:b.sent.length≤1000
 ks:b.ks.length≤1000
theorem any_nm{s:List UInt8}:(L.any fun q=>q.nm==s)=decide (s∈L.map Mn.nm):=by
 rw [Bool.eq_iff_iff,List.any_eq_true,decide_eq_true_eq,List.mem_map]
 constructor
 ·rintro⟨q,hq,e⟩
  exact⟨q,hq,by simpa using e⟩
 ·rintro⟨q,hq,rfl⟩
  exact⟨q,hq,by simp⟩
theorem ls_take{α:Type}{enc:α→List Value}{m:Nat}(he:∀x,(enc x).length=m){base:Option Addr}{cap k:Nat}{L:List α}(h:Ls enc m ro (.slice base L.length cap) L)(hk:k≤L.length):Ls enc m ro (.slice base k cap) (L.take k):=by
 obtain⟨b2,c2,e,h⟩:=h
 cases e
 have hl:(L.take k).length=k:=by simp;omega
 refine⟨base,cap,by rw [hl], ?_⟩
 rcases h with h|⟨p,off,l,t,fq,rfl,h2,h4⟩
 ·left;rw [h];simp
 ·refine .inr ⟨p,off,l,t,fq,rfl,h2, ?_⟩
  have:=h4.part (i:=0) (m:=k*m) (Nat.le_trans (Nat.le_of_eq (Nat.zero_add _)) (Nat.mul_le_mul_right m hk))
  have e:∀ (zs:List α) (k:Nat),(zs.flatMap enc).take (k*m)=(zs.take k).flatMap enc:=fun zs=>by
   induction zs with
   |nil=>intro k;simp
   |cons z zs ih=>
    intro k
    cases k with
    |zero=>simp
    |succ k=>
     have e:(k+1)*m=(enc z).length+k*m:=by rw [he,Nat.succ_mul,Nat.add_comm]
     rw [List.flatMap_cons,e,List.take_length_add_append,ih k,List.take_succ_cons,List.flatMap_cons]
  rw [List.drop_zero,e] at this
  rw [hl]
  simpa using this
variable {main:Bool}{J:Goroutine→Mem→Prop}(hJ:Closed prog main J)
include hJ
theorem indexM_c(hl:Ls Mn.cells 3 ro v L)(hn:L.length≤1000000)
  (hf:∀q∈L,CallV prog J fv [.agg (Mn.cells q).toArray] ro pre (fun v ro' pre'=>v= .bool (f q)∧ro'=ro∧pre'=pre)):
  CallV prog J (fnv 383) [v,fv] ro pre (fun w ro' pre'=>w= .int .i64 (findA f L)∧ro'=ro∧pre'=pre):=by
 obtain⟨lb,lc,rfl⟩:=hl.form
 refine CallV.intro (first:= []) (vs:= [_,_]) (cap:= []) hJ Kr fun c cs tail hret=>enter_X (n:=19) func383 U U (Nl U) ?_
 have C:Ctx prog main J (bf 383 .normal):=⟨hJ,by decide⟩
 refine Xo W W<|Xx W<|Ro W<|Rt W A78<|Ro W<|Rz<|Xb<|X.loopI (ι:=Nat) C.1 (fun i=>i≤L.length∧∀j (h:j<L.length),j<i→f L[j]=false) (fun i=> [(0, .slice lb L.length lc),(1,fv),(7, .int .i64 (L.length:Int)),(8, .int .i64 (i:Int))])
  (fun _=>⟨ro,pre++tail⟩) (fun i=>L.length-i) 0 ⟨Nat.zero_le _,fun _ _ h=>absurd h (Nat.not_lt_zero _)⟩ rfl ⟨U,U,U,U,trivial⟩ fun i hi hnext=>?_
 obtain⟨hi,hb⟩:=hi
 refine Xu W<|Ri Z b_lss<|Rz<|Xv<|Xj U (fun hlt=>?_) (fun hlt=>?_)
 ·have hi':i<L.length:=O
  obtain⟨pp,off,cap,ll,t,fq,hsl,hrop,hsub⟩:=hl.at (fun _=>rfl) O
  cases hsl
  refine Xz<|Xv<|Xb<|Xm W W<|Ae W<|Xm W W<|Oo W W<|Ry Y A78 B198<|La Y isAgg198 B198 hrop (hsub i hi')<|R.call C U U U U (pre:=pre) (tail:=tail) U (hf _ (List.getElem_mem hi')) fun w ro2 pre2 hl2 hp2=>?_
  obtain⟨rfl,rfl,rfl⟩:=hp2
  refine Zc U (fun hr=>?_) (fun hr=>?_)
  ·refine Xm W W<|Ae W<|Xw func383<|hret _ _ _ _ (RO.le_refl _) ⟨?_,rfl,rfl⟩ Vs
   rw [findA_hit hi' hr hb];rfl
  ·refine Xz<|Xi<|Xg W<|Rb Y<|Ro W<|Rz<|X.weaken ?_ (hnext (i+1) ⟨hi',fun j hj hji=>?_⟩ O)
   ·exact⟨rfl,rfl,rfl,by simp [look],trivial⟩
   ·by_cases e:j=i
    ·subst e;exact hr
    ·exact hb j hj O
 ·obtain rfl:i=L.length:=by omega
  refine Xe U<|Xo W W<|Xw func383<|hret _ _ _ _ (RO.le_refl _) ⟨?_,rfl,rfl⟩ Vs
  rw [findA_miss (fun j hj=>hb j hj hj)];rfl
theorem containsM_c(hl:Ls Mn.cells 3 ro v L)(hn:L.length≤1000000)
  (hf:∀q∈L,CallV prog J fv [.agg (Mn.cells q).toArray] ro pre (fun v ro' pre'=>v= .bool (f q)∧ro'=ro∧pre'=pre)):
  CallV prog J (fnv 381) [v,fv] ro pre (fun w ro' pre'=>w= .bool (L.any f)∧ro'=ro∧pre'=pre):=by
 refine CallV.intro (first:= []) (vs:= [_,_]) (cap:= []) hJ Kr fun c cs tail hret=>enter_X (n:=9) func381 U U (Nl U) ?_
 have C:Ctx prog main J (bf 381 .normal):=⟨hJ,by decide⟩
 refine Xo W W<|Xm W W<|Ro W<|R.call C U U U U (pre:=pre) (tail:=tail) U (indexM_c hJ hl hn hf) fun w ro2 pre2 hl2 hp2=>?_
 obtain⟨rfl,rfl,rfl⟩:=hp2
 refine Ri Z b_geq<|Ae W<|Xw func381<|hret _ _ _ _ (RO.le_refl _) ⟨?_,rfl,rfl⟩ Vs
 simp only [retVal, ←findA_any]
theorem indexK_c{L:List Mk}{f:Mk→Bool}(hl:Ls Mk.cells 3 ro v L)(hn:L.length≤1000000)
  (hf:∀q∈L,CallV prog J fv [.agg (Mk.cells q).toArray] ro pre (fun v ro' pre'=>v= .bool (f q)∧ro'=ro∧pre'=pre)):
  CallV prog J (fnv 324) [v,fv] ro pre (fun w ro' pre'=>w= .int .i64 (findA f L)∧ro'=ro∧pre'=pre):=by
 obtain⟨lb,lc,rfl⟩:=hl.form
 refine CallV.intro (first:= []) (vs:= [_,_]) (cap:= []) hJ Kr fun c cs tail hret=>enter_X (n:=19) func324 U U (Nl U) ?_
 have C:Ctx prog main J (bf 324 .normal):=⟨hJ,by decide⟩
 refine Xo W W<|Xx W<|Ro W<|Rt W A79<|Ro W<|Rz<|Xb<|X.loopI (ι:=Nat) C.1 (fun i=>i≤L.length∧∀j (h:j<L.length),j<i→f L[j]=false) (fun i=> [(0, .slice lb L.length lc),(1,fv),(7, .int .i64 (L.length:Int)),(8, .int .i64 (i:Int))])
  (fun _=>⟨ro,pre++tail⟩) (fun i=>L.length-i) 0 ⟨Nat.zero_le _,fun _ _ h=>absurd h (Nat.not_lt_zero _)⟩ rfl ⟨U,U,U,U,trivial⟩ fun i hi hnext=>?_
 obtain⟨hi,hb⟩:=hi
 refine Xu W<|Ri Z b_lss<|Rz<|Xv<|Xj U (fun hlt=>?_) (fun hlt=>?_)
 ·have hi':i<L.length:=O
  obtain⟨pp,off,cap,ll,t,fq,hsl,hrop,hsub⟩:=hl.at (fun _=>rfl) O
  cases hsl
  refine Xz<|Xv<|Xb<|Xm W W<|Ae W<|Xm W W<|Oo W W<|Ry Y A79 B309<|La Y isAgg309 B309 hrop (hsub i hi')<|R.call C U U U U (pre:=pre) (tail:=tail) U (hf _ (List.getElem_mem hi')) fun w ro2 pre2 hl2 hp2=>?_
  obtain⟨rfl,rfl,rfl⟩:=hp2
  refine Zc U (fun hr=>?_) (fun hr=>?_)
  ·refine Xm W W<|Ae W<|Xw func324<|hret _ _ _ _ (RO.le_refl _) ⟨?_,rfl,rfl⟩ Vs
   rw [findA_hit hi' hr hb];rfl
  ·refine Xz<|Xi<|Xg W<|Rb Y<|Ro W<|Rz<|X.weaken ?_ (hnext (i+1) ⟨hi',fun j hj hji=>?_⟩ O)
   ·exact⟨rfl,rfl,rfl,by simp [look],trivial⟩
   ·by_cases e:j=i
    ·subst e;exact hr
    ·exact hb j hj O
 ·obtain rfl:i=L.length:=by omega
  refine Xe U<|Xo W W<|Xw func324<|hret _ _ _ _ (RO.le_refl _) ⟨?_,rfl,rfl⟩ Vs
  rw [findA_miss (fun j hj=>hb j hj hj)];rfl
theorem containsK_c{L:List Mk}{f:Mk→Bool}(hl:Ls Mk.cells 3 ro v L)(hn:L.length≤1000000)
  (hf:∀q∈L,CallV prog J fv [.agg (Mk.cells q).toArray] ro pre (fun v ro' pre'=>v= .bool (f q)∧ro'=ro∧pre'=pre)):
  CallV prog J (fnv 308) [v,fv] ro pre (fun w ro' pre'=>w= .bool (L.any f)∧ro'=ro∧pre'=pre):=by
 refine CallV.intro (first:= []) (vs:= [_,_]) (cap:= []) hJ Kr fun c cs tail hret=>enter_X (n:=9) func308 U U (Nl U) ?_
 have C:Ctx prog main J (bf 308 .normal):=⟨hJ,by decide⟩
 refine Xo W W<|Xm W W<|Ro W<|R.call C U U U U (pre:=pre) (tail:=tail) U (indexK_c hJ hl hn hf) fun w ro2 pre2 hl2 hp2=>?_
 obtain⟨rfl,rfl,rfl⟩:=hp2
 refine Ri Z b_geq<|Ae W<|Xw func308<|hret _ _ _ _ (RO.le_refl _) ⟨?_,rfl,rfl⟩ Vs
 simp only [retVal, ←findA_any]
theorem inside_c(n l m:Int)(ro:RO):CallP prog J (fnv 310) [.int .i64 n, .int .i64 l, .int .i64 m] ro (.bool (between n l m)):=by
 refine EP 15 hJ func310 W fun c cs tail hret C=>Xo W W<|Xm W W<|Ro W<|Ri Z b_leq<|Ro W<|R.fix (t:=10) U (fun q1=>?_) (fun q1=>?_)
 ·refine Oo W W<|Ri Z b_leq<|Pp Z<|Hq W func310 hret ?_
  first|(simp_all [between,retVal];done)|(simp_all [between,retVal];omega)
 ·refine Rp W<|Rp W<|Rp W<|Pf Z<|Hq W func310 hret ?_
  first|(simp_all [between,retVal];done)|(simp_all [between,retVal];omega)
theorem isReach_c(x:Rc)(l m:Int)(ro:RO):CallP prog J (fnv 104) [x.val, .int .i64 l, .int .i64 m] ro (.bool (B.isReach x l m)):=by
 refine EP 24 hJ func104 W fun c cs tail hret C=>?_
 by_cases e1:l≤x.lo
 ·by_cases e2:x.lo≤x.hi
  ·have _:=e1
   refine Xu W<|Bx Z fun p3=>Ae W<|Xm W W<|Rv 0 W A45 U B3<|Rj W G3 V U<|Ri Z b_leq<|FT 10 U (by(exact congrArg Value.bool (by simp [e1])))<|Ro W<|Rv 0 W A45 U B3<|Rj W G3 V U<|Rv 1 W A45 U B3<|Rj W G3 V U<|Ri Z b_leq<|FT 16 U (by(exact congrArg Value.bool (by simp [e2])))<|Pp Z<|Ro W<|Rv 1 W A45 U B3<|Rj W G3 V U<|Ro W<|Ri Z b_leq<|Pp Z<|Hq W func104 hret ?_
   simp [B.isReach,e1,e2,retVal]
  ·have _:=e1
   refine Xu W<|Bx Z fun p3=>Ae W<|Xm W W<|Rv 0 W A45 U B3<|Rj W G3 V U<|Ri Z b_leq<|FT 10 U (by(exact congrArg Value.bool (by simp [e1])))<|Ro W<|Rv 0 W A45 U B3<|Rj W G3 V U<|Rv 1 W A45 U B3<|Rj W G3 V U<|Ri Z b_leq<|FF 16 U (by(exact congrArg Value.bool (by simp [e2])))<|Pp Z<|Ro W<|Rp W<|Rp W<|Rp W<|Rp W<|Pf Z<|Hq W func104 hret ?_
   simp [B.isReach,e1,e2,retVal]
 ·have _:=e1
  refine Xu W<|Bx Z fun p3=>Ae W<|Xm W W<|Rv 0 W A45 U B3<|Rj W G3 V U<|Ri Z b_leq<|FF 10 U (by(exact congrArg Value.bool (by simp [e1])))<|Ro W<|Rp W<|Rp W<|Rp W<|Rp W<|Rp W<|Pf Z<|Ro W<|Rp W<|Rp W<|Rp W<|Rp W<|Pf Z<|Hq W func104 hret ?_
  simp [B.isReach,e1,retVal]
theorem isLabB_c(s:List UInt8)(hs:s.length≤1000000)(ro:RO):CallP prog J (fnv 380) [strV s] ro (.bool (isLabel s)):=by
 refine EP 31 hJ func380 W fun c cs tail hret C=>Xo W W<|Xx W<|Ro W<|R.toBytes C U U U A9 A470 A5 fun p6 cap sp fq hcap=>Rt W A470<|Ro W<|Rz<|Xb<|X.loopI (ι:=Nat) C.1 (fun i=>i≤s.length∧labGo 0 s=labGo i (s.drop i)) (fun i=> [(0,strV s),(6, .slice (some ⟨p6,0,none⟩) s.length cap),(7, .int .i64 (s.length:Int)),(8, .int .i64 (i:Int))])
  (fun _=>⟨ro,(p6, .cells (bys s++sp).toArray 5 fq)::tail⟩) (fun i=>s.length-i) 0 ⟨Nat.zero_le _,by simp⟩ rfl ⟨U,U,U,U,trivial⟩ fun i hi hnext=>?_
 obtain⟨hi,hinv⟩:=hi
 refine Xu W<|Ri Z b_lss<|Rz<|Xv<|Xj U (fun hlt=>?_) (fun hlt=>?_)
 ·have hi':i<s.length:=O
  have hc:s[i].toNat<256:=UInt8.toNat_lt _
  have hd:s.drop i=s[i]::s.drop (i+1):=List.drop_eq_getElem_cons hi'
  rw [hd] at hinv
  simp only [labGo] at hinv
  refine Xz<|Xv<|Xb<|Xm W W<|Ry Y A470 sizeOf5<|R.loadOne C U U U isAgg5 V (bys_at hi')<|Rg Y<|Ae W<|Xm W W<|R.convInt C U U U A5 A3 (wrap64 O O)<|Cp Z (inside_c hJ _ _ _ _)<|Rh Y<|Ro W<|R.fix (t:=17) U (fun g1=>?_) (fun g1=>?_)
  ·have e1:isLet s[i]=false:=by simpa [isLet] using g1
   refine Ro W<|Ri Z b_eql<|Ro W<|R.fix (t:=20) U (fun g2=>?_) (fun g2=>?_)
   ·have e2:(i==0)=true:=by simpa using g2
    refine Rp W<|Rp W<|Rp W<|Rp W<|Pp Z<|Pp Z<|Zc U (fun _=>?_) (fun h=>nomatch h)
    refine Xu W<|Hq W func380 hret ?_
    simp only [e1,e2,Bool.not_false,Bool.true_or,Bool.and_self,if_true] at hinv
    simp [isLabel,hinv,retVal]
   ·have e2:¬i=0:=by simpa using g2
    refine Ro W<|R.convInt C U U U A5 A3 (wrap64 O O)<|Cp Z (inside_c hJ _ _ _ _)<|Rh Y<|Pf Z<|Pp Z<|Zc U (fun g3=>?_) (fun g3=>?_)
    ·have e3:isDig s[i]=false:=by simpa [isDig] using g3
     refine Xu W<|Hq W func380 hret ?_
     simp only [e1,e3,Bool.not_false,Bool.or_true,Bool.and_self,if_true] at hinv
     simp [isLabel,hinv,retVal]
    ·have e3:isDig s[i]=true:=by simpa [isDig] using g3
     refine Xz<|Xi<|Xg W<|Rb Y<|Ro W<|Rz<|X.weaken ?_ (hnext (i+1) ⟨hi', ?_⟩ O)
     ·exact⟨rfl,rfl,rfl,by simp [look],trivial⟩
     ·rw [hinv];simp [e2,e3]
  ·have e1:isLet s[i]=true:=by simpa [isLet] using g1
   refine Rp W<|Rp W<|Rp W<|Rp W<|Rp W<|Rp W<|Rp W<|Rp W<|Pf Z<|Zc U (fun h=>nomatch h) (fun _=>?_)
   refine Xz<|Xi<|Xg W<|Rb Y<|Ro W<|Rz<|X.weaken ?_ (hnext (i+1) ⟨hi', ?_⟩ O)
   ·exact⟨rfl,rfl,rfl,by simp [look],trivial⟩
   ·rw [hinv];simp [e1]
 ·obtain rfl:i=s.length:=by omega
  rw [List.drop_length] at hinv
  simp only [labGo] at hinv
  refine Xe U<|Xm W W<|R.sLen C U U U A9<|Cp Z (inside_c hJ _ _ _ _)<|Hq W func380 hret ?_
  simp [isLabel,hinv,retVal]
theorem minute_c(hv:BkV ro v b)(n:Int):CallP prog J (fnv 259) [v, .int .i64 n] ro (.bool (b.minute n)):=by
 obtain⟨mb,mc,sb,sc,kb,kc,rfl,hp,hmc⟩:=hv.all
 refine EP 10 hJ func259 W fun c cs tail hret C=>Xu W<|Bx Z fun p2=>Ae W<|Xm W W<|Rv 0 W A206 U B81<|Rv 3 W A81 U B3<|Rj W G3 V U<|Cp Z (inside_c hJ _ _ _ _)<|Hq W func259 hret ?_
 rfl
theorem bell_c(hv:BkV ro v b):CallP prog J (fnv 375) [v] ro (.int .i64 b.bellH):=by
 obtain⟨mb,mc,sb,sc,kb,kc,rfl,hp,hmc⟩:=hv.all
 refine EP 29 hJ func375 W fun c cs tail hret C=>Xu W<|Bx Z fun p1=>Ae W<|Xx W<|Rv 0 W A206 U B81<|Rv 0 W A81 U B3<|Rj W G3 V U<|Cp Z (inside_c hJ _ _ _ _)<|Rh Y<|Ro W<|R.fix (t:=8) U (fun h1=>?_) (fun h1=>?_)
 ·have h1:between b.room 1 99=false:=by simpa using h1
  refine Rp W<|Rp W<|Rp W<|Rp W<|Rp W<|Pp Z<|Ro W<|Rp W<|Rp W<|Rp W<|Rp W<|Rp W<|Pp Z<|Ro W<|Rp W<|Rp W<|Rp W<|Rp W<|Rp W<|Pp Z<|Zc U (fun _=>?_) (fun h=>nomatch h)
  refine Xu W<|Hq W func375 hret ?_
  simp [Bk.bellH,h1,retVal]
 ·have h1:between b.room 1 99=true:=by simpa using h1
  refine Rv 0 W A206 U B81<|Rv 1 W A81 U B3<|Rj W G3 V U<|Cp Z (inside_c hJ _ _ _ _)<|Rh Y<|Pf Z<|Ro W<|R.fix (t:=15) U (fun h2=>?_) (fun h2=>?_)
  ·have h2:between b.dep 0 99=false:=by simpa using h2
   refine Rp W<|Rp W<|Rp W<|Rp W<|Rp W<|Pp Z<|Ro W<|Rp W<|Rp W<|Rp W<|Rp W<|Rp W<|Pp Z<|Zc U (fun _=>?_) (fun h=>nomatch h)
   refine Xu W<|Hq W func375 hret ?_
   simp [Bk.bellH,h2,retVal]
  ·have h2:between b.dep 0 99=true:=by simpa using h2
   refine Rv 0 W A206 U B81<|Rv 2 W A81 U B3<|Rj W G3 V U<|Cp Z (inside_c hJ _ _ _ _)<|Rh Y<|Pf Z<|Ro W<|R.fix (t:=22) U (fun h3=>?_) (fun h3=>?_)
   ·have h3:between b.least 0 99=false:=by simpa using h3
    refine Rp W<|Rp W<|Rp W<|Rp W<|Rp W<|Pp Z<|Zc U (fun _=>?_) (fun h=>nomatch h)
    refine Xu W<|Hq W func375 hret ?_
    simp [Bk.bellH,h3,retVal]
   ·have h3:between b.least 0 99=true:=by simpa using h3
    refine Rv 0 W A206 U B81<|Rv 3 W A81 U B3<|Rj W G3 V U<|Cp Z (inside_c hJ _ _ _ _)<|Rh Y<|Pf Z<|Zc U (fun h4=>?_) (fun h4=>?_)
    ·have h4:between b.mins 1 8=false:=by simpa using h4
     refine Xu W<|Hq W func375 hret ?_
     simp [Bk.bellH,h4,retVal]
    ·have h4:between b.mins 1 8=true:=by simpa using h4
     refine Xz<|Xu W<|Hq W func375 hret ?_
     simp [Bk.bellH,h1,h2,h3,h4,retVal]
theorem uses_c(hv:BkV ro v b):CallP prog J (fnv 376) [v] ro (.int .i64 b.usesH):=by
 obtain⟨mb,mc,sb,sc,kb,kc,rfl,hp,hmc⟩:=hv.all
 refine EP 58 hJ F376 W fun c cs tail hret C=>Xu W<|Bx Z fun p1=>Ae W<|Xx W<|Rv 0 W A206 U B81<|Rv 4 W A81 U B3<|Rj W G3 V U<|Rv 0 W A206 U B81<|Rv 5 W A81 U B3<|Rj W G3 V U<|Rv 0 W A206 U B81<|Rv 7 W A81 U B3<|Rj W G3 V U<|R.buildSlice C (vs:=_) U U (show pvals _ _=some (numbered 0 [_,_,_]) from rfl) U A58 B3 K3 Dd ((.cons U U (.cons U U (.cons U U .nil)))) fun p14=>Rt W A58<|Ro W<|Rz<|Xb<|X.loopI (ι:=Nat) C.1 (fun i=>i≤3∧∀j,j<i→between ([b.lamps,b.cask,b.pump].getD j 0) 0 99=true) (fun i=> [(14, .slice (some ⟨p14,0,none⟩) 3 3),(15, .int .i64 3),(16, .int .i64 (i:Int)),(1, .pointer (some ⟨p1,0,none⟩))])
  (fun _=>⟨ro,(p14, .cells [.int .i64 b.lamps, .int .i64 b.cask, .int .i64 b.pump].toArray 3 (0,0))::(p1, .cells (bs b mb mc sb sc kb kc []).toArray 206 (0,0))::tail⟩) (fun i=>3-i) 0 ⟨Nat.zero_le _,fun j hj=>absurd hj (Nat.not_lt_zero _)⟩ rfl ⟨U,U,U,U,trivial⟩ fun i hi hnext=>?_
 obtain⟨hi,hall⟩:=hi
 refine Xu W<|Ri Z b_lss<|Rz<|Xv<|Xj U (fun hlt=>?_) (fun hlt=>?_)
 ·have hi':i<3:=O
  have hx: [Value.int .i64 b.lamps, .int .i64 b.cask, .int .i64 b.pump][0+((i:Int)).toNat*1]? =some (.int .i64 ([b.lamps,b.cask,b.pump].getD i 0)):=by
   have:i=0∨i=1∨i=2:=O
   rcases this with rfl|rfl|rfl<;>rfl
  refine Xz<|Xv<|Xb<|Xu W<|Ry Y A58 B3<|R.loadOne C U U U G3 V hx<|Ae W<|Xm W W<|Cp Z (inside_c hJ _ _ _ _)<|Rh Y<|Zc U (fun h1=>?_) (fun h1=>?_)
  ·have h1:between ([b.lamps,b.cask,b.pump].getD i 0) 0 99=false:=by simpa using h1
   refine Xu W<|Hq W F376 hret ?_
   have:i=0∨i=1∨i=2:=O
   rcases this with rfl|rfl|rfl<;>(simp at h1;simp [Bk.usesH,h1,retVal])
  ·have h1:between ([b.lamps,b.cask,b.pump].getD i 0) 0 99=true:=by simpa using h1
   refine Xz<|Xi<|Xg W<|Rb Y<|Ro W<|Rz<|X.weaken ?_ (hnext (i+1) ⟨hi',fun j hj=>?_⟩ O)
   ·exact⟨rfl,rfl,by simp [look],rfl,trivial⟩
   ·by_cases e:j=i
    ·rw [e];exact h1
    ·exact hall j O
 ·obtain rfl:i=3:=by omega
  have a1:between b.lamps 0 99=true:=hall 0 O
  have a2:between b.cask 0 99=true:=hall 1 O
  have a3:between b.pump 0 99=true:=hall 2 O
  refine Xe U<|Xx W<|Rv 0 W A206 U B81<|Rv 6 W A81 U B3<|Rj W G3 V U<|Cp Z (inside_c hJ _ _ _ _)<|Rh Y<|Ro W<|R.fix (t:=29) U (fun h1=>?_) (fun h1=>?_)
  ·have h1:between b.casks 0 3=false:=by simpa using h1
   refine Rp W<|Rp W<|Rp W<|Rp W<|Rp W<|Rp W<|Rp W<|Rp W<|Pp Z<|Ro W<|Rp W<|Rp W<|Rp W<|Rp W<|Rp W<|Pp Z<|Ro W<|Rp W<|Rp W<|Rp W<|Rp W<|Rp W<|Rp W<|Rp W<|Rp W<|Rp W<|Rp W<|Pp Z<|Zc U (fun _=>?_) (fun h=>nomatch h)
   refine Xu W<|Hq W F376 hret ?_
   simp [Bk.usesH,h1,retVal]
  ·have h1:between b.casks 0 3=true:=by simpa using h1
   refine Rv 0 W A206 U B81<|Rv 10 W A81 U B45<|R.loadAgg C U U U G45 B45 V (.skip (.skip (.skip (.skip (.skip (.skip (.skip (.skip (.skip (.skip Tk2))))))))))<|Rv 0 W A206 U B81<|Rv 3 W A81 U B3<|Rj W G3 V U<|Cp Z (isReach_c hJ b.pmp _ _ _)<|Rh Y<|Pf Z<|Ro W<|R.fix (t:=39) U (fun h2=>?_) (fun h2=>?_)
   ·have h2:B.isReach b.pmp 1 b.mins=false:=by simpa using h2
    refine Rp W<|Rp W<|Rp W<|Rp W<|Rp W<|Pp Z<|Ro W<|Rp W<|Rp W<|Rp W<|Rp W<|Rp W<|Rp W<|Rp W<|Rp W<|Rp W<|Rp W<|Pp Z<|Zc U (fun _=>?_) (fun h=>nomatch h)
    refine Xu W<|Hq W F376 hret ?_
    simp [Bk.usesH,h2,retVal]
   ·have h2:B.isReach b.pmp 1 b.mins=true:=by simpa using h2
    refine Rv 0 W A206 U B81<|Rv 8 W A81 U B45<|R.loadAgg C U U U G45 B45 V (.skip (.skip (.skip (.skip (.skip (.skip (.skip (.skip Tk2))))))))<|Cp Z (isReach_c hJ b.leak _ _ _)<|Rh Y<|Pf Z<|Ro W<|R.fix (t:=46) U (fun h3=>?_) (fun h3=>?_)
    ·have h3:B.isReach b.leak 0 99=false:=by simpa using h3
     refine Rp W<|Rp W<|Rp W<|Rp W<|Rp W<|Rp W<|Rp W<|Rp W<|Rp W<|Rp W<|Pp Z<|Zc U (fun _=>?_) (fun h=>nomatch h)
     refine Xu W<|Hq W F376 hret ?_
     simp [Bk.usesH,h3,retVal]
    ·have h3:B.isReach b.leak 0 99=true:=by simpa using h3
     have hbd:=reach_iff.1 h3
     refine Rv 0 W A206 U B81<|Rv 8 W A81 U B45<|Rv 9 W A45 U B3<|Rj W G3 V U<|Rv 0 W A206 U B81<|Rv 8 W A81 U B45<|Rv 8 W A45 U B3<|Rj W G3 V U<|Ri Z (b_sub O O)<|Ri Z b_geq<|Pf Z<|Zc U (fun h4=>?_) (fun h4=>?_)
     ·have h4:¬b.leak.hi-b.leak.lo<3:=by simp at h4;omega
      refine Xu W<|Hq W F376 hret ?_
      simp [Bk.usesH,h4,retVal]
     ·have h4:b.leak.hi-b.leak.lo<3:=by simp at h4;omega
      refine Xz<|Xu W<|Hq W F376 hret ?_
      simp [Bk.usesH,a1,a2,a3,h1,h2,h3,h4,retVal]
end Go.Lg.Be
namespace Go.Lg.Be
open Go Go.Conc Go.Lg Go.Proofs Go.Lg.B Go.Proofs.Tryz
variable {ro:RO}{b:Bk}{v:Value}
def Env(ro:RO):Prop:= ∃t fq,ro 3=some (.cells [fnv 375,fnv 376,fnv 377,fnv 378,fnv 379].toArray t fq)
theorem Env.mono{ro':RO}(h:Env ro)(hl:ro.le ro'):Env ro':=let⟨t,fq,h⟩:=h;⟨t,fq,hl _ _ h⟩
variable {main:Bool}{J:Goroutine→Mem→Prop}(hJ:Closed prog main J)
include hJ
theorem men1_c{p1:Nat}{s:List UInt8}{x1 x2:Value}(q:Mn)(ro:RO):
  CallV prog J (.func (.func 382) #[] [.pointer (some ⟨p1,0,none⟩)].toArray) [.agg (Mn.cells q).toArray] ro [(p1, .cells [strV s,x1,x2].toArray 198 (0,0))] (fun v ro' pre'=>v= .bool (q.nm==s)∧ro'=ro∧pre'= [(p1, .cells [strV s,x1,x2].toArray 198 (0,0))]):=by
 unfold Mn.cells
 refine CallV.intro (first:= []) (vs:= [_]) (cap:= [_]) hJ Kr fun c cs tail hret=>enter_X (n:=9) func382 U U (Nl U) ?_
 have C:Ctx prog main J (bf 382 .normal):=⟨hJ,by decide⟩
 refine Xu W<|Bx Z fun p2=>Ae W<|Xu W<|Rv 0 W A198 U B9<|Rj W G9 V U<|Rv 0 W A198 U B9<|Rj W G9 V U<|R.str C U U U U b_seql<|Ae W<|Xw func382 ?_
 exact hret _ _ [_] _ (RO.le_refl _) ⟨rfl,rfl,rfl⟩ (by repeat (first|exact Sr|apply Sk|apply Sc))
theorem men_c(hv:BkV ro v b)(hs:b.short):CallP prog J (fnv 377) [v] ro (.int .i64 b.menH):=by
 obtain⟨mb,mc,sb,sc,kb,kc,rfl,hp,hmc⟩:=hv.all
 have hsl:=hs.ms
 have hm0:=hp.1
 refine EP 48 hJ F377 W fun c cs tail hret C=>Xu W<|Bx Z fun p1=>Ae W<|Xx W<|Rv 0 W A206 U B81<|Rv 12 W A81 U B78<|Rj W G78 V U<|Rt W A78<|Ri Z b_gtr<|Zc U (fun hn=>?_) (fun hn=>?_)
 ·refine Xu W<|Hq W F377 hret ?_
  simp only [dT] at hn
  rw [Bk.menH,if_pos O];rfl
 ·simp only [dF] at hn
  rw [Bk.menH,if_neg O] at hret
  refine Xz<|Xx W<|Rv 0 W A206 U B81<|Rv 12 W A81 U B78<|Rj W G78 V U<|Rt W A78<|Ro W<|Rz<|Xb<|X.loopI (ι:=Nat) C.1 (fun i=>i≤b.ms.length∧menGo [] b.ms=menGo ((b.ms.take i).map Mn.nm) (b.ms.drop i))
   (fun i=> [(12, .slice mb b.ms.length mc),(13, .int .i64 (b.ms.length:Int)),(14, .int .i64 (i:Int)),(1, .pointer (some ⟨p1,0,none⟩))])
   (fun _=>⟨ro,(p1, .cells (bs b mb mc sb sc kb kc []).toArray 206 (0,0))::tail⟩) (fun i=>b.ms.length-i) 0 ⟨Nat.zero_le _,by simp⟩ rfl ⟨U,U,U,U,trivial⟩ fun i hi hnext=>?_
  obtain⟨hi,hr⟩:=hi
  refine Xu W<|Ri Z b_lss<|Rz<|Xv<|Xj U (fun hlt=>?_) (fun hlt=>?_)
  ·have hi':i<b.ms.length:=O
   have hlp:=ls_take Mn.len hm0 (show i≤b.ms.length by omega)
   obtain⟨p,off,cap,l,t,fq,hsl',hrop,hsub⟩:=hm0.at Mn.len O
   cases hsl'
   have hld:=hsub i hi'
   have hnm:=hsl.2 _ (List.getElem_mem hi')
   have hmt:=map_take (f:=Mn.nm) hi'
   rw [List.drop_eq_getElem_cons hi'] at hr
   generalize b.ms[i]=q at hr hld hnm hmt
   simp only [menGo] at hr
   unfold Mn.cells at hld
   refine Xz<|Xv<|Xb<|Xm W W<|Ry Y A78 B198<|La Y isAgg198 B198 hrop hld<|Al W zeroValue198 U fun p4=>Rg Y<|Rs Z B198 Y V Ph3<|Rz<|Xb<|Xu W<|Rv 0 W A198 U B9<|Rj W G9 V U<|Cp Z (isLabB_c hJ q.nm O ro)<|Rh Y<|Ae W<|Xc U (fun h1=>?_) (fun h1=>?_)
   ·have h1:isLabel q.nm=false:=by simpa using h1
    refine Xu W<|Hq W F377 hret ?_
    rw [h1] at hr
    rw [hr];rfl
   ·have h1:isLabel q.nm=true:=by simpa using h1
    rw [h1] at hr
    simp only [Bool.not_true,Bool.false_eq_true,if_false] at hr
    refine Xu W<|Rv 0 W A206 U B81<|Rv 12 W A81 U B78<|Rj W G78 V U<|Ro W<|R.sliceTo C U U U U A78 B198 O O<|R.makeFunc C U U U U<|R.call C U U U U (pre:= [_]) (tail:=_::tail) U (containsM_c hJ (f:=fun x=>x.nm==q.nm) hlp Zo fun x _=>men1_c hJ x ro) fun w2 ro2 pre2 hl2 hp2=>?_
    obtain⟨rfl,rfl,rfl⟩:=hp2
    rw [any_nm]
    refine Ae W<|Xc U (fun h2=>?_) (fun h2=>?_)
    ·have h2:q.nm∈(b.ms.take i).map Mn.nm:=by simpa using h2
     rw [if_pos h2] at hr
     refine Xu W<|Hq W F377 hret ?_
     rw [hr];rfl
    ·have h2:¬q.nm∈(b.ms.take i).map Mn.nm:=by simpa using h2
     rw [if_neg h2] at hr
     refine Xu W<|Rv 1 W A198 U B45<|Rq W G45 B45 V (.skip Tk2)<|Cp Z (isReach_c hJ q.r _ _ _)<|Rh Y<|Ro W<|R.fix (t:=37) U (fun h3=>?_) (fun h3=>?_)
     ·have h3:B.isReach q.r 1 99=false:=by simpa using h3
      refine Rp W<|Rp W<|Rp W<|Rp W<|Rp W<|Rp W<|Rp W<|Rp W<|Pp Z<|Ae W<|Xc U (fun _=>?_) (fun h=>nomatch h)
      refine Xu W<|Hq W F377 hret ?_
      rw [h3] at hr
      rw [hr];rfl
     ·have h3:B.isReach q.r 1 99=true:=by simpa using h3
      have hbd:=reach_iff.1 h3
      refine Rv 1 W A198 U B45<|Rv 2 W A45 U B3<|Rj W G3 V U<|Rv 1 W A198 U B45<|Rv 1 W A45 U B3<|Rj W G3 V U<|Ri Z (b_sub O O)<|Ri Z b_geq<|Pf Z<|Ae W<|Xc U (fun h4=>?_) (fun h4=>?_)
      ·have h4:¬q.r.hi-q.r.lo<3:=by simp at h4;omega
       refine Xu W<|Hq W F377 hret ?_
       rw [h3,decide_eq_false h4] at hr
       rw [hr];rfl
      ·have h4:q.r.hi-q.r.lo<3:=by simp at h4;omega
       rw [h3,decide_eq_true h4] at hr
       simp only [Bool.not_true,Bool.or_self,Bool.false_eq_true,if_false] at hr
       rw [←hmt] at hr
       refine Xz<|Xi<|Xi<|Xg W<|Rb Y<|Ro W<|Rz<|X.drop C.1 (own':=_::tail) (List.sublist_cons_self _ _)<|X.weaken ?_ (hnext (i+1) ⟨hi',hr⟩ O)
       exact⟨rfl,rfl,by simp [look],rfl,trivial⟩
  ·obtain rfl:i=b.ms.length:=by omega
   simp only [List.drop_length,menGo] at hr
   refine Xe U<|Xu W<|Hq W F377 hret ?_
   rw [hr];rfl
theorem planned_c(hv:BkV ro v b){w:Value}{l:List Int}(hl:LsI ro w l)(hn:l.length≤1000)(hc: -1000≤b.casks∧b.casks≤1000):CallP prog J (fnv 195) [v,w] ro (.int .i64 (b.planH l)):=by
 have hv0:=hv
 obtain⟨mb,mc,sb,sc,kb,kc,rfl,hp,hmc⟩:=hv.all
 have hl0:=hl
 obtain⟨lb,lc,rfl⟩:=hl.form
 unfold Bk.planH
 refine EP 38 hJ func195 W fun c cs tail hret C=>Xu W<|Bx Z fun p2=>Ae W<|Xx W<|Ro W<|Rt W A58<|Ro W<|Rz<|Xb<|X.loopI (ι:=Nat) C.1 (fun i=>i≤l.length∧b.planGo l 0 l=b.planGo l i (l.drop i))
  (fun i=> [(7, .slice lb l.length lc),(1, .slice lb l.length lc),(8, .int .i64 (l.length:Int)),(9, .int .i64 (i:Int)),(2, .pointer (some ⟨p2,0,none⟩))])
  (fun _=>⟨ro,(p2, .cells (bs b mb mc sb sc kb kc []).toArray 206 (0,0))::tail⟩) (fun i=>l.length-i) 0 ⟨Nat.zero_le _,by simp⟩ rfl ⟨U,U,U,U,U,trivial⟩ fun i hi hnext=>?_
 obtain⟨hi,hr⟩:=hi
 refine Xu W<|Ri Z b_lss<|Rz<|Xv<|Xj U (fun hlt=>?_) (fun hlt=>?_)
 ·have hi':i<l.length:=O
  obtain⟨pl,offl,capl,ll,tl,fql,hsll,hropl,hsubl⟩:=hl0.at ic_len O
  cases hsll
  have hat:=ic_at hsubl hi'
  rw [List.drop_eq_getElem_cons hi'] at hr
  simp only [Bk.planGo] at hr
  have hpv:0<i→ll[offl+((i:Int) -1).toNat*1]? =some (.int .i64 (l.getD (i-1) 0)):=fun h0=>by
   have e1:((i:Int) -1).toNat=i-1:=O
   have e2:l.getD (i-1) 0=l[i-1]:=by rw [List.getD_eq_getElem?_getD,List.getElem?_eq_getElem O];rfl
   rw [e1,e2]
   exact ic_at hsubl O
  generalize l.getD (i-1) 0=pv at hpv hr
  generalize l[i]=n at hat hr
  refine Xz<|Xv<|Xb<|Xm W W<|Ry Y A58 B3<|Lo Y G3 hropl hat<|Rg Y<|Ae W<|Xb<|Xu W<|R.loadAgg C U U U G206 B206 V (.take (.take (.take (.take (.take (.take (.take (.take (.take Tk6)))))))))<|Ro W<|Cp Z (minute_c hJ hv0 n)<|Rh Y<|Ae W<|Xc U (fun h1=>?_) (fun h1=>?_)
  ·have h1:b.minute n=false:=by simpa using h1
   refine Xu W<|Hq W func195 hret ?_
   rw [h1] at hr
   rw [hr];rfl
  ·have h1:b.minute n=true:=by simpa using h1
   rw [h1] at hr
   simp only [Bool.not_true,Bool.false_eq_true,if_false] at hr
   by_cases h0:0<i
   ·have hpv:=hpv h0
    refine Xm W W<|Ri Z b_gtr<|FT 21 U (by(exact congrArg Value.bool (by simp [h0])))<|Oo W W<|Oo W W<|Ri Z (b_sub O O)<|Ry Y A58 B3<|Lo Y G3 hropl hpv<|Ri Z b_leq<|Pp Z<|Ae W<|Xc U (fun h2=>?_) (fun h2=>?_)
    ·have h2:n≤pv:=by simpa using h2
     refine Xu W<|Hq W func195 hret ?_
     rw [if_pos ⟨h0,h2⟩] at hr
     rw [hr];rfl
    ·have h2:¬n≤pv:=by simpa using h2
     rw [if_neg (fun e=>h2 e.2)] at hr
     refine Xz<|Xi<|Xi<|Xg W<|Rb Y<|Ro W<|Rz<|X.weaken ?_ (hnext (i+1) ⟨hi',hr⟩ O)
     exact⟨rfl,rfl,rfl,by simp [look],rfl,trivial⟩
   ·have _:=h1
    rw [if_neg (fun e=>h0 e.1)] at hr
    refine Xm W W<|Ri Z b_gtr<|FF 21 U (by(exact congrArg Value.bool (by simp [h0])))<|Ro W<|Rp W<|Rp W<|Rp W<|Rp W<|Rp W<|Rp W<|Rp W<|Pf Z<|Ae W<|Xc U (fun h=>nomatch h) (fun _=>?_)
    refine Xz<|Xi<|Xi<|Xg W<|Rb Y<|Ro W<|Rz<|X.weaken ?_ (hnext (i+1) ⟨hi',hr⟩ O)
    exact⟨rfl,rfl,rfl,by simp [look],rfl,trivial⟩
 ·obtain rfl:i=l.length:=by omega
  simp only [List.drop_length,Bk.planGo] at hr
  refine Xe U<|Xx W<|Ro W<|Rt W A58<|Rv 0 W A206 U B81<|Rv 6 W A81 U B3<|Rj W G3 V U<|Ri Z b_gtr<|Zc U (fun h1=>?_) (fun h1=>?_)
  ·have h1:b.casks<l.length:=by simpa using h1
   refine Xu W<|Hq W func195 hret ?_
   rw [if_pos h1] at hr
   rw [hr];rfl
  ·have h1:¬b.casks<l.length:=by simpa using h1
   refine Xz<|Xu W<|Hq W func195 hret ?_
   rw [if_neg h1] at hr
   rw [hr];rfl
theorem sent_c(hv:BkV ro v b)(hs:b.short)(hc: -1000≤b.casks∧b.casks≤1000):CallP prog J (fnv 378) [v] ro (.int .i64 (b.planH b.sent)):=by
 have hv0:=hv
 obtain⟨mb,mc,sb,sc,kb,kc,rfl,hp,hmc⟩:=hv.all
 refine EP 8 hJ func378 W fun c cs tail hret C=>Xu W<|Bx Z fun p1=>Ae W<|Xu W<|R.loadAgg C U U U G206 B206 V (.take (.take (.take (.take (.take (.take (.take (.take (.take Tk6)))))))))<|Rv 0 W A206 U B81<|Rv 13 W A81 U B58<|Rj W G58 V U<|Cp Z (planned_c hJ hv0 hp.2.1 hs.sent hc)<|Hq W func378 hret ?_
 rfl
theorem marks_c(hv:BkV ro v b)(hs:b.short):CallP prog J (fnv 379) [v] ro (.int .i64 b.marksH):=by
 have hv0:=hv
 obtain⟨mb,mc,sb,sc,kb,kc,rfl,hp,hmc⟩:=hv.all
 have hks:=hs.ks
 refine EP 30 hJ func379 W fun c cs tail hret C=>Xu W<|Bx Z fun p1=>Ae W<|Xx W<|Rv 0 W A206 U B81<|Rv 14 W A81 U B79<|Rj W G79 V U<|Rt W A79<|Ri Z b_gtr<|Zc U (fun hn=>?_) (fun hn=>?_)
 ·refine Xu W<|Hq W func379 hret ?_
  simp only [dT] at hn
  rw [Bk.marksH,if_pos O];rfl
 ·simp only [dF] at hn
  rw [Bk.marksH,if_neg O] at hret
  refine Xz<|Xx W<|Rv 0 W A206 U B81<|Rv 14 W A81 U B79<|Rj W G79 V U<|Rt W A79<|Ro W<|Rz<|Xb<|X.loopI (ι:=Nat) C.1 (fun i=>i≤b.ks.length∧b.marksGo b.ks=b.marksGo (b.ks.drop i))
   (fun i=> [(12, .slice kb b.ks.length kc),(13, .int .i64 (b.ks.length:Int)),(14, .int .i64 (i:Int)),(1, .pointer (some ⟨p1,0,none⟩))])
   (fun _=>⟨ro,(p1, .cells (bs b mb mc sb sc kb kc []).toArray 206 (0,0))::tail⟩) (fun i=>b.ks.length-i) 0 ⟨Nat.zero_le _,by simp⟩ rfl ⟨U,U,U,U,trivial⟩ fun i hi hnext=>?_
  obtain⟨hi,hr⟩:=hi
  refine Xu W<|Ri Z b_lss<|Rz<|Xv<|Xj U (fun hlt=>?_) (fun hlt=>?_)
  ·have hi':i<b.ks.length:=O
   obtain⟨p,off,cap,l,t,fq,hsl',hrop,hsub⟩:=hp.2.2.1.at Mk.len O
   cases hsl'
   rw [List.drop_eq_getElem_cons hi'] at hr
   have hsi:=hsub i hi'
   generalize b.ks[i]=q at hr hsi
   simp only [Bk.marksGo] at hr
   refine Xz<|Xv<|Xb<|Xu W<|Ry Y A79 B309<|La Y isAgg309 B309 hrop hsi<|Al W zeroValue309 U fun p4=>Rs Z B309 Y V Ph3<|Rz<|Xb<|Xu W<|R.loadAgg C U U U G206 B206 V (.take (.take (.take (.take (.take (.take (.take (.take (.take Tk6)))))))))<|Rv 0 W A309 U B3<|Rj W G3 V U<|Cp Z (minute_c hJ hv0 q.n)<|Rh Y<|Ae W<|Xc U (fun h1=>?_) (fun h1=>?_)
   ·have h1:b.minute q.n=false:=by simpa using h1
    refine Xu W<|Hq W func379 hret ?_
    rw [h1] at hr
    rw [hr];rfl
   ·have h1:b.minute q.n=true:=by simpa using h1
    rw [h1] at hr
    simp only [Bool.not_true,Bool.false_eq_true,if_false] at hr
    refine Xu W<|Rv 1 W A309 U B45<|Rq W G45 B45 V (.skip Tk2)<|Cp Z (isReach_c hJ q.r _ _ _)<|Rh Y<|Ae W<|Xc U (fun h3=>?_) (fun h3=>?_)
    ·have h3:B.isReach q.r 0 99=false:=by simpa using h3
     refine Xu W<|Hq W func379 hret ?_
     rw [h3] at hr
     rw [hr];rfl
    ·have h3:B.isReach q.r 0 99=true:=by simpa using h3
     rw [h3] at hr
     simp only [Bool.not_true,Bool.false_eq_true,if_false] at hr
     refine Xz<|Xi<|Xi<|Xg W<|Rb Y<|Ro W<|Rz<|X.drop C.1 (own':=_::tail) (List.sublist_cons_self _ _)<|X.weaken ?_ (hnext (i+1) ⟨hi',hr⟩ O)
     exact⟨rfl,rfl,by simp [look],rfl,trivial⟩
  ·obtain rfl:i=b.ks.length:=by omega
   simp only [List.drop_length,Bk.marksGo] at hr
   refine Xe U<|Xu W<|Hq W func379 hret ?_
   rw [hr];rfl
omit hJ in
def hit(b:Bk):Nat→Int
 |0=>b.bellH
 |1=>b.usesH
 |2=>b.menH
 |3=>b.planH b.sent
 |_=>b.marksH
omit hJ in
theorem check_hit{i:Nat}(hi:i<5)(hh:hit b i≠0)(h:∀j,j<i→hit b j=0):checkBook b=hit b i:=by
 have h5:i=0∨i=1∨i=2∨i=3∨i=4:=O
 unfold checkBook
 rcases h5 with rfl|rfl|rfl|rfl|rfl
 ·exact if_pos hh
 ·rw [if_neg (fun k=>k (h 0 O))];exact if_pos hh
 ·rw [if_neg (fun k=>k (h 0 O)),if_neg (fun k=>k (h 1 O))];exact if_pos hh
 ·rw [if_neg (fun k=>k (h 0 O)),if_neg (fun k=>k (h 1 O)),if_neg (fun k=>k (h 2 O))];exact if_pos hh
 ·rw [if_neg (fun k=>k (h 0 O)),if_neg (fun k=>k (h 1 O)),if_neg (fun k=>k (h 2 O)),if_neg (fun k=>k (h 3 O))];rfl
omit hJ in
theorem check_zero(h:∀j,j<5→hit b j=0):checkBook b=0:=by
 unfold checkBook
 rw [if_neg (fun k=>k (h 0 O)),if_neg (fun k=>k (h 1 O)),if_neg (fun k=>k (h 2 O)),if_neg (fun k=>k (h 3 O))]
 exact h 4 O
omit hJ in
theorem uses_casks(h:b.usesH=0): -1000≤b.casks∧b.casks≤1000:=by
 have w2:¬(!between b.lamps 0 99|| !between b.cask 0 99|| !between b.pump 0 99|| !between b.casks 0 3|| !B.isReach b.pmp 1 b.mins|| !B.isReach b.leak 0 99|| !decide (b.leak.hi-b.leak.lo<3))=true:=fun e=>by
  unfold Bk.usesH at h;rw [if_pos e] at h;cases h
 simp only [Bool.or_eq_true,Bool.not_eq_true',not_or,Bool.not_eq_false,between_iff] at w2
 omega
theorem checkBook_c(he:Env ro)(hv:BkV ro v b)(hs:b.short):CallP prog J (fnv 103) [v] ro (.int .i64 (checkBook b)):=by
 have hv0:=hv
 obtain⟨mb,mc,sb,sc,kb,kc,rfl,hp,hmc⟩:=hv.all
 obtain⟨te,fe,hen⟩:=he
 refine EP 19 hJ func103 W fun c cs tail hret C=>Xu W<|Bx Z fun p1=>Ae W<|Xx W<|La Y isAgg314 sizeOf314 hen Tk5<|Ro W<|Rz<|Xb<|X.loopI (ι:=Nat) C.1 (fun i=>i≤5∧∀j,j<i→hit b j=0) (fun i=> [(6, .agg [fnv 375,fnv 376,fnv 377,fnv 378,fnv 379].toArray),(7, .int .i64 (i:Int)),(1, .pointer (some ⟨p1,0,none⟩))])
  (fun _=>⟨ro,(p1, .cells (bs b mb mc sb sc kb kc []).toArray 81 (0,0))::tail⟩) (fun i=>5-i) 0 ⟨Nat.zero_le _,fun j hj=>absurd hj (Nat.not_lt_zero _)⟩ rfl ⟨U,U,U,trivial⟩ fun i hi hnext=>?_
 obtain⟨hi,hr⟩:=hi
 refine Xu W<|Ri Z b_lss<|Rz<|Xv<|Xj U (fun hlt=>?_) (fun hlt=>?_)
 ·have hi':i<5:=O
  have h5:i=0∨i=1∨i=2∨i=3∨i=4:=O
  have hget:Sub (((i:Int)).toNat*1) 1 [fnv 375,fnv 376,fnv 377,fnv 378,fnv 379] [fnv (375+i)]:=by
   rcases h5 with rfl|rfl|rfl|rfl|rfl<;>(repeat constructor)
  have hcall:CallP prog J (fnv (375+i)) [.agg (bs b mb mc sb sc kb kc []).toArray] ro (.int .i64 (hit b i)):=by
   rcases h5 with rfl|rfl|rfl|rfl|rfl
   ·exact bell_c hJ hv0
   ·exact uses_c hJ hv0
   ·exact men_c hJ hv0 hs
   ·exact sent_c hJ hv0 hs (uses_casks (hr 1 O))
   ·exact marks_c hJ hv0 hs
  refine Xz<|Xv<|Xb<|Xu W<|R.indexAgg C U U U U runUnderlying314 isAgg313 sizeOf313 O O hget<|Al W zeroValue313 U fun p4=>Rs Z sizeOf313 Y V (.here .nil)<|Rz<|Xu W<|Rv 0 W runUnderlying313 U sizeOf212<|Rj W isAgg212 V U<|R.loadAgg C U U U G81 B81 V (.take (.take (.take (.take (.take (.take (.take (.take (.take Tk6))))))))) ?_;refine R.build C U U U zeroValue206 U A206 Kr (Fills.part U U B81 U (.here (.here (.here (.here (.here (.here (.here (.here Ph7)))))))) .nil)<|Cp Z (hcall)<|Ae W<|Xm W W<|Ri Z b_neq<|Zc U (fun hh=>?_) (fun hh=>?_)
  ·have hh:hit b i≠0:=by simpa using hh
   refine Xm W W<|Hq W func103 hret ?_
   show Value.int .i64 (hit b i)=_
   congr 1
   exact(check_hit hi' hh hr).symm
  ·have hh:hit b i=0:=by simpa using hh
   refine Xz<|Xi<|Xg W<|Rb Y<|Ro W<|Rz<|X.drop C.1 (own':=_::tail) (List.sublist_cons_self _ _)<|X.weaken ?_ (hnext (i+1) ⟨O,fun j hj=>?_⟩ O)
   ·exact⟨rfl,by simp [look],rfl,trivial⟩
   ·by_cases e:j=i
    ·rw [e];exact hh
    ·exact hr j O
 ·obtain rfl:i=5:=by omega
  refine Xe U<|Xu W<|Hq W func103 hret ?_
  rw [check_zero hr];rfl
theorem meet_c(x y:Rc)(ro:RO):CallP prog J (fnv 105) [x.val,y.val] ro (.tuple [.agg [.int .i64 (max x.lo y.lo), .int .i64 (min x.hi y.hi)].toArray, .bool (decide (max x.lo y.lo≤min x.hi y.hi))].toArray):=by
 refine EP 24 hJ func105 W fun c cs tail hret C=>Xu W<|Bx Z fun p2=>Bx Z fun p3=>Al W K45 U fun p4=>Ae W<|Xu W<|Rv 0 W A45 U B3<|Rj W G3 V U<|Rv 0 W A45 U B3<|Rj W G3 V U<|R.max2 C U U U U<|Rv 1 W A45 U B3<|Rj W G3 V U<|Rv 1 W A45 U B3<|Rj W G3 V U<|R.min2 C U U U U ?_;refine R.build C U U U K45 U A45 Kr (Fills.part U U B3 U (.here .nil) (Fills.part U U B3 U (.skip (.here .nil)) .nil))<|Al W K45 U fun p6=>Rs Z B45 Y V Ph2<|Rz<|Xv<|Xf fun hok=>D5 C 0 hok U U G45 B45 V Tk2<|Dh 0 1 Y A45 U B3<|Db 2 W G3 V U<|Dh 1 3 Y A45 U B3<|Db 4 W G3 V U<|Dj 5 Y5 b_leq<|De 6 none [true,true,false] hok (fun _ _ A hk=>?_)
 refine R.store C U (A.w U U) (A.x U U) (A.x U U) B45 U U U V Ph2 (hk undef _ ⟨(QFs.cons (QF.of U (fun _ _ A h=>R.loadOne C U (A.w U U) (A.x U U) G3 V U h)) (QFs.cons (QF.of U (fun _ _ A h=>R.loadOne C U (A.w U U) (A.x U U) G3 V U h)) QFs.nil)), ?_⟩)
 refine Da C 7 hok U U<|Dn<|X.ret C U U func105 U (by exact(.agg U G45 B45 V Tk2 (.tmp U .nil)))<|Hp hret ?_
 rfl
end Go.Lg.Be
namespace Go.Lg.Be
open Go Go.Conc Go.Lg Go.Proofs Go.Lg.B Go.Proofs.Tryz
variable {ro:RO}{n:Int}{b:Bk}{v:Value}
abbrev airL(n:Int)(ws:List Int):List Value:= .int .i64 n::ints ws
abbrev airV(n:Int)(ws:List Int):Value:= .agg (airL n ws).toArray
theorem or_lt{a n:Nat}(ha:a<512)(hn:n≤8):a|||2^n<512:=Nat.or_lt_two_pow (n:=9) ha (Nat.pow_lt_pow_right Dd O)
theorem planI_snoc(l:List Int)(n:Int):planI (l++ [n])=planI l|||2^n.toNat:=by simp [planI,List.foldl_append]
theorem planI_lt:∀ {l:List Int},(∀n∈l,1≤n∧n≤8)→planI l<512:=by
 have key:∀ (l:List Int) (a:Nat),a<512→(∀n∈l,1≤n∧n≤8)→l.foldl (fun p n=>p|||2^n.toNat) a<512:=by
  intro l
  induction l with
  |nil=>intro a ha _;exact ha
  |cons n l ih=>
   intro a ha h
   have hn:=h n Zi
   exact ih _ (or_lt ha O) fun m hm=>h m (by simp [hm])
 exact fun {_} h=>key _ 0 Dd h
theorem used_three(n w1 w2 w3:Int):used (n, [w1,w2,w3])=n+w1+w2+w3:=rfl
variable {main:Bool}{J:Goroutine→Mem→Prop}(hJ:Closed prog main J)
include hJ
theorem planOf_c{w:Value}{l:List Int}(hl:LsI ro w l)(hn:l.length≤1000)(hin:∀n∈l,1≤n∧n≤8):CallP prog J (fnv 110) [w] ro (.int .i64 (planI l:Int)):=by
 have hl0:=hl
 obtain⟨lb,lc,rfl⟩:=hl.form
 refine EP 18 hJ func110 W fun c cs tail hret C=>Xo W W<|Xo W W<|Xx W<|Ro W<|Rt W A58<|Ro W<|Rz<|Xb<|X.loopI (ι:=Nat) C.1 (fun i=>i≤l.length)
  (fun i=> [(6, .slice lb l.length lc),(7, .int .i64 (l.length:Int)),(8, .int .i64 (i:Int)),(3, .int .i64 (planI (l.take i):Int))])
  (fun _=>⟨ro,tail⟩) (fun i=>l.length-i) 0 (Nat.zero_le _) rfl ⟨U,U,U,U,trivial⟩ fun i hi hnext=>?_
 refine Xu W<|Ri Z b_lss<|Rz<|Xv<|Xj U (fun hlt=>?_) (fun hlt=>?_)
 ·have hi':i<l.length:=O
  obtain⟨pl,offl,capl,ll,tl,fql,hsll,hropl,hsubl⟩:=hl0.at ic_len O
  cases hsll
  have hat:=ic_at hsubl hi'
  have hpl:=planI_lt (l:=l.take i) fun n hn=>hin n (List.mem_of_mem_take hn)
  have hni:=hin _ (List.getElem_mem hi')
  have htk:planI (l.take (i+1))=planI (l.take i)|||2^ (l[i]).toNat:=by rw [List.take_succ_eq_append_getElem hi',planI_snoc]
  generalize l[i]=n at hat hni htk
  have h2:2^n.toNat<2^63:=Nat.pow_lt_pow_right Dd O
  refine Xz<|Xv<|Xb<|Xu W<|Ry Y A58 B3<|Lo Y G3 hropl hat<|Ae W<|Xg W<|Oo W W<|R.shift C U U U U (b_shlN O O)<|Ri Z (b_or O h2)<|Ae W<|Xi<|Xg W<|Rb Y<|Ro W<|Rz<|X.weaken ?_ (hnext (i+1) hi' O)
  exact⟨rfl,rfl,by simp [look],by rw [htk];rfl,trivial⟩
 ·obtain rfl:i=l.length:=by omega
  refine Xe U<|Xm W W<|Hq W func110 hret ?_
  rw [List.take_length];rfl
theorem has_c{p:Nat}(hp:p<512)(hn:0≤n∧n≤8)(ro:RO):CallP prog J (fnv 311) [.int .i64 (p:Int), .int .i64 n] ro (.bool (hasI p n)):=by
 refine EP 10 hJ func311 W fun c cs tail hret C=>Xo W W<|Xm W W<|Ro W<|R.shift C U U U U (b_shrN O O)<|Ri Z (b_and1 (Nat.lt_of_le_of_lt (Nat.shiftRight_le _ _) O))<|Ri Z b_eql<|Hq W func311 hret ?_
 simp only [retVal,bit_one,hasI]
theorem used_c{w1 w2 w3:Int}(hn:0≤n∧n≤1000)(h1:0≤w1∧w1≤1000)(h2:0≤w2∧w2≤1000)(h3:0≤w3∧w3≤1000)(ro:RO):CallP prog J (fnv 196) [.agg [.int .i64 n, .int .i64 w1, .int .i64 w2, .int .i64 w3].toArray] ro (.int .i64 (used (n, [w1,w2,w3]))):=by
 refine EP 18 hJ func196 W fun c cs tail hret C=>Xu W<|Bx Z fun p1=>Ae W<|Xu W<|Rv 0 W A216 U B3<|Rj W G3 V U<|Ae W<|Xx W<|Rv 1 W A216 U B214<|Rq W isAgg214 B214 V (.skip Tk3)<|Ro W<|Rz<|Xb<|X.loopI (ι:=Nat) C.1 (fun i=>i≤3) (fun i=> [(9, .agg [.int .i64 w1, .int .i64 w2, .int .i64 w3].toArray),(10, .int .i64 (i:Int)),(3, .int .i64 (used (n, [w1,w2,w3].take i)))])
  (fun _=>⟨ro,_::tail⟩) (fun i=>3-i) 0 (Nat.zero_le _) rfl ⟨U,U,U,trivial⟩ fun i hi hnext=>?_
 refine Xu W<|Ri Z b_lss<|Rz<|Xv<|Xj U (fun hlt=>?_) (fun hlt=>?_)
 ·have hi':i=0∨i=1∨i=2:=O
  have hx: [Value.int .i64 w1, .int .i64 w2, .int .i64 w3][((i:Int)).toNat*1]? =some (.int .i64 ([w1,w2,w3].getD i 0)):=by
   rcases hi' with rfl|rfl|rfl<;>rfl
  have hs:used (n, [w1,w2,w3].take (i+1))=used (n, [w1,w2,w3].take i)+ [w1,w2,w3].getD i 0:=by
   rcases hi' with rfl|rfl|rfl<;>simp [used]
  have hb:0≤used (n, [w1,w2,w3].take i)∧used (n, [w1,w2,w3].take i)≤4000∧0≤ [w1,w2,w3].getD i 0∧ [w1,w2,w3].getD i 0≤1000:=by
   rcases hi' with rfl|rfl|rfl<;>simp [used]<;>omega
  generalize used (n, [w1,w2,w3].take i)=a at hs hb⊢
  generalize [w1,w2,w3].getD i 0=z at hx hs hb
  refine Xz<|Xv<|Xb<|Xu W<|R.index C U U U U A214 G3 B3 O O hx<|Ae W<|Xg W<|Oo W W<|Rb Y<|Ae W<|Xi<|Xg W<|Rb Y<|Ro W<|Rz<|X.weaken ?_ (hnext (i+1) O O)
  exact⟨rfl,by simp [look],by rw [hs];rfl,trivial⟩
 ·obtain rfl:i=3:=by omega
  refine Xe U<|Xm W W<|Hq W func196 hret ?_
  rfl
theorem dry_c(hv:BkV ro v b)(hb:b.good)(hn:0≤n∧n≤100000):CallP prog J (fnv 263) [v, .int .i64 n] ro (.int .i64 (dry b n)):=by
 obtain⟨mb,mc,sb,sc,kb,kc,rfl,hp,hmc⟩:=hv.all
 have hd:=hb.dep
 refine EP 12 hJ func263 W fun c cs tail hret C=>Xu W<|Bx Z fun p2=>Ae W<|Xm W W<|Ri Z (b_mul O O)<|Rv 0 W A206 U B81<|Rv 1 W A81 U B3<|Rj W G3 V U<|Rb Y<|Ri Z (b_quoP O O O)<|Hq W func263 hret ?_
 rfl
theorem holds_c(hv:BkV ro v b)(hb:b.good):CallP prog J (fnv 312) [v] ro (.int .i64 (holds b)):=by
 obtain⟨mb,mc,sb,sc,kb,kc,rfl,hp,hmc⟩:=hv.all
 have hd:=hb.dep
 have hr:=hb.room
 have h3:b.room*(33+b.dep)≤99*132:=Int.mul_le_mul hr.2 O O O
 have h4:0≤b.room*(33+b.dep):=Int.mul_nonneg O O
 refine EP 12 hJ func312 W fun c cs tail hret C=>Xu W<|Bx Z fun p1=>Ae W<|Xu W<|Rv 0 W A206 U B81<|Rv 0 W A81 U B3<|Rj W G3 V U<|Rv 0 W A206 U B81<|Rv 1 W A81 U B3<|Rj W G3 V U<|Rb Y<|Ri Z (b_mul O O)<|Ri Z (b_quoP O O O)<|Hq W func312 hret ?_
 rfl
end Go.Lg.Be
namespace Go.Lg.Be
open Go Go.Conc Go.Lg Go.Proofs Go.Lg.B Go.Proofs.Tryz
theorem play_snoc(b:Bk)(u:Int)(p k:Nat):((List.range (k+1)).map fun k=>aft b u p (k+1))=((List.range k).map fun k=>aft b u p (k+1))++ [aft b u p (k+1)]:=by simp [List.range_succ]
variable {main:Bool}{J:Goroutine→Mem→Prop}(hJ:Closed prog main J)
include hJ
theorem play_c{b:Bk}{v:Value}{ro:RO}(hv:BkV ro v b)(hb:b.good){n w1 w2 w3:Int}(hn:0≤n∧n≤99)(h1:0≤w1∧w1≤99)(h2:0≤w2∧w2≤99)(h3:0≤w3∧w3≤99){p:Nat}(hp512:p<512):
  CallR prog J (fnv 261) [v, .agg [.int .i64 n, .int .i64 w1, .int .i64 w2, .int .i64 w3].toArray, .int .i64 (p:Int)] ro (fun w ro'=>LsI ro' w (play b (used (n, [w1,w2,w3])) p)):=by
 have hv0:=hv
 obtain⟨mb,mc,sb,sc,kb,kc,rfl,hp,hmc⟩:=hv.all
 have hlamps:=hb.lamps
 have hmins:=hb.mins
 have hu:0≤used (n, [w1,w2,w3])∧used (n, [w1,w2,w3])≤396:=by rw [used_three];omega
 have hcask:=hb.cask
 have hpump:=hb.pump
 have hhold:=holds_in hb
 refine ER 65 hJ func261 W fun c cs tail hret C=>Xu W<|Bx Z fun p3=>Bx Z fun p4=>Ae W<|Xo W W<|Xv<|Xf fun hok=>Dh 0 0 Y A206 U B81<|Dh 0 1 Y A81 U B3<|Db 2 W G3 V U<|Dh 0 3 Y A206 U B81<|Dh 4 4 Y A81 U B3<|Db 5 W G3 V U<|D5 C 6 hok U U G216 B216 V Tk4<|De 7 (some 18) [false,true,true] hok (fun _ _ A hk=>?_)
 refine R.callP C U (A.w U U) (A.x U U) (A.s U U) (used_c hJ O O O O ro) (hk _ _ ⟨(QFs.cons (QF.of U (fun _ _ A h=>R.loadOne C U (A.w U U) (A.x U U) G3 V U h)) (QFs.cons (QF.of U (fun _ _ A h=>R.loadOne C U (A.w U U) (A.x U U) G3 V U h)) QFs.nil)), ?_⟩)
 refine Dj 8 Y5 (b_add O O)<|Da C 9 hok U U<|Da C 10 hok U U<|Dn<|Xx W<|Rv 0 W A206 U B81<|Rv 3 W A81 U B3<|Rj W G3 V U<|Rb Y<|Ro W<|Rz<|Xb ?_
 generalize used (n, [w1,w2,w3])=u at hu hret⊢
 refine X.drop C.1 (own':=_::tail) (List.sublist_cons_self _ _)<|X.loopI (ι:=Nat×Value×List (Nat×Obj)) C.1 (fun s=>s.1≤b.mins.toNat+1∧Buf 3 1 [] s.2.1 (((List.range (s.1-1)).map fun k=>aft b u p (k+1)).flatMap ic) s.2.2)
  (fun s=> [(23, .int .i64 (b.mins+1)),(24, .int .i64 (s.1:Int)),(8, .int .i64 (aft b u p (s.1-1))),(9, .int .i64 (b.lamps+u)),(7,s.2.1),(2, .int .i64 (p:Int)),(3, .pointer (some ⟨p3,0,none⟩))])
  (fun s=>⟨ro,s.2.2++((p3, .cells (bs b mb mc sb sc kb kc []).toArray 206 (0,0))::tail)⟩) (fun s=>b.mins.toNat+1-s.1) (0, .slice none 0 0, []) ⟨Nat.zero_le _, .nil⟩ rfl ⟨U,U,U,U,U,U,U,trivial⟩ fun s hs' hnext=>?_
 obtain⟨i,v0,own0⟩:=s
 obtain⟨hi,hbuf⟩:=hs'
 simp only at hi hbuf hnext⊢
 refine Xu W<|Ri Z b_lss<|Rz<|Xv<|Xj U (fun hlt=>?_) (fun hlt=>?_)
 ·have hi':i<b.mins.toNat+1:=O
  refine Xz<|Xv<|Xb<|Xm W W<|Ae W<|Xx W<|Ro W<|Ri Z b_eql<|Zc U (fun h0=>?_) (fun h0=>?_)
  ·have h0:i=0:=by simpa using h0
   subst h0
   refine Xe U<|Xg W<|Rb Y<|Ro W<|Rz<|X.weaken ?_ (hnext (1,v0,own0) ⟨O,hbuf⟩ (by simp only;omega))
   exact⟨U,U,U,U,U,U,U,trivial⟩
  ·have h0:i≠0:=by simpa using h0
   have ha:=aft_in hb hu.1 p (i-1)
   have hs2:aft b u p i=stepI b u p (aft b u p (i-1)) (i:Int):=by
    have e:i=(i-1)+1:=O
    rw [e]
    simp only [aft,Nat.add_sub_cancel]
   have hfl:=flat_len ((List.range (i-1)).map fun k=>aft b u p (k+1))
   rw [List.length_map,List.length_range] at hfl
   have hps:=play_snoc b u p (i-1)
   rw [show i-1+1=i by omega] at hps
   generalize aft b u p (i-1)=a at ha hs2
   refine Xz<|Xx W<|Oo W W<|Cp Z (has_c hJ hp512 O ro)<|Rz<|X.afterI (ι:=Unit) (fun _=>True) (fun _=> [(8, .int .i64 (if hasI p (i:Int) then a+b.cask else a)),(10, .int .i64 (i:Int)),(23, .int .i64 (b.mins+1)),(24, .int .i64 (i:Int)),(9, .int .i64 (b.lamps+u)),(7,v0),(2, .int .i64 (p:Int)),(3, .pointer (some ⟨p3,0,none⟩))])
    (fun _=>⟨ro,own0++((p3, .cells (bs b mb mc sb sc kb kc []).toArray 206 (0,0))::tail)⟩) (fun _ _=>?_) (fun hcont=>?_)
   rotate_left
   ·have _:=h0
    refine Xc U (fun g1=>?_) (fun g1=>?_)
    ·have g1:hasI p (i:Int)=true:=by simpa using g1
     refine Xg W<|Ro W<|Rv 0 W A206 U B81<|Rv 5 W A81 U B3<|R.loadOne C U U U G3 Vm U<|Rb Y<|Ae W<|X.weaken ?_ (hcont () trivial)
     rw [if_pos g1]
     exact⟨U,U,U,U,U,U,U,U,trivial⟩
    ·have g1:hasI p (i:Int)=false:=by simpa using g1
     refine Xz<|X.weaken ?_ (hcont () trivial)
     rw [if_neg (by simp [g1])]
     exact⟨U,U,U,U,U,U,U,U,trivial⟩
   have ha1:0≤(if hasI p (i:Int) then a+b.cask else a)∧(if hasI p (i:Int) then a+b.cask else a)≤600:=by split<;>omega
   unfold stepI at hs2
   generalize(if hasI p (i:Int) then a+b.cask else a)=a1 at ha1 hs2⊢
   refine Xx W<|Ro W<|Rv 0 W A206 U B81<|Rv 10 W A81 U B45<|Rv 10 W A45 U B3<|R.loadOne C U U U G3 Vm U<|Rv 0 W A206 U B81<|Rv 10 W A81 U B45<|Rv 11 W A45 U B3<|R.loadOne C U U U G3 Vm U<|Cp Z (inside_c hJ _ _ _ _)<|Rz<|X.afterI (ι:=Unit) (fun _=>True) (fun _=> [(8, .int .i64 (a1+if between (i:Int) b.pmp.lo b.pmp.hi then b.pump else 0)),(23, .int .i64 (b.mins+1)),(24, .int .i64 (i:Int)),(9, .int .i64 (b.lamps+u)),(7,v0),(2, .int .i64 (p:Int)),(3, .pointer (some ⟨p3,0,none⟩))])
    (fun _=>⟨ro,own0++((p3, .cells (bs b mb mc sb sc kb kc []).toArray 206 (0,0))::tail)⟩) (fun _ _=>?_) (fun hcont=>?_)
   rotate_left
   ·have _:=h0
    refine Xc U (fun g1=>?_) (fun g1=>?_)
    ·have g1:between (i:Int) b.pmp.lo b.pmp.hi=true:=by simpa using g1
     refine Xg W<|Ro W<|Rv 0 W A206 U B81<|Rv 7 W A81 U B3<|R.loadOne C U U U G3 Vm U<|Rb Y<|Ae W<|X.weaken ?_ (hcont () trivial)
     rw [if_pos g1]
     exact⟨U,U,U,U,U,U,U,trivial⟩
    ·have g1:between (i:Int) b.pmp.lo b.pmp.hi=false:=by simpa using g1
     refine Xz<|X.weaken ?_ (hcont () trivial)
     rw [if_neg (by simp [g1]),Int.add_zero]
     exact⟨U,U,U,U,U,U,U,trivial⟩
   have ha2:0≤(a1+if between (i:Int) b.pmp.lo b.pmp.hi then b.pump else 0)∧(a1+if between (i:Int) b.pmp.lo b.pmp.hi then b.pump else 0)≤700:=by split<;>omega
   generalize(a1+if between (i:Int) b.pmp.lo b.pmp.hi then b.pump else 0)=a2 at ha2 hs2⊢
   refine Xm W W<|R.loadAgg C U U U G206 B206 Vm (.take (.take (.take (.take (.take (.take (.take (.take (.take Tk6)))))))))<|Cp Z (holds_c hJ hv0 hb)<|R.min2 C U U U U<|Ro W<|Ri Z (b_sub O O)<|R.max2 C U U U U<|Ae W<|Xg W<|Oo W W<|R.buildSlice C (vs:=_) U U (show pvals _ _=some (numbered 0 [_]) from rfl) U A58 B3 K3 Dd (Cat.one U U) fun p61=>R.append1 (kk:=1) C U U U U A58 A58 (fun _=>nofun) (show prog.info? 3=some Tryz.t3 by kernel_rfl) U U U Dd Dd (hbuf.app _) U U (by simp only [List.length_append,List.length_cons,List.length_nil];omega) fun v' own' hb'=>Ae W<|Xi<|Xg W<|Rb Y<|Ro W<|Rz ?_
   obtain⟨own4,rfl,hb4⟩:=hb'.unapp
   refine X.weaken ?_ (hnext (i+1,v',own4) ⟨O, ?_⟩ (by simp only;omega))
   ·exact⟨rfl,by simp [look],by simp only [Nat.add_sub_cancel];rw [hs2];rfl,rfl,rfl,rfl,rfl,trivial⟩
   ·simp only [Nat.add_sub_cancel]
    rw [hps,List.flatMap_append,hs2]
    exact hb4
 ·obtain rfl:i=b.mins.toNat+1:=by omega
  simp only [Nat.add_sub_cancel] at hbuf
  refine Xe U<|Xm W W<|Ae W<|X.finish C.1 ic_len Dd (hbuf.app _) fun ro3 hl3 hls=>Xw func261<|hret _ _ _ hl3 (by repeat (first|exact List.Sublist.refl _|apply List.Sublist.cons|apply List.sublist_append_of_sublist_right)) ?_
  exact hls
end Go.Lg.Be
namespace Go.Lg.Be
open Go Go.Conc Go.Lg Go.Proofs Go.Lg.B Go.Proofs.Tryz
variable {b:Bk}{v vk vm vs:Value}{ro:RO}{t:TypeId}{fq:Nat×Nat}{n w1 w2 w3:Int}
abbrev bkL(b:Bk)(vm vs vk:Value):List Value:=(bc b [vm,vs,vk])
theorem findA_in{α:Type}(p:α→Bool)(l:List α): -1≤findA p l∧findA p l≤l.length:=by
 unfold findA
 have:=List.findIdx_le_length (p:=p) (xs:=l)
 split<;>omega
variable {main:Bool}{J:Goroutine→Mem→Prop}(hJ:Closed prog main J)
include hJ
theorem bad1_c(hp:BkP ro b vm vs vk)(hb:b.good){p3:Nat}(h3:ro p3=some (.cells (bkL b vm vs vk).toArray t fq)){x:Int}(hx:0≤x∧x≤100000):
  CallP prog J (.func (.func 262) #[] [.pointer (some ⟨p3,0,none⟩)].toArray) [.int .i64 x] ro (.bool (decide (dry b x<b.least))):=by
 refine CallP.introC hJ Kr fun c cs tail hret=>enter_X (n:=11) func262 U U (Nl U) ?_
 have C:Ctx prog main J (bf 262 .normal):=⟨hJ,by decide⟩
 refine Xo W W<|Xv<|Xf fun hok=>Dl 0 hok (fun _ _ A h=>R.loadAggRo C U (A.w U U) (A.x U U) G206 B206 h3 (sub_all U) h)<|Dt 1 Y<|Df C 3 hok U U U A206 U B81 U<|Df C 4 hok U U U A81 U B3 U<|Dc 5 W G3 h3 U<|De 2 (some 6) [true,false] hok (fun _ _ A hk=>?_)
 refine R.callP C U (A.w U U) (A.x U U) (A.s U U) (dry_c hJ ⟨_,_,_,rfl,hp⟩ hb hx) (hk _ _ ⟨(QFs.cons (QF.of U (fun _ _ A h=>R.loadOneRo C U (A.w U U) (A.x U U) G3 h3 U h)) QFs.nil), ?_⟩)
 refine Dj 6 Y5 b_lss<|Da C 7 hok U U<|Dn<|Xw func262<|Hp hret ?_
 rfl
theorem bad_c(hv:BkV ro v b)(hb:b.good)(hn:0≤n∧n≤99)(h1:0≤w1∧w1≤99)(h2:0≤w2∧w2≤99)(h3:0≤w3∧w3≤99){p:Nat}(hp512:p<512):
  CallR prog J (fnv 197) [v, .agg [.int .i64 n, .int .i64 w1, .int .i64 w2, .int .i64 w3].toArray, .int .i64 (p:Int)] ro (fun w _=>w= .int .i64 (bad b (used (n, [w1,w2,w3])) p)):=by
 have hv0:=hv
 obtain⟨mb,mc,sb,sc,kb,kc,rfl,hp,hmc⟩:=hv.all
 have hmins:=hb.mins
 have hu:0≤used (n, [w1,w2,w3]):=by rw [used_three];omega
 refine ER 14 hJ func197 W fun c cs tail hret C=>Xu W<|Bx Z fun p3=>Bx Z fun p4=>Ae W<|Xv<|X.perm C.1 (List.Perm.swap _ _ _)<|X.persist C.1 fun ro0 hl0 hps=>Xg W<|La Y G206 B206 hps (sub_all U)<|Rq W G216 B216 V Tk4<|Ro W<|R.callR C U U U U (play_c hJ (hv0.mono hl0) hb hn h1 h2 h3 hp512) fun v1 ro1 hl1 hq1=>?_
 have hq0:=hq1
 obtain⟨lb,lc,rfl⟩:=hq1.form
 have hpl:=play_len b (used (n, [w1,w2,w3])) p
 have hpi:=play_in hb hu p
 have hfi:=findA_in (fun n=>decide (dry b n<b.least)) (play b (used (n, [w1,w2,w3])) p)
 refine R.makeFunc C U U U U<|Cp Z (indexFunc_c (p:=fun n=>decide (dry b n<b.least)) hJ hq0 O fun x hx=>bad1_c hJ (hp.mono (RO.le_trans hl0 hl1)) hb (hl1 _ _ hps) (by have:=hpi x hx;omega))<|Rb Y<|Ae W<|Xw func197<|Hr hret (RO.le_trans hl0 hl1) ?_
 rfl
theorem marked1_c(hp:BkP ro b vm vs vk)(hb:b.good){p2 p5:Nat}{t':TypeId}{fq':Nat×Nat}{w:Value}{l:List Int}(hl:LsI ro w l)(hll:l.length=b.mins.toNat)(hli:∀x∈l,0≤x∧x≤396)(h2:ro p2=some (.cells (bkL b vm vs vk).toArray t fq))(h5:ro p5=some (.cells [w].toArray t' fq'))(q:Mk)(hq:1≤q.n∧q.n≤b.mins):
  CallP prog J (.func (.func 309) #[] [.pointer (some ⟨p2,0,none⟩), .pointer (some ⟨p5,0,none⟩)].toArray) [.agg (Mk.cells q).toArray] ro (.bool (!between (dry b (l.getD (q.n-1).toNat 0)) q.r.lo q.r.hi)):=by
 have hmins:=hb.mins
 obtain⟨wp,wo,wcap,wl,wt,wfq,rfl,hwro,hwsub⟩:=hl.at ic_len O
 have hx:wl[wo+(q.n-1).toNat*1]? =some (.int .i64 (l.getD (q.n-1).toNat 0)):=by
  have:=ic_at hwsub (i:=(q.n-1).toNat) O
  rw [List.getD_eq_getElem?_getD,List.getElem?_eq_getElem (show(q.n-1).toNat<l.length by omega)]
  exact this
 have hxi:0≤l.getD (q.n-1).toNat 0∧l.getD (q.n-1).toNat 0≤396:=by
  rw [List.getD_eq_getElem?_getD,List.getElem?_eq_getElem (show(q.n-1).toNat<l.length by omega)]
  exact hli _ (List.getElem_mem _)
 unfold Mk.cells
 refine CallP.introC hJ Kr fun c cs tail hret=>enter_X (n:=21) func309 U U (Nl U) ?_
 have C:Ctx prog main J (bf 309 .normal):=⟨hJ,by decide⟩
 refine Xu W<|Bx Z fun p3=>Ae W<|Xv<|Xf fun hok=>Dl 0 hok (fun _ _ A h=>R.loadAggRo C U (A.w U U) (A.x U U) G206 B206 h2 (sub_all U) h)<|Dc 1 W G58 h5 U<|Dh 0 2 Y A309 U B3<|Db 3 W G3 V U<|Dj 4 Y5 (b_sub O O)<|Dw 5 Y A58 B3<|Dc 6 W G3 hwro hx<|Dh 1 8 Y A309 U B45<|Dh 1 9 Y A45 U B3<|Db 10 W G3 V U<|Dh 1 11 Y A309 U B45<|Dh 2 12 Y A45 U B3<|Db 13 W G3 V U<|De 7 (some 12) [true,true,false,false,false,false] hok (fun _ _ A hk=>?_)
 refine R.callP C U (A.w U U) (A.x U U) (A.s U U) (dry_c hJ ⟨_,_,_,rfl,hp⟩ hb O) (hk _ _ ⟨(QFs.cons (QF.of U (fun _ _ A h=>R.loadOne C U (A.w U U) (A.x U U) G3 V U h)) (QFs.cons (QF.of U (fun _ _ A h=>R.loadOne C U (A.w U U) (A.x U U) G3 V U h)) QFs.nil)), ?_⟩)
 refine De 14 (some 19) [false,false] hok (fun _ _ A hk=>?_)
 refine R.callP C U (A.w U U) (A.x U U) (A.s U U) (inside_c hJ _ _ _ _) (hk _ _ ⟨QFs.nil, ?_⟩)
 refine Dp 15 hok (fun _ _ _ A h=>R.not C U (A.w U U) (A.x U U) h)<|Da C 16 hok U U<|Dn<|Xw func309<|Hp hret ?_
 rfl
theorem marked_c(hv:BkV ro v b)(hb:b.good)(hn:0≤n∧n≤99)(h1:0≤w1∧w1≤99)(h2:0≤w2∧w2≤99)(h3:0≤w3∧w3≤99):
  CallR prog J (fnv 258) [v, .agg [.int .i64 n, .int .i64 w1, .int .i64 w2, .int .i64 w3].toArray] ro (fun w _=>w= .bool (marked b (n, [w1,w2,w3]))):=by
 have hv0:=hv
 obtain⟨mb,mc,sb,sc,kb,kc,rfl,hp,hmc⟩:=hv.all
 have hse:=hb.sent
 have hnk:=hb.nk
 have hu:0≤used (n, [w1,w2,w3]):=by rw [used_three];omega
 have h512:=planI_lt hse.2
 refine ER 19 hJ func258 W fun c cs tail hret C=>Xu W<|Bx Z fun p2=>Bx Z fun p3=>Ae W<|Xv<|X.afterI (ι:=Nat×RO×Option Addr×Nat×Nat) (fun s=>ro.le s.2.1∧LsI s.2.1 (.slice s.2.2.1 s.2.2.2.1 s.2.2.2.2) (play b (used (n, [w1,w2,w3])) (planI b.sent))) (fun s=> [(5, .pointer (some ⟨s.1,0,none⟩)),(2, .pointer (some ⟨p2,0,none⟩)),(3, .pointer (some ⟨p3,0,none⟩))])
  (fun s=>⟨s.2.1,(s.1, .cells [.slice s.2.2.1 s.2.2.2.1 s.2.2.2.2].toArray 58 (0,0))::(p3, .cells [.int .i64 n, .int .i64 w1, .int .i64 w2, .int .i64 w3].toArray 216 (0,0))::(p2, .cells (bs b mb mc sb sc kb kc []).toArray 206 (0,0))::tail⟩) (fun s hsx=>?_) (fun hcont=>?_)
 rotate_left
 ·have _:=hu
  refine Xf fun hok=>D5 C 0 hok U U G206 B206 V (.take (.take (.take (.take (.take (.take (.take (.take (.take Tk6)))))))))<|D5 C 1 hok U U G216 B216 V Tk4<|Dh 0 2 Y A206 U B81<|Dh 13 3 Y A81 U B58<|Db 4 W G58 V U<|D.eP2 (i:=5) (i':=7) (dst:=(some 11)) (dst':=(some 5)) [false,true,true] [true,true,true] hok U U Kr Kr Kr (fun _ _ A hk=>?_) (fun _ _ A hk=>?_)
  ·
   refine R.callP C U (A.w U U) (A.x U U) (A.s U U) (planOf_c hJ hp.2.1 O hse.2) (hk _ _ ⟨(QFs.cons (QF.of U (fun _ _ A h=>R.loadAgg C U (A.w U U) (A.x U U) G216 B216 V Tk4 h)) (QFs.cons (QF.of U (fun _ _ A h=>R.loadAgg C U (A.w U U) (A.x U U) G206 B206 V (.take (.take (.take (.take (.take (.take (.take (.take (.take Tk6))))))))) h)) QFs.nil)), ?_⟩)
   refine D.eP2 (i:=6) (i':=7) (dst:=(some 12)) (dst':=(some 5)) [false,false] [true,true] hok U U Kr Kr Kr (fun _ _ A hk=>?_) (fun _ _ A hk=>?_)
   ·
    refine R.callR C U (A.w U U) (A.x U U) (A.s U U) (play_c hJ hv0 hb hn h1 h2 h3 h512) fun v1 ro1 hl1 hq1=>hk _ _ ⟨QFs.nil, ?_⟩
    refine De 7 (some 5) [] hok (fun _ _ A hk=>?_)
    have hq0:=hq1
    obtain⟨lb,lc,rfl⟩:=hq1.form
    refine R.alloc C U (A.w U U) K58 U fun p5=>hk _ _ ⟨QFs.nil, ?_⟩
    refine De 8 none [] hok (fun _ _ A hk=>?_)
    refine R.store C U (A.w U U) (A.x U U) (A.x U U) B58 U U U V (.here .nil) (hk undef _ ⟨QFs.nil, ?_⟩)
    refine Dn<|X.weaken ?_ (hcont (p5,ro1,lb,_,lc) ⟨hl1,hq0⟩)
    exact⟨U,U,U,trivial⟩
   ·
    refine R.alloc C U (A.w U U) K58 U fun p5=>hk _ _ ⟨(QFs.cons (QF.of U (fun _ _ A h=>R.loadAgg C U (A.w U U) (A.x U U) G216 B216 V Tk4 h)) (QFs.cons (QF.of U (fun _ _ A h=>R.loadAgg C U (A.w U U) (A.x U U) G206 B206 V (.take (.take (.take (.take (.take (.take (.take (.take (.take Tk6))))))))) h)) QFs.nil)), ?_⟩
    refine De 6 (some 12) [false,false] hok (fun _ _ A hk=>?_)
    refine R.callR C U (A.w U U) (A.x U U) (A.s U U) (play_c hJ hv0 hb hn h1 h2 h3 h512) fun v1 ro1 hl1 hq1=>hk _ _ ⟨QFs.nil, ?_⟩
    refine De 8 none [] hok (fun _ _ A hk=>?_)
    have hq0:=hq1
    obtain⟨lb,lc,rfl⟩:=hq1.form
    refine R.store C U (A.w U U) (A.x U U) (A.x U U) B58 U U U V (.here .nil) (hk undef _ ⟨QFs.nil, ?_⟩)
    refine Dn<|X.weaken ?_ (hcont (p5,ro1,lb,_,lc) ⟨hl1,hq0⟩)
    exact⟨U,U,U,trivial⟩
  ·
   refine R.alloc C U (A.w U U) K58 U fun p5=>hk _ _ ⟨(QFs.cons (QF.of U (fun _ _ A h=>R.loadOne C U (A.w U U) (A.x U U) G58 V U h)) (QFs.cons (QF.of U (fun _ _ A h=>R.loadAgg C U (A.w U U) (A.x U U) G216 B216 V Tk4 h)) (QFs.cons (QF.of U (fun _ _ A h=>R.loadAgg C U (A.w U U) (A.x U U) G206 B206 V (.take (.take (.take (.take (.take (.take (.take (.take (.take Tk6))))))))) h)) QFs.nil))), ?_⟩
   refine De 5 (some 11) [false,true,true] hok (fun _ _ A hk=>?_)
   refine R.callP C U (A.w U U) (A.x U U) (A.s U U) (planOf_c hJ hp.2.1 O hse.2) (hk _ _ ⟨(QFs.cons (QF.of U (fun _ _ A h=>R.loadAgg C U (A.w U U) (A.x U U) G216 B216 V Tk4 h)) (QFs.cons (QF.of U (fun _ _ A h=>R.loadAgg C U (A.w U U) (A.x U U) G206 B206 V (.take (.take (.take (.take (.take (.take (.take (.take (.take Tk6))))))))) h)) QFs.nil)), ?_⟩)
   refine De 6 (some 12) [false,false] hok (fun _ _ A hk=>?_)
   refine R.callR C U (A.w U U) (A.x U U) (A.s U U) (play_c hJ hv0 hb hn h1 h2 h3 h512) fun v1 ro1 hl1 hq1=>hk _ _ ⟨QFs.nil, ?_⟩
   refine De 8 none [] hok (fun _ _ A hk=>?_)
   have hq0:=hq1
   obtain⟨lb,lc,rfl⟩:=hq1.form
   refine R.store C U (A.w U U) (A.x U U) (A.x U U) B58 U U U V (.here .nil) (hk undef _ ⟨QFs.nil, ?_⟩)
   refine Dn<|X.weaken ?_ (hcont (p5,ro1,lb,_,lc) ⟨hl1,hq0⟩)
   exact⟨U,U,U,trivial⟩
 obtain⟨p5,ro1,lb,ll,lc⟩:=s
 obtain⟨hl1,hq1⟩:=hsx
 simp only at hl1 hq1⊢
 refine X.persist C.1 fun ro2 hl2 hp5=>X.perm C.1 (List.Perm.swap _ _ _)<|X.persist C.1 fun ro3 hl3 hp2=>?_
 have k2:=RO.le_trans hl1 hl2
 have k3:=RO.le_trans k2 hl3
 have hpl:=play_len b (used (n, [w1,w2,w3])) (planI b.sent)
 have hpi:=play_in hb hu (planI b.sent)
 refine Xu W<|Rv 0 W A206 U B81<|Rv 14 W A81 U B79<|Lo Y G79 hp2 U<|R.makeFunc C U U U U<|R.call C U U U U (pre:= []) (tail:=_::tail) U (containsK_c hJ (f:=fun m=> !between (dry b ((play b (used (n, [w1,w2,w3])) (planI b.sent)).getD (m.n-1).toNat 0)) m.r.lo m.r.hi) (hp.mono k3).2.2.1 O fun q hq=>marked1_c hJ (hp.mono k3) hb (hq1.mono (RO.le_trans hl2 hl3)) hpl hpi hp2 (hl3 _ _ hp5) q (by have:=hb.ks q hq;omega)) fun w4 ro4 pre4 hl4 hp4=>?_
 obtain⟨rfl,rfl,rfl⟩:=hp4
 refine Rh Y<|Ae W<|Xw func258<|Hr hret k3 ?_
 have e:(!b.ks.any fun m=> !between (dry b ((play b (used (n, [w1,w2,w3])) (planI b.sent)).getD (m.n-1).toNat 0)) m.r.lo m.r.hi)=marked b (n, [w1,w2,w3]):=by
  unfold marked
  rw [List.not_any_eq_all_not]
  congr 1;funext m
  simp
 simp only [retVal,e]
end Go.Lg.Be
namespace Go.Lg.Be
open Go Go.Conc Go.Lg Go.Proofs Go.Lg.B Go.Proofs.Tryz
variable {ws:List Int}{n n0:Int}{i:Nat}{items:List (List Value)}{b:Bk}{ro:RO}{vk vm vs:Value}
theorem air_len(n0:Int)(h:ws.length=3):(airL n0 ws).length=4:=by simp [airL,ints,h]
theorem put_air(h:i<ws.length):Put (1+((i:Int)).toNat*1) [.int .i64 n] (airL n0 ws) (airL n0 (ws.set i n)):=by
 have h1:=put_set (ints ws) i (.int .i64 n) (by simpa [ints] using h)
 have e:(ints ws).set i (.int .i64 n)=ints (ws.set i n):=by simp [ints]
 rw [e] at h1
 have:=Put.skip (x:= .int .i64 n0) h1
 simpa [Nat.add_comm] using this
theorem used_pad(n:Int)(w:List Int)(k:Nat):used (n,pad k w)=used (n,w):=by
 have key:∀ (m:Nat) (a:Int),(List.replicate m (0:Int)).foldl (· + ·) a=a:=by
  intro m
  induction m with
  |zero=>intro a;rfl
  |succ m ih=>intro a;simp only [List.replicate_succ,List.foldl_cons,Int.add_zero,ih]
 simp only [used,pad,List.foldl_append,key]
theorem marked_pad(b:Bk)(n:Int)(w:List Int)(k:Nat):marked b (n,pad k w)=marked b (n,w):=by
 unfold marked
 rw [used_pad]
abbrev aOf(c:Cs):Value:=airV c.1 (pad 3 c.2)
def nextV(a2 a3 a4:Nat):Value:= .func (.func 257) #[] [.pointer (some ⟨a2,0,none⟩), .pointer (some ⟨a3,0,none⟩), .pointer (some ⟨a4,0,none⟩)].toArray
theorem seg_one{k:Nat}{t:Cs}(h:Seg items k [t] aOf):∃hk:k<items.length,items[k]= [aOf t]:=by
 have h0:items[k]? =some [aOf t]:=by simpa using h 0 Zi
 have hk:=(List.getElem?_eq_some_iff.1 h0).1
 rw [List.getElem?_eq_getElem hk] at h0
 exact⟨hk,Option.some.inj h0⟩
def leafs(b:Bk)(n0:Int)(pre:List Int)(i:Nat):List Cs:=((spread ((b.ms.drop i).map Mn.r)).map fun s=>((n0,pre++s):Cs)).filter (marked b)
theorem leafs_succ{pre:List Int}{q:Mn}(h:b.ms.drop i=q::b.ms.drop (i+1)):leafs b n0 pre i=(B.rz q.r.lo (q.r.hi+1-q.r.lo).toNat).flatMap fun n=>leafs b n0 (pre++ [n]) (i+1):=by
 unfold leafs
 rw [h,List.map_cons,spread_map_cons,List.filter_flatMap]
 show List.flatMap _ (B.rz _ _)=_
 congr 1
 funext n
 simp only [List.append_assoc,List.cons_append,List.nil_append]
theorem getD_set(h:∀j,0≤ws.getD j 0∧ws.getD j 0≤99)(hn:0≤n∧n≤99):∀j,0≤(ws.set i n).getD j 0∧(ws.set i n).getD j 0≤99:=fun j=>by
 have hj:=h j
 rw [List.getD_eq_getElem?_getD] at hj
 rw [List.getD_eq_getElem?_getD,List.getElem?_set]
 split
 ·split
  ·exact hn
  ·exact⟨Int.le_refl _,by decide⟩
 ·exact hj
variable {main:Bool}{J:Goroutine→Mem→Prop}(hJ:Closed prog main J)
include hJ
theorem markedL_c{v:Value}(hv:BkV ro v b)(hb:b.good)(hn:0≤n∧n≤99)(hl:ws.length=3)(hw:∀j,0≤ws.getD j 0∧ws.getD j 0≤99):CallR prog J (fnv 258) [v,airV n ws] ro (fun w _=>w= .bool (marked b (n,ws))):=by
 match ws,hl with
 | [w1,w2,w3],_=>exact marked_c hJ hv hb hn (hw 0) (hw 1) (hw 2)
theorem next_c{yv:Value}{ro0:RO}(hv:BkP ro0 b vm vs vk)(hb:b.good){a2 a3 a4:Nat}{t2 t3 t4:TypeId}{f2 f3 f4:Nat×Nat}(h2:ro0 a2=some (.cells (bkL b vm vs vk).toArray t2 f2))(h3:ro0 a3=some (.cells [yv].toArray t3 f3))
  (h4:ro0 a4=some (.cells [nextV a2 a3 a4].toArray t4 f4)) (I:Nat→RO→List (Nat×Obj)→Prop) (E:RO→List (Nat×Obj)→Prop) (hmono:∀k ro ro' p,ro.le ro'→I k ro p→I k ro' p)
  (hy:∀k (hk:k<items.length) ro1 p1,ro0.le ro1→I k ro1 p1→CallV prog J yv items[k] ro1 p1 fun v ro' p'=>(v= .bool true∧I (k+1) ro' p')∨(v= .bool false∧E ro' p')) (hn0:0≤n0∧n0≤99):
  ∀ (mm i:Nat) (ws:List Int) (ro1:RO) (p1:List (Nat×Obj)) (k:Nat),i+mm=b.ms.length→ro0.le ro1→I k ro1 p1→ws.length=3→(∀j,0≤ws.getD j 0∧ws.getD j 0≤99)→ws.drop b.ms.length=List.replicate (3-b.ms.length) 0→
   Seg items k (leafs b n0 (ws.take i) i) aOf→
   CallV prog J (nextV a2 a3 a4) [airV n0 ws, .int .i64 (i:Int)] ro1 p1 fun v ro' p'=>(v= .bool true∧I (k+(leafs b n0 (ws.take i) i).length) ro' p')∨(v= .bool false∧E ro' p'):=by
 have hnm:=hb.nm
 have hvm:=hv.1
 obtain⟨pb,pc,rfl⟩:=hv.1.form
 intro mm
 induction mm with
 |zero=>
  intro i ws ro1 p1 k hi hle hI hwl hwb hwz hseg
  obtain rfl:i=b.ms.length:=by omega
  have hpp:pad 3 (ws.take b.ms.length)=ws:=pad_take hwl O hwz
  have hse:marked b (n0,ws.take b.ms.length)=marked b (n0,ws):=by rw [←marked_pad b n0 (ws.take b.ms.length) 3,hpp]
  have hlf:leafs b n0 (ws.take b.ms.length) b.ms.length=if marked b (n0,ws)=true then [(n0,ws.take b.ms.length)] else []:=by
   unfold leafs
   rw [List.drop_length]
   simp only [List.map_nil,spread,List.map_cons,List.append_nil,List.filter_cons,List.filter_nil,hse]
  have hcl:=air_len n0 hwl
  have hsc:=markedL_c hJ (v:= .agg (bkL b (.slice pb b.ms.length pc) vs vk).toArray) (ro:=ro1) ⟨_,_,_,rfl,hv.mono hle⟩ hb hn0 hwl hwb
  rw [hlf] at hseg⊢
  by_cases hsn:marked b (n0,ws)=true
  ·rw [if_pos hsn] at hseg⊢
   rw [hsn] at hsc
   obtain⟨hk,hki⟩:=seg_one hseg
   have hyk:=fun ro1 p1 hle hI=>hy k hk ro1 p1 hle hI
   rw [hki] at hyk
   simp only [aOf,hpp] at hyk
   refine CallV.intro (first:= []) (vs:= [_,_]) (cap:= [_,_,_]) hJ Kr fun c cs tail hret=>enter_X (n:=54) F257 U U (Nl U) ?_
   have C:Ctx prog main J (bf 257 .normal):=⟨hJ,by decide⟩
   refine Xu W<|Bx Z fun p5=>Ae W<|Xx W<|Ro W<|R.fieldAddr C U U U A206 U B81 U<|R.fieldAddr C U U U A81 U B78 U<|Lo Y G78 (hle _ _ h2) U<|Rt W A78<|Ri Z b_eql<|Zc U (fun he=>?_) (fun he=>?_)
   ·refine Xu W<|La Y G206 B206 (hle _ _ h2) (sub_all U)<|Rq W G216 B216 V (sub_all hcl)<|R.callR C U U U U (hsc) fun v7 ro7 hl7 hq7=>?_
    subst hq7
    have hle7:=RO.le_trans hle hl7
    refine Rh Y<|FF 18 U (by rfl)<|Ro W<|Lo Y isAgg390 (hle7 _ _ h3) U<|Rq W G216 B216 V (sub_all hcl)<|R.perm C.1 List.perm_middle.symm<|R.call C U U U U (pre:=p1) (tail:=_::tail) U (hyk ro7 p1 hle7 (hmono _ _ _ _ hl7 hI)) fun v ro' pre' hle' hp=>R.perm C.1 List.perm_middle<|Pf Z<|Ae W<|Xw F257<|hret _ _ pre' _ (RO.le_trans hl7 hle') ?_ (by exact List.sublist_cons_self _ _)
    rcases hp with⟨rfl,h⟩|⟨rfl,h⟩
    ·exact .inl ⟨rfl,h⟩
    ·exact .inr ⟨rfl,h⟩
   ·simp at he
  ·rw [if_neg hsn] at hseg⊢
   have hsn:marked b (n0,ws)=false:=by simpa using hsn
   rw [hsn] at hsc
   refine CallV.intro (first:= []) (vs:= [_,_]) (cap:= [_,_,_]) hJ Kr fun c cs tail hret=>enter_X (n:=54) F257 U U (Nl U) ?_
   have C:Ctx prog main J (bf 257 .normal):=⟨hJ,by decide⟩
   refine Xu W<|Bx Z fun p5=>Ae W<|Xx W<|Ro W<|R.fieldAddr C U U U A206 U B81 U<|R.fieldAddr C U U U A81 U B78 U<|Lo Y G78 (hle _ _ h2) U<|Rt W A78<|Ri Z b_eql<|Zc U (fun he=>?_) (fun he=>?_)
   ·refine Xu W<|La Y G206 B206 (hle _ _ h2) (sub_all U)<|Rq W G216 B216 V (sub_all hcl)<|R.callR C U U U U (hsc) fun v7 ro7 hl7 hq7=>?_
    subst hq7
    refine Rh Y<|FT 18 U (by rfl)<|Ro W<|Rp W<|Rp W<|Rp W<|Pp Z<|Ae W<|Xw F257 ?_
    exact hret _ _ p1 _ hl7 (.inl ⟨rfl,hmono _ _ _ _ hl7 hI⟩) (by exact List.sublist_cons_self _ _)
   ·simp at he
 |succ mm ih=>
  intro i ws ro1 p1 k hi hle hI hwl hwb hwz hseg
  have hi':i<b.ms.length:=O
  obtain⟨p,off,cap,l,t,fq,e,hrop,hsub⟩:=hvm.at Mn.len O
  cases e
  have hld:=hsub i hi'
  have hf:=hb.ms _ (List.getElem_mem hi')
  have hdr:b.ms.drop i=b.ms[i]::b.ms.drop (i+1):=List.drop_eq_getElem_cons hi'
  generalize b.ms[i]=q at hf hld hdr
  have hlo:l[off+i*3+1+0]? =some (.int .i64 q.r.lo):=hld.get 1 Dd
  have hhi:l[off+i*3+1+1]? =some (.int .i64 q.r.hi):=hld.get 2 Dd
  rw [leafs_succ hdr] at hseg⊢
  refine CallV.intro (first:= []) (vs:= [_,_]) (cap:= [_,_,_]) hJ Kr fun c cs tail hret=>enter_X (n:=54) F257 U U (Nl U) ?_
  have C:Ctx prog main J (bf 257 .normal):=⟨hJ,by decide⟩
  refine Xu W<|Bx Z fun p5=>Ae W<|Xx W<|Ro W<|R.fieldAddr C U U U A206 U B81 U<|R.fieldAddr C U U U A81 U B78 U<|Lo Y G78 (hle _ _ h2) U<|Rt W A78<|Ri Z b_eql<|Zc U (fun he=>?_) (fun he=>?_)
  ·simp at he;omega
  ·refine Xz<|Xx W<|R.fieldAddr C U U U A206 U B81 U<|R.fieldAddr C U U U A81 U B78 U<|Lo Y G78 (hle _ _ h2) U<|Ro W<|Ry Y A78 B198<|R.fieldAddr C U U U A198 U B45 U<|R.fieldAddr C U U U A45 U B3 U<|Lo Y G3 (hle _ _ hrop) hlo<|Ae W<|Xb ?_
   refine X.loopI (ι:=Int×Nat×List Int×List (Nat×Obj)×RO×Nat) C.1 (fun s=>s.1+s.2.1=q.r.hi+1∧1≤s.1∧s.2.2.1.length=3∧(∀j,0≤s.2.2.1.getD j 0∧s.2.2.1.getD j 0≤99)∧s.2.2.1.take i=ws.take i∧s.2.2.1.drop b.ms.length=ws.drop b.ms.length∧ro1.le s.2.2.2.2.1∧I s.2.2.2.2.2 s.2.2.2.2.1 s.2.2.2.1∧
     Seg items s.2.2.2.2.2 ((B.rz s.1 s.2.1).flatMap fun n=>leafs b n0 (ws.take i++ [n]) (i+1)) aOf∧
     s.2.2.2.2.2+((B.rz s.1 s.2.1).flatMap fun n=>leafs b n0 (ws.take i++ [n]) (i+1)).length=k+((B.rz q.r.lo (q.r.hi+1-q.r.lo).toNat).flatMap fun n=>leafs b n0 (ws.take i++ [n]) (i+1)).length)
    (fun s=> [(8, .int .i64 s.1),(1, .int .i64 (i:Int)),(2, .pointer (some ⟨a2,0,none⟩)),(3, .pointer (some ⟨a3,0,none⟩)),(4, .pointer (some ⟨a4,0,none⟩)),(5, .pointer (some ⟨p5,0,none⟩))])
    (fun s=>⟨s.2.2.2.2.1,(p5, .cells (airL n0 s.2.2.1).toArray 216 (0,0))::(s.2.2.2.1++tail)⟩) (fun s=>s.2.1) (q.r.lo,(q.r.hi+1-q.r.lo).toNat,ws,p1,ro1,k)
    ⟨by simp only;omega,hf.1,hwl,hwb,rfl,rfl,RO.le_refl _,hI,hseg,rfl⟩ rfl ⟨U,U,U,U,U,U,trivial⟩ fun s hst hnext=>?_
   obtain⟨n,m2,w2,q2,roc,kc⟩:=s
   obtain⟨g1,g0,gl,gb,gt,gd,gle,gI,gseg,glen⟩:=hst
   simp only at g1 g0 gl gb gt gd gle gI gseg glen hnext⊢
   refine Xx W<|Ro W<|R.fieldAddr C U U U A206 U B81 U<|R.fieldAddr C U U U A81 U B78 U<|Lo Y G78 (gle _ _ (hle _ _ h2)) U<|Ro W<|Ry Y A78 B198<|R.fieldAddr C U U U A198 U B45 U<|R.fieldAddr C U U U A45 U B3 U<|Lo Y G3 (gle _ _ (hle _ _ hrop)) hhi<|Ri Z b_leq<|Zj U (fun hlt=>?_) (fun hlt=>?_)
   ·obtain⟨m',rfl⟩:∃m',m2=m'+1:=⟨m2-1,O⟩
    simp only [B.rz,List.flatMap_cons] at gseg glen
    obtain⟨hs1,hs2⟩:=gseg.split
    rw [List.length_append] at glen
    have htk:(w2.set i n).take (i+1)=ws.take i++ [n]:=by rw [take_set n O,gt]
    have hdz:(w2.set i n).drop b.ms.length=ws.drop b.ms.length:=by rw [List.drop_set_of_lt O,gd]
    have hln:(w2.set i n).length=3:=by simpa using gl
    have hbn:=getD_set (i:=i) (n:=n) gb O
    have hcl:=air_len n0 hln
    have hrec:=ih (i+1) (w2.set i n) roc q2 kc O (RO.le_trans hle gle) gI hln hbn (by rw [hdz,hwz]) (by rw [htk];exact hs1)
    rw [htk] at hrec
    refine Xz<|Xv<|Xb<|Xm W W<|Ro W<|Rv 1 W A216 U B214<|R.indexAddrA C U U U U A214 B3 O O<|Rs Z B3 Y V (put_air O)<|Rz<|Xu W<|Lo Y isAgg391 (gle _ _ (hle _ _ h4)) U<|Rq W G216 B216 V (sub_all hcl)<|Ro W<|Rb Y<|R.perm C.1 (by exact List.perm_append_comm_assoc [_] _ _)<|R.call C U U U U (pre:=q2) (tail:=_::tail) U hrec fun v ro' pre' hle' hp=>R.perm C.1 (by exact List.perm_append_comm_assoc _ [_] _) ?_
    rcases hp with⟨rfl,hI2⟩|⟨rfl,hE⟩
    ·
     refine Rh Y<|FF 53 U U<|Zc U (fun h=>nomatch h) (fun _=>?_)
     refine Xz<|Xi<|Xg W<|Ro W<|Rb Y<|Ae W<|X.weaken ?_ (hnext (n+1,m',w2.set i n,pre',ro',kc+(leafs b n0 (ws.take i++ [n]) (i+1)).length) ⟨?_, ?_,hln,hbn, ?_,hdz,RO.le_trans gle hle',hI2,hs2, ?_⟩ (Nat.lt_succ_self _))
     ·exact⟨by simp [look],rfl,rfl,rfl,rfl,rfl,trivial⟩
     ·simp only;omega
     ·simp only;omega
     ·simp only
      have:=congrArg (List.take i) htk
      rw [take_take_succ] at this
      rw [this,List.take_append_of_le_length Zo,List.take_take,Nat.min_self]
     ·simp only;omega
    ·
     refine Rh Y<|FT 53 U U<|Zc U (fun _=>?_) (fun h=>nomatch h)
     refine Xo W W<|Xw F257 ?_
     exact hret _ _ pre' _ (RO.le_trans gle hle') (.inr ⟨rfl,hE⟩) (by exact List.sublist_cons_self _ _)
   ·obtain rfl:m2=0:=by omega
    simp only [B.rz,List.flatMap_nil,List.length_nil,Nat.add_zero] at glen
    refine Xe U<|Xo W W<|Xw F257 ?_
    exact hret _ _ q2 _ gle (.inl ⟨rfl,by rw [←glen];exact gI⟩) (by exact List.sublist_cons_self _ _)
omit hJ in
theorem cases_leafs(b:Bk):cases b=(B.rz b.leak.lo (b.leak.hi+1-b.leak.lo).toNat).flatMap fun n=>leafs b n [] 0:=rfl
omit hJ in
theorem zeros_bd:∀j,0≤([0,0,0]:List Int).getD j 0∧([0,0,0]:List Int).getD j 0≤99
 |0=>by decide
 |1=>by decide
 |2=>by decide
 |j+3=>by simp [List.getD_eq_getElem?_getD]
omit hJ in
theorem zeros_drop{n:Nat}(h:n≤3):([0,0,0]:List Int).drop n=List.replicate (3-n) 0:=by
 have:n=0∨n=1∨n=2∨n=3:=O
 rcases this with rfl|rfl|rfl|rfl<;>rfl
theorem cases_it(hv:BkP ro b vm vs vk)(hb:b.good):Iter prog J (.func (.func 193) [.agg (bc b [vm,vs,vk]).toArray].toArray #[]) ((cases b).map fun c=> [aOf c]) ro:=by
 intro yv I E hyf hmono hy ro0 p0 hle hI0
 have hbl:=hb.leak
 have hnm:=hb.nm
 have hall:=Seg.all (cases b) aOf
 have hcl:=cases_leafs b
 have htot:0+((B.rz b.leak.lo (b.leak.hi+1-b.leak.lo).toNat).flatMap fun n=>leafs b n [] 0).length=(cases b).length:=by rw [←hcl,Nat.zero_add]
 rw [hcl] at hall
 rw [←hcl] at hall
 refine CallV.intro (first:= [_]) (vs:= [yv]) (cap:= []) hJ Kr fun c cs tail hret=>enter_X (n:=24) func193 U U (Nl U) ?_
 have C:Ctx prog main J (bf 193 .normal):=⟨hJ,by decide⟩
 refine Xu W<|Bx Z fun p2=>R.box C U U U (fnV.cells hyf) fun p3=>Rz<|Xu W<|Al W zeroValue391 U fun p4=>Rz<|Xu W<|R.makeFunc C U U U U<|Rs Z sizeOf391 Y V (.here .nil)<|Rz<|Xv<|X.persist C.1 fun r1 l1 h4=>X.persist C.1 fun r2 l2 h3=>X.persist C.1 fun r3 l3 h2=>?_
 have h4:=l3 _ _ (l2 _ _ h4)
 have h3:=l3 _ _ h3
 have k3:=RO.le_trans l1 (RO.le_trans l2 l3)
 have kr:=RO.le_trans hle k3
 refine Xg W<|Rv 0 W A206 U B81<|Rv 8 W A81 U B45<|Rv 8 W A45 U B3<|Lo Y G3 h2 U<|Ae W<|Xb ?_
 refine X.loopI (ι:=Int×Nat×List (Nat×Obj)×RO×Nat) C.1 (fun s=>s.1+s.2.1=b.leak.hi+1∧0≤s.1∧r3.le s.2.2.2.1∧I s.2.2.2.2 s.2.2.2.1 s.2.2.1∧Seg ((cases b).map fun c=> [aOf c]) s.2.2.2.2 ((B.rz s.1 s.2.1).flatMap fun n=>leafs b n [] 0) aOf∧
   s.2.2.2.2+((B.rz s.1 s.2.1).flatMap fun n=>leafs b n [] 0).length=(cases b).length)
  (fun s=> [(5, .int .i64 s.1),(2, .pointer (some ⟨p2,0,none⟩)),(4, .pointer (some ⟨p4,0,none⟩))])
  (fun s=>⟨s.2.2.2.1,s.2.2.1++tail⟩) (fun s=>s.2.1) (b.leak.lo,(b.leak.hi+1-b.leak.lo).toNat,p0,r3,0)
  ⟨by simp only;omega,hbl.1,RO.le_refl _,hmono _ _ _ _ k3 hI0,hall,htot⟩ rfl ⟨U,U,U,trivial⟩ fun s hst hnext=>?_
 obtain⟨n,m2,q2,roc,kc⟩:=s
 obtain⟨g1,g0,gle,gI,gseg,glen⟩:=hst
 simp only at g1 g0 gle gI gseg glen hnext⊢
 refine Xx W<|Ro W<|Rv 0 W A206 U B81<|Rv 8 W A81 U B45<|Rv 9 W A45 U B3<|Lo Y G3 (gle _ _ h2) U<|Ri Z b_leq<|Zj U (fun hlt=>?_) (fun hlt=>?_)
 ·obtain⟨m',rfl⟩:∃m',m2=m'+1:=⟨m2-1,O⟩
  simp only [B.rz,List.flatMap_cons] at gseg glen
  obtain⟨hs1,hs2⟩:=gseg.split
  rw [List.length_append] at glen
  have hnx:=next_c hJ (hv.mono kr) hb h2 h3 h4 I E hmono (fun k hk ro1 p1 h=>hy k hk ro1 p1 (RO.le_trans kr h)) (n0:=n) O b.ms.length 0 [0,0,0] roc q2 kc O gle gI rfl zeros_bd (zeros_drop hnm) hs1
  refine Xz<|Xv<|Xb<|Xu W<|Lo Y isAgg391 (gle _ _ h4) U<|Ro W ?_;refine R.build C U U U K216 U A216 Kr (Fills.part U U B3 U (.here .nil) .nil)<|R.call C U U U U (pre:=q2) (tail:=tail) U hnx fun v ro' pre' hle' hp=>?_
  rcases hp with⟨rfl,hI2⟩|⟨rfl,hE⟩
  ·
   refine Rh Y<|FF 23 U U<|Zc U (fun h=>nomatch h) (fun _=>?_)
   refine Xz<|Xi<|Xg W<|Ro W<|Rb Y<|Ae W<|X.weaken ?_ (hnext (n+1,m',pre',ro',kc+(leafs b n [] 0).length) ⟨?_, ?_,RO.le_trans gle hle',hI2,hs2, ?_⟩ (Nat.lt_succ_self _))
   ·exact⟨by simp [look],rfl,rfl,trivial⟩
   ·simp only;omega
   ·simp only;omega
   ·simp only;omega
  ·
   refine Rh Y<|FT 23 U U<|Zc U (fun _=>?_) (fun h=>nomatch h)
   refine X.ret C U U func193 U (by exact .nil) ?_
   exact hret _ _ pre' _ (RO.le_trans k3 (RO.le_trans gle hle')) ⟨rfl, .inr hE⟩ (List.Sublist.refl _)
 ·obtain rfl:m2=0:=by omega
  simp only [B.rz,List.flatMap_nil,List.length_nil,Nat.add_zero] at glen
  refine Xe U<|X.fall C U U func193 U (by exact .nil) ?_
  exact hret _ _ q2 _ (RO.le_trans k3 gle) ⟨rfl, .inl (by rw [List.length_map, ←glen];exact gI)⟩ (List.Sublist.refl _)
end Go.Lg.Be
namespace Go.Lg.Be
open Go Go.Conc Go.Lg Go.Proofs Go.Lg.B Go.Proofs.Tryz
variable {b:Bk}{c:Cs}{vk vm vs w:Value}{ro:RO}{l:List Int}
theorem case_len(h:c∈cases b):c.2.length=b.ms.length:=by
 have:=(mem_spread.1 (mem_cases.1 h).1.2).1
 simpa using this
theorem case_in(hb:b.good)(h:c∈cases b):(0≤c.1∧c.1≤99)∧∀i,0≤c.2.getD i 0∧c.2.getD i 0≤99:=by
 have h1:=nums_in.1 (mem_cases.1 h).1.1
 have hl:=hb.leak
 obtain⟨h2,h3⟩:=mem_spread.1 (mem_cases.1 h).1.2
 refine⟨O,fun i=>?_⟩
 by_cases hi:i<b.ms.length
 ·obtain⟨x,hx,h4⟩:=h3 i b.ms[i].r (by simp [hi])
  have h5:=hb.ms _ (List.getElem_mem hi)
  simp only [List.getD_eq_getElem?_getD,hx,Option.getD_some];omega
 ·have:c.2[i]? =none:=by
   rw [List.getElem?_eq_none]
   rw [h2,List.length_map];omega
  simp [List.getD_eq_getElem?_getD,this]
def ha(c:Cs):List Value:=airL c.1 ((pad 3 c.2).take 3)
theorem ha_len(c:Cs):(ha c).length=4:=by simp [ha,airL,ints,pad];omega
theorem ha_eq(h:c.2.length≤3):ha c=airL c.1 (pad 3 c.2):=by
 rw [ha,List.take_of_length_le (by rw [pad_len h];omega)]
theorem pad_lit{w:List Int}(h:w.length≤3):∃w1 w2 w3:Int,pad 3 w= [w1,w2,w3]:=by
 have h3:(pad 3 w).length=3:=pad_len h
 match e:pad 3 w,h3 with
 | [w1,w2,w3],_=>exact⟨w1,w2,w3,rfl⟩
abbrev LsA(ro:RO)(v:Value)(l:List Cs):Prop:=Ls ha 4 ro v l
theorem cases_le(hb:b.good):(cases b).length≤81:=by
 have hbl:=hb.leak
 have h0:∀r∈b.ms.map Mn.r,r.hi-r.lo<3:=fun r hr=>by
  obtain⟨p,hp,rfl⟩:=List.mem_map.1 hr
  exact(hb.ms p hp).2.2.2
 have h1:=spread_le h0
 have h2:3^ (b.ms.map Mn.r).length≤3^3:=Nat.pow_le_pow_right O (by simpa using hb.nm)
 have h3:=flat_le (l:=b.leak.nums) (f:=fun n=>((spread (b.ms.map Mn.r)).map fun w=>((n,w):Cs)).filter (marked b)) (c:=27) fun n _=>by
  have:=List.length_filter_le (marked b) ((spread (b.ms.map Mn.r)).map fun w=>((n,w):Cs))
  rw [List.length_map] at this
  omega
 have h4:b.leak.nums.length≤3:=by
  unfold Rc.nums
  rw [rz_len];omega
 have h5:b.leak.nums.length*27≤3*27:=Nat.mul_le_mul_right _ h4
 unfold cases;omega
abbrev iterV(b:Bk)(vm vs vk:Value):Value:= .func (.func 193) [.agg (bc b [vm,vs,vk]).toArray].toArray #[]
variable {main:Bool}{J:Goroutine→Mem→Prop}(hJ:Closed prog main J)
include hJ
theorem some_c(hv:BkP ro b vm vs vk)(hb:b.good):CallR prog J (fnv 190) [.agg (bc b [vm,vs,vk]).toArray] ro (fun w _=>w= .bool (decide (cases b≠ []))):=by
 refine ER 6 hJ func190 W fun c cs tail hret C=>Xu W<|Bx Z fun p1=>Al W K4 U fun p2=>Rz<|Xx W<|R.loadAgg C U U U G206 B206 V (.take (.take (.take (.take (.take (.take (.take (.take (.take Tk6)))))))))<|R.makeFunc C U U U U<|Rz<|Xb<|X.rangeFunc C (items:=(cases b).map fun c=> [aOf c]) (ro0:=ro)
  (fun k ro' q=>q=(p2, .cells [.bool false].toArray 4 (0,0))::(p1, .cells (bc b [vm,vs,vk]).toArray 206 (0,0))::tail∧k=0)
  (fun x ro' q=>x= .ret∧q=(p2, .cells [.bool true].toArray 4 (0,0))::(p1, .cells (bc b [vm,vs,vk]).toArray 206 (0,0))::tail∧cases b≠ [])
  rfl rfl (cases_it hJ hv hb) (RO.le_refl _) rfl (fun x hx=>by obtain⟨a,_,rfl⟩:=List.mem_map.1 hx;rfl) ⟨rfl,rfl⟩ (fun _ _ _ _ _ h=>h) ?_ ?_ ?_
 ·rintro kk hk l cs H H1 ro1 q hle1 ⟨rfl,rfl⟩ C hbegin hdone hjump
  have hne:cases b≠ []:=fun e=>by rw [e] at hk;exact absurd hk (Nat.not_lt_zero _)
  rw [List.getElem_map]
  simp only [roundSlots]
  refine Xz<|hbegin _ _ (_::_::tail)<|Xb<|Xu W<|Rs Z B4 Y V (.here .nil)<|Rz ?_
  exact hjump _ _ _ _ (_::_::tail) (RO.le_refl _) trivial ⟨rfl,rfl,hne⟩
 ·rintro r ro' q' hl ⟨rfl,h0⟩
  have he:cases b= []:=by
   rw [List.length_map] at h0
   exact List.length_eq_zero_iff.1 h0
  refine Xi<|Xu W<|Rs Z B4 Y V (.here .nil)<|Rz<|X.retM C U U func190 U (.cons V (.nil)) (by exact(.one U G4 V U .nil))<|Hr hret hl ?_
  simp [he,retVal]
 ·rintro r x ro' q' hl ⟨rfl,rfl,hne⟩
  refine X.retM C U U func190 U (.cons V (.nil)) (by exact(.one U G4 V U .nil))<|Hr hret hl ?_
  simp [hne,retVal]
theorem appendSeq_c(hv:BkP ro b vm vs vk)(hb:b.good):CallR prog J (fnv 256) [.slice none 0 0,iterV b vm vs vk] ro (fun w ro'=>LsA ro' w (cases b)):=by
 have hcl:=cases_le hb
 have hnm:=hb.nm
 refine ER 13 hJ func256 W fun c cs tail hret C=>Xu W<|Bx Z fun p2=>Ae W<|Xx W<|Ro W<|Rz<|Xb<|X.rangeFunc C (items:=(cases b).map fun c=> [aOf c]) (ro0:=ro)
  (fun k ro' q=>∃v' own0,Buf 216 4 tail v' (((cases b).take k).flatMap ha) own0∧q=(p2, .cells [v'].toArray 207 (0,0))::own0)
  (fun x ro' q=>False)
  rfl rfl (cases_it hJ hv hb) (RO.le_refl _) rfl (fun x hx=>by obtain⟨a,_,rfl⟩:=List.mem_map.1 hx;rfl) ⟨.slice none 0 0,tail, .nil,rfl⟩ (fun _ _ _ _ _ h=>h) ?_ ?_ ?_
 ·rintro kk hk l cs H H1 ro1 q hle1 ⟨v0,own0,hbuf,rfl⟩ C hbegin hdone hjump
  have hk':kk<(cases b).length:=by simpa using hk
  rw [List.getElem_map]
  simp only [roundSlots]
  have hmem:=List.getElem_mem hk'
  have htk:(cases b).take (kk+1)=(cases b).take kk++ [(cases b)[kk]]:=List.take_succ_eq_append_getElem hk'
  generalize(cases b)[kk]=co at hmem htk
  have hl3:co.2.length≤3:=by rw [case_len hmem];exact hnm
  have htc:=ha_eq hl3
  obtain⟨w1,w2,w3,m1⟩:=pad_lit hl3
  have m3:airL co.1 (pad 3 co.2)= [.int .i64 co.1, .int .i64 w1, .int .i64 w2, .int .i64 w3]:=by rw [m1];rfl
  rw [aOf,airV,m3]
  refine Xg W<|Al W K216 U fun p5=>Rs Z B216 Y V Ph4<|Rz<|hbegin _ _ (_::_::own0) ?_
  have hfl:(((cases b).take kk).flatMap ha).length=kk*4:=by rw [flatMap_len ha_len];simp;omega
  refine Xb<|Xg W<|Rj W G207 V U<|Rq W G216 B216 V Tk4<|R.buildSlice C (vs:=_) U U (show pvals _ _=some (numbered 0 [_]) from rfl) U A207 B216 K216 Dd (Cat.one U U) fun p10=>R.append2 (kk:=4) C [_,_] U U U U A207 A207 (fun _=>nofun) (show prog.info? 216=some Tryz.t216 by kernel_rfl) U U U Dd Dd (hbuf.app H1) U U (by(try simp only [List.length_append,List.length_cons,List.length_nil]);omega) fun v' own' hb'=>?_
  obtain⟨own1,rfl,hb1⟩:=hb'.unapp
  refine R.store C U U U U B207 hb'.cells1 U hb'.ones1 V (.here .nil)<|Rz<|Xi<|X.drop C.1 (own':=_::(own1++H1)) (List.sublist_cons_self _ _)<|hdone _ _ (_::own1) (RO.le_refl _) ⟨v',own1, ?_,rfl⟩
  rw [htk,List.flatMap_append,List.flatMap_cons,List.flatMap_nil,List.append_nil,htc,m3]
  exact hb1
 ·rintro r ro' q' hl ⟨v',own0,hbuf,rfl⟩
  have hall:(cases b).take ((cases b).map fun c=> [aOf c]).length=cases b:=by simp
  rw [hall] at hbuf
  refine Xi<|Xu W<|Rj W G207 V U<|Ae W<|X.finishA [_,_] C.1 ha_len Dd hbuf fun ro2 hl2 hls=>X.retM C U U func256 U (.cons V (.nil)) (by exact(.tmp U .nil))<|Hr hret (RO.le_trans hl hl2) ?_
  exact hls
 ·rintro r x ro' q' hl hf
  exact hf.elim
theorem collect_c(hv:BkP ro b vm vs vk)(hb:b.good):CallR prog J (fnv 192) [iterV b vm vs vk] ro (fun w ro'=>LsA ro' w (cases b)):=by
 refine ER 5 hJ func192 W fun c cs tail hret C=>Xo W W<|Xm W W<|R.callR C U U U U (appendSeq_c hJ hv hb) fun v1 ro1 hl1 hp1=>Ae W<|Xw func192<|Hr hret hl1 ?_
 exact hp1
omit hJ in
def noOpen:List Value:= [.int .i64 0, .int .i64 0, .int .i64 0, .int .i64 0, .int .i64 0, .int .i64 0, .int .i64 0, .int .i64 0, .int .i64 0, .int .i64 0, .int .i64 0, .int .i64 0, .slice none 0 0, .slice none 0 0, .slice none 0 0, .slice none 0 0]
def OpenP(b:Bk)(h:Int)(vm vs vk w:Value)(ro':RO):Prop:=
 (openH b h≠0∧w= .tuple [.agg noOpen.toArray, .int .i64 (openH b h)].toArray)∨
 (openH b h=0∧∃vl,LsA ro' vl (cases b)∧w= .tuple [.agg (bc b [vm,vs,vk,vl]).toArray, .int .i64 0].toArray)
theorem open_c{fv:Value}(he:Env ro)(hv:BkP ro b vm vs vk)(hs:b.short){h:Int}(hf:checkBook b=0→CallP prog J fv [.agg (bc b [vm,vs,vk]).toArray] ro (.int .i64 h)):
  CallR prog J (fnv 107) [.agg (bc b [vm,vs,vk]).toArray,fv] ro (OpenP b h vm vs vk):=by
 have hvv:BkV ro (.agg (bc b [vm,vs,vk]).toArray) b:=⟨_,_,_,rfl,hv⟩
 obtain⟨_,_,rfl⟩:=hv.1.form
 obtain⟨_,_,rfl⟩:=hv.2.1.form
 obtain⟨_,_,rfl⟩:=hv.2.2.1.form
 refine ER 37 hJ func107 W fun c cs tail hret C=>Xu W<|Bx Z fun p2=>Al W K209 U fun p4=>Ae W<|Xx W<|R.loadAgg C U U U G81 B81 V (.take (.take (.take (.take (.take (.take (.take (.take (.take Tk6)))))))))<|Cp Z (checkBook_c hJ he hvv hs)<|Ae W<|Xm W W<|Ri Z b_neq<|Zc U (fun hh=>?_) (fun hh=>?_)
 ·have hh:checkBook b≠0:=by simpa using hh
  have e:openH b h=checkBook b:=by rw [openH,if_pos hh]
  refine Xu W ?_;refine R.build C U U U K209 U A209 Kr .nil<|Ro W<|Rs Z B209 Y V (.here (.here (.here (.here (.here (.here (.here (.here (.here Ph7)))))))))<|Ae W<|X.ret C U U func107 U (by exact(.agg U G209 B209 V (.take (.take (.take (.take (.take (.take (.take (.take (.take (.take Tk6)))))))))) (.tmp U .nil)))<|Hr hret (RO.le_refl _) ?_
  exact .inl ⟨by rw [e];exact hh,by rw [e];rfl⟩
 ·have hh:checkBook b=0:=by simpa using hh
  have hb:=good_of hh
  have hcl:=cases_le hb
  have hff:=hf hh
  refine Xz<|Xu W<|R.loadAgg C U U U G81 B81 V (.take (.take (.take (.take (.take (.take (.take (.take (.take Tk6))))))))) ?_;refine R.build C U U U zeroValue206 U A206 Kr (Fills.part U U B81 U (.here (.here (.here (.here (.here (.here (.here (.here Ph7)))))))) .nil) ?_;refine R.build C U U U K209 U A209 Kr (Fills.part U U B206 U (.here (.here (.here (.here (.here (.here (.here (.here Ph7)))))))) .nil)<|Al W K209 U fun p7=>Rs Z B209 Y V (.here (.here (.here (.here (.here (.here (.here (.here (.here Ph7)))))))))<|Rz<|Xx W<|Ro W<|Rv 0 W A209 U B206<|R.loadAgg C U U U G206 B206 V (.take (.take (.take (.take (.take (.take (.take (.take (.take Tk6)))))))))<|Cp Z (hff)<|Ae W<|Xm W W<|Ri Z b_neq<|Zc U (fun h1=>?_) (fun h1=>?_)
  ·have h1:h≠0:=by simpa using h1
   have e:openH b h=h:=by rw [openH,if_neg (fun e=>e hh),if_pos h1]
   refine Xu W ?_;refine R.build C U U U K209 U A209 Kr .nil<|Ro W<|Rs Z B209 Y V (.here (.here (.here (.here (.here (.here (.here (.here (.here Ph7)))))))))<|Ae W<|X.ret C U U func107 U (by exact(.agg U G209 B209 V (.take (.take (.take (.take (.take (.take (.take (.take (.take (.take Tk6)))))))))) (.tmp U .nil)))<|Hr hret (RO.le_refl _) ?_
   exact .inl ⟨by rw [e];exact h1,by rw [e];rfl⟩
  ·have h1:h=0:=by simpa using h1
   refine Xz<|Xx W<|Rv 0 W A209 U B206<|R.loadAgg C U U U G206 B206 V (.take (.take (.take (.take (.take (.take (.take (.take (.take Tk6)))))))))<|R.makeFunc C U U U U<|R.callR C U U U U (collect_c hJ hv hb) fun v2 ro2 hl2 hp2=>?_
   obtain⟨lb,lc,rfl⟩:=hp2.form
   refine Rv 15 W A209 U B207<|Rs Z B207 Y V (.skip (.skip (.skip (.skip (.skip (.skip (.skip (.skip (.skip (.skip (.skip (.skip (.skip (.skip (.skip (.here .nil))))))))))))))))<|Rz<|Xu W<|Rv 15 W A209 U B207<|Rj W G207 V U<|Rt W A207<|Ri Z b_eql<|Zc U (fun h2=>?_) (fun h2=>?_)
   ·have h2:cases b= []:=by simpa using h2
    have e:openH b h=9:=by rw [openH,if_neg (fun e=>e hh),if_neg (fun e=>e h1),if_pos h2]
    refine Xu W ?_;refine R.build C U U U K209 U A209 Kr .nil<|Rs Z B209 Y V (.here (.here (.here (.here (.here (.here (.here (.here (.here Ph7)))))))))<|Ae W<|X.ret C U U func107 U (by exact(.agg U G209 B209 V (.take (.take (.take (.take (.take (.take (.take (.take (.take (.take Tk6)))))))))) (.tmp U .nil)))<|Hr hret hl2 ?_
    exact .inl ⟨by rw [e];decide,by rw [e];rfl⟩
   ·have h2:cases b≠ []:=by simpa using h2
    have e:openH b h=0:=by rw [openH,if_neg (fun e=>e hh),if_neg (fun e=>e h1),if_neg h2]
    refine Xz<|Xu W<|R.loadAgg C U U U G209 B209 V (.take (.take (.take (.take (.take (.take (.take (.take (.take (.take Tk6))))))))))<|Rs Z B209 Y V (.here (.here (.here (.here (.here (.here (.here (.here (.here Ph7)))))))))<|Ae W<|X.ret C U U func107 U (by exact(.agg U G209 B209 V (.take (.take (.take (.take (.take (.take (.take (.take (.take (.take Tk6)))))))))) (.tmp U .nil)))<|Hr hret hl2 ?_
    exact .inr ⟨e,_,hp2,rfl⟩
theorem by_c(hl:LsI ro w l):CallR prog J (fnv 108) [w] ro (fun v ro'=>∃p,∃t fq,ro' p=some (.cells [w].toArray t fq)∧v= .func (.func 194) #[] [.pointer (some ⟨p,0,none⟩)].toArray):=by
 obtain⟨lb,lc,rfl⟩:=hl.form
 refine ER 4 hJ func108 W fun c cs tail hret C=>Xu W<|Bx Z fun p1=>Ae W<|Xv<|X.persist C.1 fun ro1 hl1 hps=>Xg W<|R.makeFunc C U U U U<|Ae W<|Xw func108<|Hr hret hl1 ?_
 exact⟨_,_,_,hps,rfl⟩
theorem by1_c{v:Value}(hv:BkV ro v b)(hl:LsI ro w l)(hn:l.length≤1000)(hc: -1000≤b.casks∧b.casks≤1000){p:Nat}{t:TypeId}{fq:Nat×Nat}(hp:ro p=some (.cells [w].toArray t fq)):CallP prog J (.func (.func 194) #[] [.pointer (some ⟨p,0,none⟩)].toArray) [v] ro (.int .i64 (b.planH l)):=by
 have hv0:=hv
 obtain⟨mb,mc,sb,sc,kb,kc,rfl,hbp,hmc⟩:=hv.all
 refine CallP.introC hJ Kr fun c cs tail hret=>enter_X (n:=7) func194 U U (Nl U) ?_
 have C:Ctx prog main J (bf 194 .normal):=⟨hJ,by decide⟩
 refine Xu W<|Bx Z fun p2=>Ae W<|Xu W<|R.loadAgg C U U U G206 B206 V (.take (.take (.take (.take (.take (.take (.take (.take (.take Tk6)))))))))<|Lo Y G58 hp U<|Cp Z (planned_c hJ hv0 hl hn hc)<|Hq W func194 hret ?_
 rfl
end Go.Lg.Be
namespace Go.Lg.Be
open Go Go.Conc Go.Lg Go.Proofs Go.Lg.B Go.Proofs.Tryz
theorem eqI9:IntT prog 9999 3 1 false:=IntT.int A3
theorem eqI8:IntT prog 9998 3 1 false:=IntT.int A3
theorem eqA214:IntT prog 9999 214 3 true:=IntT.array (m:=1) A214 B3 G3 (fun _=>rfl) eqI8
theorem eqA216:IntT prog 10000 216 4 true:=IntT.struct A216 Kr (.cons Dd rfl B3 G3 (fun _=>rfl) eqI9 (.cons Dd rfl B214 isAgg214 (fun h=>nomatch h) eqA214 .nil))
theorem ckA216:CheckT prog 10000 216 4 true:=CheckT.structM A216 (by
 intro f hf
 simp only [List.mem_cons,List.not_mem_nil,or_false] at hf
 rcases hf with rfl|rfl
 ·exact⟨_,_,G3,B3,CheckT.int A3,by decide,fun _=>rfl⟩
 ·exact⟨_,_,isAgg214,B214,CheckT.array (m:=1) A214 B3 G3 (fun _=>rfl) (CheckT.int A3),by decide,fun h=>nomatch h⟩)
theorem bad_nn(b:Bk)(u:Int)(p:Nat):0≤bad b u p∧bad b u p≤1+b.mins.toNat:=by
 have:=findA_in (fun n=>decide (dry b n<b.least)) (play b u p)
 rw [play_len] at this
 unfold bad;omega
def Cs.ok(c:Cs):Prop:=(0≤c.1∧c.1≤99)∧c.2.length≤3∧∀i,0≤c.2.getD i 0∧c.2.getD i 0≤99
variable {main:Bool}{J:Goroutine→Mem→Prop}(hJ:Closed prog main J)
include hJ
theorem surely_c{b:Bk}{vm vs vk vl:Value}{ro:RO}(hp:BkP ro b vm vs vk)(hb:b.good){L:List Cs}(hl:LsA ro vl L)(hn:L.length≤1000)(hok:∀c∈L,c.ok){p:Nat}(hp512:p<512):
  CallR prog J (fnv 109) [.agg (bc b [vm,vs,vk,vl]).toArray, .int .i64 (p:Int)] ro (fun w _=>w= .bool (sureAll b L p)):=by
 have hmins:=hb.mins
 have hl0:=hl
 obtain⟨lb,lc,rfl⟩:=hl.form
 refine ER 32 hJ func109 W fun c cs tail hret C=>Xu W<|Bx Z fun p2=>Ae W<|Xu W<|R.makeMap C U U  fun p9=>Ae W<|Xx W<|Rv 15 W A209 U B207<|Rj W G207 V U<|Rt W A207<|Ro W<|Rz<|Xb<|X.loopI (ι:=Nat×RO×List (List Int)) C.1 (fun s=>s.1≤L.length∧ro.le s.2.1∧(∀k∈s.2.2,k.length=4∧∃u,k= [u,0,0,0]∧bad b u p=0)∧sureAll b (L.take s.1) p=true)
  (fun s=> [(5, .map (some p9)),(11, .slice lb L.length lc),(12, .int .i64 (L.length:Int)),(13, .int .i64 (s.1:Int)),(1, .int .i64 (p:Int)),(2, .pointer (some ⟨p2,0,none⟩))])
  (fun s=>⟨s.2.1,(p9,setObj_ s.2.2)::(p2, .cells (bc b [vm,vs,vk, .slice lb L.length lc]).toArray 209 (0,0))::tail⟩) (fun s=>L.length-s.1) (0,ro, []) ⟨Nat.zero_le _,RO.le_refl _,fun _ h=>(List.not_mem_nil h).elim,rfl⟩ rfl ⟨U,U,U,U,U,U,trivial⟩ fun s hs' hnext=>?_
 obtain⟨i,ro1,keys⟩:=s
 obtain⟨hi,hle1,hkeys,hsure⟩:=hs'
 simp only at hi hle1 hkeys hsure hnext⊢
 refine Xu W<|Ri Z b_lss<|Rz<|Xv<|Xj U (fun hlt=>?_) (fun hlt=>?_)
 ·have hi':i<L.length:=O
  obtain⟨pp,off,cap,l,t,fq,hsl,hrop,hsub⟩:=(hl0.mono hle1).at ha_len O
  cases hsl
  have hsi:=hsub i hi'
  have hco:=hok _ (List.getElem_mem hi')
  have hall:sureAll b L p=true→bad b (used L[i]) p=0:=fun h=>by
   unfold sureAll at h
   rw [List.all_eq_true] at h
   simpa using h _ (List.getElem_mem hi')
  have hst:sureAll b (L.take (i+1)) p=(sureAll b (L.take i) p && (bad b (used L[i]) p==0)):=by
   unfold sureAll
   rw [List.take_succ_eq_append_getElem hi',List.all_append];simp
  generalize L[i]=co at hsi hco hall hst
  obtain⟨hc1,hc2,hc3⟩:=hco
  obtain⟨w1,w2,w3,m1⟩:=pad_lit hc2
  have m3:ha co= [.int .i64 co.1, .int .i64 w1, .int .i64 w2, .int .i64 w3]:=by rw [ha_eq hc2,m1];rfl
  have hw:∀j,0≤([w1,w2,w3]:List Int).getD j 0∧([w1,w2,w3]:List Int).getD j 0≤99:=fun j=>by rw [←m1,getD_pad];exact hc3 j
  have b1:0≤w1∧w1≤99:=hw 0
  have b2:0≤w2∧w2≤99:=hw 1
  have b3:0≤w3∧w3≤99:=hw 2
  have hus:used (co.1, [w1,w2,w3])=used co:=by rw [←m1,used_pad]
  rw [m3] at hsi
  have hul:used co=co.1+w1+w2+w3:=by rw [←hus];rfl
  have hbn:=bad_nn b (used co) p
  have hbad:=bad_c hJ (v:= .agg (bkL b vm vs vk).toArray) (ro:=ro1) ⟨_,_,_,rfl,hp.mono hle1⟩ hb hc1 b1 b2 b3 hp512
  rw [hus] at hbad
  have husc:=used_c hJ (n:=co.1) (w1:=w1) (w2:=w2) (w3:=w3) O O O O ro1
  rw [hus] at husc
  have hks:∀x∈keys,x.length=4:=fun x hx=>(hkeys x hx).1
  generalize used co=u at hall hst hbn hbad husc
  refine Xz<|Xv<|Xb<|Xu W<|Ry Y A207 B216<|La Y G216 B216 hrop hsi<|Al W K216 U fun p7=>Rs Z B216 Y V Ph4<|Rz<|Xu W<|Rq W G216 B216 V Tk4<|Cp Z (husc) ?_;refine R.build C U U U K216 U A216 Kr (Fills.part U U B3 U (.here .nil) .nil)<|Al W K216 U fun p8=>Rs Z B216 Y V Ph4<|Rz<|Xx W<|Ro W<|Rq W G216 B216 V Tk4<|R.lookupSet (key:= [u,0,0,0]) C U U U U runUnderlying319 A216 K4 eqA216 ckA216 U hks V<|Zc U (fun hr=>?_) (fun hr=>?_)
  ·have hr: [u,0,0,0]∈keys:=by simpa using hr
   obtain⟨_,u',e,hu0⟩:=hkeys _ hr
   obtain rfl:u=u':=by injection e
   refine Xe U<|Xg W<|Rb Y<|Ro W<|Rz<|X.drop C.1 (own':=_::_::tail) (.cons _ (List.sublist_cons_self _ _))<|X.weaken ?_ (hnext (i+1,ro1,keys) ⟨hi',hle1,hkeys,by rw [hst,hsure,hu0];rfl⟩ (by simp only;omega))
   exact⟨rfl,rfl,rfl,by simp [look],rfl,rfl,trivial⟩
  ·have hr: [u,0,0,0]∉keys:=by simpa using hr
   refine Xz<|Xm W W<|Rq W G216 B216 V Tk4<|R.insertSet (key:= [u,0,0,0]) C U U U U runUnderlying319 A216 eqA216 ckA216 U hks hr V<|Rz<|Xu W<|Rv 0 W A209 U B206<|R.loadAgg C U U U G206 B206 V (.take (.take (.take (.take (.take (.take (.take (.take (.take Tk6)))))))))<|Rq W G216 B216 V Tk4<|Ro W<|R.callR C U U U U (hbad) fun v7 ro7 hl7 hq7=>?_
   subst hq7
   refine Ri Z b_gtr<|Zc U (fun hg=>?_) (fun hg=>?_)
   ·have hg:0<bad b u p:=by simpa using hg
    refine Xo W W<|Xw func109<|Hr hret (RO.le_trans hle1 hl7) ?_
    have:sureAll b L p=false:=by
     rw [Bool.eq_false_iff]
     intro h
     have:=hall h;omega
    rw [this];rfl
   ·have hg:bad b u p=0:=by simp at hg;omega
    refine Xz<|Xi<|Xg W<|Rb Y<|Ro W<|Rz<|X.drop C.1 (own':=_::_::tail) (.cons _ (List.sublist_cons_self _ _))<|X.weaken ?_ (hnext (i+1,ro7,keys++ [[u,0,0,0]]) ⟨hi',RO.le_trans hle1 hl7,fun k hk=>?_,by rw [hst,hsure,hg];rfl⟩ (by simp only;omega))
    ·exact⟨rfl,rfl,rfl,by simp [look],rfl,rfl,trivial⟩
    ·rcases List.mem_append.1 hk with h|h
     ·exact hkeys k h
     ·rw [List.mem_singleton.1 h];exact⟨rfl,u,rfl,hg⟩
 ·obtain rfl:i=L.length:=by omega
  rw [List.take_length] at hsure
  refine Xe U<|Xo W W<|Xw func109<|Hr hret hle1 ?_
  rw [hsure];rfl
end Go.Lg.Be
namespace Go.Lg.Be
open Go Go.Conc Go.Lg Go.Proofs Go.Lg.B Go.Proofs.Tryz
theorem crewOf_succ(n mask:Nat):crewOf (n+1) mask=crewOf n mask++if mask.testBit n then [(n:Int)] else []:=by
 unfold crewOf
 rw [List.range_succ,List.filter_append,List.map_append]
 congr 1
 by_cases h:mask.testBit n<;>simp [h]
theorem crewOf_in{n mask:Nat}:∀x∈crewOf n mask,0≤x∧x<n:=fun x hx=>by
 obtain⟨i,hi,rfl⟩:=List.mem_map.1 hx
 have:=List.mem_range.1 (List.mem_filter.1 hi).1
 omega
def partOf(crew:List Int)(w:List Int):List Int:=(List.range 3).map fun i:Nat=>if(i:Int)∈crew then w.getD i 0 else 0
theorem partOf_len(crew w:List Int):(partOf crew w).length=3:=by simp [partOf]
theorem partOf_snoc(crew w:List Int){x:Int}(hx:0≤x∧x<3):partOf (crew++ [x]) w=(partOf crew w).set x.toNat (w.getD x.toNat 0):=by
 apply List.ext_getElem
 ·simp [partOf]
 ·intro i h1 h2
  have hi:i<3:=by simpa [partOf] using h1
  rw [List.getElem_set]
  by_cases e:x.toNat=i
  ·subst e
   have:((x.toNat:Nat):Int)=x:=O
   simp [partOf,this]
  ·have hne:¬(i:Int)=x:=O
   simp [partOf,e,hne]
theorem alone_ok{crew:List Int}{c:Cs}(h:c.ok):(alone crew c).ok:=by
 refine⟨h.1,by simp [alone],fun i=>?_⟩
 simp only [alone]
 rw [List.getD_eq_getElem?_getD]
 by_cases hi:i<3
 ·rw [List.getElem?_eq_getElem (by simpa using hi)]
  simp only [List.getElem_map,List.getElem_range,Option.getD_some]
  split
  ·exact h.2.2 i
  ·omega
 ·rw [List.getElem?_eq_none (by simpa using hi)];simp
theorem ha_alone(crew:List Int)(c:Cs):ha (alone crew c)=airL c.1 (partOf crew c.2):=by
 rw [ha_eq (by simp [alone])]
 have:pad 3 (alone crew c).2=partOf crew c.2:=by
  have:(alone crew c).2.length=3:=by simp [alone]
  unfold pad
  rw [this]
  simp [alone,partOf]
 rw [this];rfl
theorem air_at{n:Int}{ws:List Int}{i:Nat}(h:i<ws.length):(airL n ws)[1+i*1]? =some (.int .i64 (ws.getD i 0)):=by
 rw [Nat.add_comm]
 simp [airL,ints,List.getD_eq_getElem?_getD,h]
variable {main:Bool}{J:Goroutine→Mem→Prop}(hJ:Closed prog main J)
include hJ
theorem crew_c{b:Bk}{v w:Value}{l:List Int}{ro:RO}(he:Env ro)(hv:BkV ro v b)(hs:b.short)(hl:LsI ro w l)(hn:l.length≤100):
  CallR prog J (fnv 31) [v,w] ro (fun z _=>∃ (base:Option Addr) (m cap:Nat) (found:Bool),z= .tuple [.slice base m cap, .bool found, .int .i64 (openH b (b.planH l))].toArray∧(openH b (b.planH l)=0→CrewIs b (cases b) (planI l) m found∧m≤3)):=by
 have hl0:=hl
 obtain⟨pb,pc,rfl⟩:=hl.form
 obtain⟨mb,mc,sb,sc,kb,kc,rfl,hp,hmc⟩:=hv.all
 refine ER 116 hJ func31 W fun c cs tail hret C=>Xu W<|Bx Z fun p2=>Rg Y<|Rg Y<|Ae W<|Xv<|X.afterI (ι:=Nat×RO×List Value×Int) (fun s=>ro.le s.2.1∧((openH b (b.planH l)≠0∧s.2.2.1=noOpen∧s.2.2.2=openH b (b.planH l))∨(openH b (b.planH l)=0∧s.2.2.2=0∧∃vl,LsA s.2.1 vl (cases b)∧s.2.2.1=(bs b mb mc sb sc kb kc [vl])))) (fun s=> [(6, .int .i64 s.2.2.2),(7, .pointer (some ⟨s.1,0,none⟩)),(2, .pointer (some ⟨p2,0,none⟩)),(1, .slice pb l.length pc),(4, .slice none 0 0),(5, .bool false)])
  (fun s=>⟨s.2.1,(s.1, .cells s.2.2.1.toArray 209 (0,0))::(p2, .cells (bs b mb mc sb sc kb kc []).toArray 81 (0,0))::tail⟩) (fun s hsx=>?_) (fun hcont=>?_)
 rotate_left
 ·have _:=hn
  refine Xf fun hok=>D5 C 0 hok U U G81 B81 V (.take (.take (.take (.take (.take (.take (.take (.take (.take Tk6)))))))))<|Dt 1 Y<|D.eP2 (i:=2) (i':=7) (dst:=(some 20)) (dst':=(some 7)) [true] [true] hok U U Kr Kr Kr (fun _ _ A hk=>?_) (fun _ _ A hk=>?_)
  ·
   refine R.callR C U (A.w U U) (A.x U U) (A.s U U) (by_c hJ hl0) fun v1 ro1 hl1 hq1=>hk _ _ ⟨(QFs.cons (QF.of U (fun _ _ A h=>R.loadAgg C U (A.w U U) (A.x U U) G81 B81 V (.take (.take (.take (.take (.take (.take (.take (.take (.take Tk6))))))))) h)) QFs.nil), ?_⟩
   refine D.eP2 (i:=3) (i':=7) (dst:=(some 21)) (dst':=(some 7)) [false] [true] hok U U Kr Kr Kr (fun _ _ A hk=>?_) (fun _ _ A hk=>?_)
   ·
    refine R.callR C U (A.w U U) (A.x U U) (A.s U U) ((open_c hJ (he.mono hl1) (hp.mono hl1) hs (h:=b.planH l) (fv:=v1) fun hc0=>by obtain⟨_,_,_,hp0,rfl⟩:=hq1;exact by1_c hJ ⟨_,_,_,rfl,hp.mono hl1⟩ (hl0.mono hl1) O (by have:=(good_of hc0).casks;omega) hp0)) fun v2 ro2 hl2 hq2=>hk _ _ ⟨QFs.nil, ?_⟩
    rcases hq2 with⟨h0,rfl⟩|⟨h0,vl,hls,rfl⟩
    ·
     unfold noOpen
     refine Dt 4 Y<|Dp 5 hok (fun _ _ _ A h=>R.ext C U (A.w U U) (A.x U U) U h)<|Dp 6 hok (fun _ _ _ A h=>R.ext C U (A.w U U) (A.x U U) U h)<|De 7 (some 7) [] hok (fun _ _ A hk=>?_)
     refine R.alloc C U (A.w U U) K209 U fun p7=>hk _ _ ⟨QFs.nil, ?_⟩
     refine De 8 none [] hok (fun _ _ A hk=>?_)
     refine R.store C U (A.w U U) (A.x U U) (A.x U U) B209 U U U V (.here (.here (.here (.here (.here (.here (.here (.here (.here Ph7))))))))) (hk undef _ ⟨QFs.nil, ?_⟩)
     refine Da C 9 hok U U<|Dn<|X.weaken ?_ (hcont (p7,ro2,_,_) ⟨RO.le_trans hl1 hl2, .inl ⟨h0,rfl,rfl⟩⟩)
     exact⟨U,U,U,U,U,U,trivial⟩
    ·
     obtain⟨lb,lc,rfl⟩:=hls.form
     refine Dt 4 Y<|Dp 5 hok (fun _ _ _ A h=>R.ext C U (A.w U U) (A.x U U) U h)<|Dp 6 hok (fun _ _ _ A h=>R.ext C U (A.w U U) (A.x U U) U h)<|De 7 (some 7) [] hok (fun _ _ A hk=>?_)
     refine R.alloc C U (A.w U U) K209 U fun p7=>hk _ _ ⟨QFs.nil, ?_⟩
     refine De 8 none [] hok (fun _ _ A hk=>?_)
     refine R.store C U (A.w U U) (A.x U U) (A.x U U) B209 U U U V (.here (.here (.here (.here (.here (.here (.here (.here (.here Ph7))))))))) (hk undef _ ⟨QFs.nil, ?_⟩)
     refine Da C 9 hok U U<|Dn<|X.weaken ?_ (hcont (p7,ro2,_,_) ⟨RO.le_trans hl1 hl2, .inr ⟨h0,rfl,_,hls,rfl⟩⟩)
     exact⟨U,U,U,U,U,U,trivial⟩
   ·
    refine R.alloc C U (A.w U U) K209 U fun p7=>hk _ _ ⟨(QFs.cons (QF.of U (fun _ _ A h=>R.loadAgg C U (A.w U U) (A.x U U) G81 B81 V (.take (.take (.take (.take (.take (.take (.take (.take (.take Tk6))))))))) h)) QFs.nil), ?_⟩
    refine De 3 (some 21) [false] hok (fun _ _ A hk=>?_)
    refine R.callR C U (A.w U U) (A.x U U) (A.s U U) ((open_c hJ (he.mono hl1) (hp.mono hl1) hs (h:=b.planH l) (fv:=v1) fun hc0=>by obtain⟨_,_,_,hp0,rfl⟩:=hq1;exact by1_c hJ ⟨_,_,_,rfl,hp.mono hl1⟩ (hl0.mono hl1) O (by have:=(good_of hc0).casks;omega) hp0)) fun v2 ro2 hl2 hq2=>hk _ _ ⟨QFs.nil, ?_⟩
    rcases hq2 with⟨h0,rfl⟩|⟨h0,vl,hls,rfl⟩
    ·
     unfold noOpen
     refine Dt 4 Y<|Dp 5 hok (fun _ _ _ A h=>R.ext C U (A.w U U) (A.x U U) U h)<|Dp 6 hok (fun _ _ _ A h=>R.ext C U (A.w U U) (A.x U U) U h)<|De 8 none [] hok (fun _ _ A hk=>?_)
     refine R.store C U (A.w U U) (A.x U U) (A.x U U) B209 U U U V (.here (.here (.here (.here (.here (.here (.here (.here (.here Ph7))))))))) (hk undef _ ⟨QFs.nil, ?_⟩)
     refine Da C 9 hok U U<|Dn<|X.weaken ?_ (hcont (p7,ro2,_,_) ⟨RO.le_trans hl1 hl2, .inl ⟨h0,rfl,rfl⟩⟩)
     exact⟨U,U,U,U,U,U,trivial⟩
    ·
     obtain⟨lb,lc,rfl⟩:=hls.form
     refine Dt 4 Y<|Dp 5 hok (fun _ _ _ A h=>R.ext C U (A.w U U) (A.x U U) U h)<|Dp 6 hok (fun _ _ _ A h=>R.ext C U (A.w U U) (A.x U U) U h)<|De 8 none [] hok (fun _ _ A hk=>?_)
     refine R.store C U (A.w U U) (A.x U U) (A.x U U) B209 U U U V (.here (.here (.here (.here (.here (.here (.here (.here (.here Ph7))))))))) (hk undef _ ⟨QFs.nil, ?_⟩)
     refine Da C 9 hok U U<|Dn<|X.weaken ?_ (hcont (p7,ro2,_,_) ⟨RO.le_trans hl1 hl2, .inr ⟨h0,rfl,_,hls,rfl⟩⟩)
     exact⟨U,U,U,U,U,U,trivial⟩
  ·
   refine R.alloc C U (A.w U U) K209 U fun p7=>hk _ _ ⟨(QFs.cons (QF.of U (fun _ _ A h=>R.loadAgg C U (A.w U U) (A.x U U) G81 B81 V (.take (.take (.take (.take (.take (.take (.take (.take (.take Tk6))))))))) h)) QFs.nil), ?_⟩
   refine De 2 (some 20) [true] hok (fun _ _ A hk=>?_)
   refine R.callR C U (A.w U U) (A.x U U) (A.s U U) (by_c hJ hl0) fun v1 ro1 hl1 hq1=>hk _ _ ⟨(QFs.cons (QF.of U (fun _ _ A h=>R.loadAgg C U (A.w U U) (A.x U U) G81 B81 V (.take (.take (.take (.take (.take (.take (.take (.take (.take Tk6))))))))) h)) QFs.nil), ?_⟩
   refine De 3 (some 21) [false] hok (fun _ _ A hk=>?_)
   refine R.callR C U (A.w U U) (A.x U U) (A.s U U) ((open_c hJ (he.mono hl1) (hp.mono hl1) hs (h:=b.planH l) (fv:=v1) fun hc0=>by obtain⟨_,_,_,hp0,rfl⟩:=hq1;exact by1_c hJ ⟨_,_,_,rfl,hp.mono hl1⟩ (hl0.mono hl1) O (by have:=(good_of hc0).casks;omega) hp0)) fun v2 ro2 hl2 hq2=>hk _ _ ⟨QFs.nil, ?_⟩
   rcases hq2 with⟨h0,rfl⟩|⟨h0,vl,hls,rfl⟩
   ·
    unfold noOpen
    refine Dt 4 Y<|Dp 5 hok (fun _ _ _ A h=>R.ext C U (A.w U U) (A.x U U) U h)<|Dp 6 hok (fun _ _ _ A h=>R.ext C U (A.w U U) (A.x U U) U h)<|De 8 none [] hok (fun _ _ A hk=>?_)
    refine R.store C U (A.w U U) (A.x U U) (A.x U U) B209 U U U V (.here (.here (.here (.here (.here (.here (.here (.here (.here Ph7))))))))) (hk undef _ ⟨QFs.nil, ?_⟩)
    refine Da C 9 hok U U<|Dn<|X.weaken ?_ (hcont (p7,ro2,_,_) ⟨RO.le_trans hl1 hl2, .inl ⟨h0,rfl,rfl⟩⟩)
    exact⟨U,U,U,U,U,U,trivial⟩
   ·
    obtain⟨lb,lc,rfl⟩:=hls.form
    refine Dt 4 Y<|Dp 5 hok (fun _ _ _ A h=>R.ext C U (A.w U U) (A.x U U) U h)<|Dp 6 hok (fun _ _ _ A h=>R.ext C U (A.w U U) (A.x U U) U h)<|De 8 none [] hok (fun _ _ A hk=>?_)
    refine R.store C U (A.w U U) (A.x U U) (A.x U U) B209 U U U V (.here (.here (.here (.here (.here (.here (.here (.here (.here Ph7))))))))) (hk undef _ ⟨QFs.nil, ?_⟩)
    refine Da C 9 hok U U<|Dn<|X.weaken ?_ (hcont (p7,ro2,_,_) ⟨RO.le_trans hl1 hl2, .inr ⟨h0,rfl,_,hls,rfl⟩⟩)
    exact⟨U,U,U,U,U,U,trivial⟩
 obtain⟨p7,ro2,L,hh⟩:=s
 obtain⟨k2,hsx⟩:=hsx
 simp only at k2 hsx⊢
 rcases hsx with⟨h0,rfl,rfl⟩|⟨h0,rfl,vl,hls,rfl⟩
 ·
  unfold noOpen
  refine Xx W<|Ro W<|Ri Z b_neq<|Zc U (fun hq=>?_) (fun hq=>?_)
  ·refine Xm W W<|Rg Y<|Rg Y<|Ae W<|X.ret C U U func31 U (by exact(.tmp U (.tmp U (.tmp U .nil))))<|Hr hret k2 ?_
   exact⟨_,_,_,_,rfl,fun e=>absurd e h0⟩
  ·simp at hq;contradiction
 ·
  obtain⟨hch,hpl,hne⟩:=openH_good h0
  have hb:=good_of hch
  have hnm:=hb.nm
  have hmins:=hb.mins
  have hin:∀n∈l,1≤n∧n≤8:=fun n hn=>by have:=(planGo_in hpl).2 n hn;omega
  have h512:=planI_lt hin
  have hcl:=cases_le hb
  have hcok:∀c∈cases b,c.ok:=fun c hc=>⟨(case_in hb hc).1,by rw [case_len hc];exact hnm,(case_in hb hc).2⟩
  have hls0:=hls
  obtain⟨lb,lc,rfl⟩:=hls.form
  refine Xx W<|Ro W<|Ri Z b_neq<|Zc U (fun hq=>?_) (fun hq=>?_)
  ·simp at hq
  ·refine Xz<|Xx W<|Rv 12 W A81 U B78<|Rj W G78 V U<|Rt W A78<|R.shift C U U U U (b_shlN O O)<|Ro W<|Rz<|Xb ?_
   have hpow:2^b.ms.length≤8:=by
    have:2^b.ms.length≤2^3:=Nat.pow_le_pow_right Dd hnm
    omega
   refine X.loopI (ι:=Nat×RO×Value×List Int×Bool) C.1 (fun s=>s.1≤2^b.ms.length∧ro2.le s.2.1∧LsI s.2.1 s.2.2.1 s.2.2.2.1∧s.2.2.2.1.length≤3∧(∀mask,mask<s.1→crewOk b (cases b) (planI l) mask=true→s.2.2.2.2=true∧(crewOf b.ms.length mask).length≤s.2.2.2.1.length)∧(s.2.2.2.2=true→∃mask,mask<2^b.ms.length∧crewOk b (cases b) (planI l) mask=true∧s.2.2.2.1.length=(crewOf b.ms.length mask).length))
    (fun s=> [(30, .int .i64 ((2^b.ms.length:Nat):Int)),(31, .int .i64 (s.1:Int)),(4,s.2.2.1),(5, .bool s.2.2.2.2),(7, .pointer (some ⟨p7,0,none⟩)),(2, .pointer (some ⟨p2,0,none⟩)),(1, .slice pb l.length pc)])
    (fun s=>⟨s.2.1,(p7, .cells (bs b mb mc sb sc kb kc [.slice lb (cases b).length lc]).toArray 209 (0,0))::(p2, .cells (bs b mb mc sb sc kb kc []).toArray 81 (0,0))::tail⟩) (fun s=>2^b.ms.length-s.1) (0,ro2, .slice none 0 0, [],false) ⟨Nat.zero_le _,RO.le_refl _, .nil,Nat.zero_le _,fun mask h=>absurd h (Nat.not_lt_zero _),fun h=>nomatch h⟩ rfl ⟨U,U,U,U,U,U,U,trivial⟩ fun s hs' hnext=>?_
   obtain⟨i,ro3,vmen,men,found⟩:=s
   obtain⟨hi,hl3,hmen,hmen3,hi1,hi2⟩:=hs'
   simp only at hi hl3 hmen hmen3 hi1 hi2 hnext⊢
   obtain⟨meb,mec,rfl⟩:=hmen.form
   refine Xu W<|Ri Z b_lss<|Rz<|Xv<|Xj U (fun hlt=>?_) (fun hlt=>?_)
   ·have hi':i<2^b.ms.length:=O
    refine Xz<|Xv<|Xb<|Xm W W<|Ae W<|Xo W W<|Xu W<|Rv 0 W A209 U B206<|R.loadAgg C U U U G206 B206 V (.take (.take (.take (.take (.take (.take (.take (.take (.take Tk6))))))))) ?_;refine R.build C U U U K209 U A209 Kr (Fills.part U U B206 U (.here (.here (.here (.here (.here (.here (.here (.here Ph7)))))))) .nil)<|Al W K209 U fun p10=>Rs Z B209 Y V (.here (.here (.here (.here (.here (.here (.here (.here (.here Ph7)))))))))<|Rz<|Xx W<|Rv 12 W A81 U B78<|Rj W G78 V U<|Rt W A78<|Ro W<|Rz<|Xb<|X.loopI (ι:=Nat×Value×List (Nat×Obj)) C.1 (fun s=>s.1≤b.ms.length∧Buf 3 1 [] s.2.1 ((crewOf s.1 i).flatMap ic) s.2.2)
     (fun s=> [(39, .int .i64 (b.ms.length:Int)),(40, .int .i64 (s.1:Int)),(9,s.2.1),(8, .int .i64 (i:Int)),(10, .pointer (some ⟨p10,0,none⟩)),(30, .int .i64 ((2^b.ms.length:Nat):Int)),(31, .int .i64 (i:Int)),(4, .slice meb men.length mec),(5, .bool found),(7, .pointer (some ⟨p7,0,none⟩)),(2, .pointer (some ⟨p2,0,none⟩)),(1, .slice pb l.length pc)])
     (fun s=>⟨ro3,s.2.2++((p10, .cells (bs b mb mc sb sc kb kc [.slice none 0 0]).toArray 209 (0,0))::(p7, .cells (bs b mb mc sb sc kb kc [.slice lb (cases b).length lc]).toArray 209 (0,0))::(p2, .cells (bs b mb mc sb sc kb kc []).toArray 81 (0,0))::tail)⟩) (fun s=>b.ms.length-s.1) (0, .slice none 0 0, []) ⟨Nat.zero_le _, .nil⟩ rfl ⟨U,U,U,U,U,U,U,U,U,U,U,U,trivial⟩ fun s hs' hnext2=>?_
    obtain⟨j,v9,own9⟩:=s
    obtain⟨hj,hbuf⟩:=hs'
    simp only at hj hbuf hnext2⊢
    refine Xu W<|Ri Z b_lss<|Rz<|Xv<|Xj U (fun hlt2=>?_) (fun hlt2=>?_)
    ·have hj':j<b.ms.length:=O
     have hcs:=crewOf_succ j i
     have hfl:=flat_len (crewOf j i)
     have hcle:=crewOf_le j i
     refine Xz<|Xv<|Xb<|Xm W W<|Ae W<|Xm W W<|Ro W<|R.shift C U U U U (b_shrN O O)<|Ri Z (b_and1 (Nat.lt_of_le_of_lt (Nat.shiftRight_le _ _) O))<|Ri Z b_eql<|Zc U (fun hbit=>?_) (fun hbit=>?_)
     ·rw [bit_one] at hbit
      have hbit:i.testBit j=true:=hbit
      rw [hbit] at hcs
      refine Xg W<|Oo W W<|R.buildSlice C (vs:=_) U U (show pvals _ _=some (numbered 0 [_]) from rfl) U A58 B3 K3 Dd (Cat.one U U) fun p50=>R.append1 (kk:=1) C U U U U A58 A58 (fun _=>nofun) (show prog.info? 3=some Tryz.t3 by kernel_rfl) U U U Dd Dd (hbuf.app _) U U (by simp only [List.length_append,List.length_cons,List.length_nil];omega) fun v' own' hb'=>Ae W<|Xi<|Xg W<|Rb Y<|Ro W<|Rz ?_
      obtain⟨own4,rfl,hb4⟩:=hb'.unapp
      refine X.weaken ?_ (hnext2 (j+1,v',own4) ⟨hj', ?_⟩ (by simp only;omega))
      ·exact⟨rfl,by simp [look],rfl,rfl,rfl,rfl,rfl,rfl,rfl,rfl,rfl,rfl,trivial⟩
      ·simp only [if_true] at hcs
       rw [hcs,List.flatMap_append];exact hb4
     ·rw [bit_one] at hbit
      have hbit:i.testBit j=false:=hbit
      rw [hbit] at hcs
      simp only [Bool.false_eq_true,if_false,List.append_nil] at hcs
      refine Xz<|Xi<|Xg W<|Rb Y<|Ro W<|Rz<|X.weaken ?_ (hnext2 (j+1,v9,own9) ⟨hj',by rw [hcs];exact hbuf⟩ (by simp only;omega))
      exact⟨rfl,by simp [look],rfl,rfl,rfl,rfl,rfl,rfl,rfl,rfl,rfl,rfl,trivial⟩
    ·obtain rfl:j=b.ms.length:=by omega
     refine Xe U<|Xv<|Xv<|X.finish C.1 ic_len Dd (hbuf.app _) fun ro4 hl4 hcrew=>?_
     have hcrew0:=hcrew
     have hcin:=crewOf_in (n:=b.ms.length) (mask:=i)
     have hcle:=crewOf_le b.ms.length i
     have hokD:crewOk b (cases b) (planI l) i=sureAll b ((cases b).map (alone (crewOf b.ms.length i))) (planI l):=rfl
     generalize hcrewE:crewOf b.ms.length i=crew at hcrew hcrew0 hcin hcle hokD
     obtain⟨cwb,cwc,rfl⟩:=hcrew.form
     have k4:=RO.le_trans hl3 hl4
     refine Xg W<|Rv 15 W A209 U B207<|Rj W G207 V U<|Rt W A207<|Ro W<|Rz<|Xb<|X.loopI (ι:=Nat×Value×List (Nat×Obj)) C.1 (fun s=>s.1≤(cases b).length∧Buf 216 4 ((p7, .cells (bs b mb mc sb sc kb kc [.slice lb (cases b).length lc]).toArray 209 (0,0))::(p2, .cells (bs b mb mc sb sc kb kc []).toArray 81 (0,0))::tail) s.2.1 ((((cases b).map (alone crew)).take s.1).flatMap ha) s.2.2)
      (fun s=> [(54, .slice lb (cases b).length lc),(55, .int .i64 ((cases b).length:Int)),(56, .int .i64 (s.1:Int)),(9, .slice cwb crew.length cwc),(10, .pointer (some ⟨p10,0,none⟩)),(30, .int .i64 ((2^b.ms.length:Nat):Int)),(31, .int .i64 (i:Int)),(4, .slice meb men.length mec),(5, .bool found),(7, .pointer (some ⟨p7,0,none⟩)),(2, .pointer (some ⟨p2,0,none⟩)),(1, .slice pb l.length pc)])
      (fun s=>⟨ro4,(p10, .cells (bs b mb mc sb sc kb kc [s.2.1]).toArray 209 (0,0))::s.2.2⟩) (fun s=>(cases b).length-s.1) (0, .slice none 0 0,_) ⟨Nat.zero_le _, .nil⟩ rfl ⟨U,U,U,U,U,U,U,U,U,U,U,U,trivial⟩ fun s hs' hnext3=>?_
     obtain⟨k,vall,ownA⟩:=s
     obtain⟨hk,hbufA⟩:=hs'
     simp only at hk hbufA hnext3⊢
     refine Xu W<|Ri Z b_lss<|Rz<|Xv<|Xj U (fun hlt3=>?_) (fun hlt3=>?_)
     ·have hk':k<(cases b).length:=O
      obtain⟨pp,off,cap,ll,t,fq,hsl,hrop,hsub⟩:=(hls0.mono k4).at ha_len O
      cases hsl
      have hsi:=hsub k hk'
      have hco:=hcok _ (List.getElem_mem hk')
      have htk:((cases b).map (alone crew)).take (k+1)=((cases b).map (alone crew)).take k++ [alone crew (cases b)[k]]:=by rw [List.take_succ_eq_append_getElem (by simpa using hk'),List.getElem_map]
      have hfl:((((cases b).map (alone crew)).take k).flatMap ha).length=k*4:=by rw [flatMap_len ha_len];simp;omega
      generalize(cases b)[k]=cn at hsi hco htk
      obtain⟨hc1,hc2,hc3⟩:=hco
      obtain⟨w1,w2,w3,m1⟩:=pad_lit hc2
      have m3:ha cn= [.int .i64 cn.1, .int .i64 w1, .int .i64 w2, .int .i64 w3]:=by rw [ha_eq hc2,m1];rfl
      rw [m3] at hsi
      refine Xz<|Xv<|Xb<|Xu W<|Ry Y A207 B216<|La Y G216 B216 hrop hsi<|Al W K216 U fun p13=>Rs Z B216 Y V Ph4<|Rz<|Xu W<|Rv 0 W A216 U B3<|Rj W G3 V U ?_;refine R.build C U U U K216 U A216 Kr (Fills.part U U B3 U (.here .nil) .nil)<|Al W K216 U fun p14=>Rs Z B216 Y V Ph4<|Rz<|Xx W<|Ro W<|Rt W A58<|Ro W<|Rz<|Xb<|X.loopI (ι:=Nat) C.1 (fun m=>m≤crew.length)
       (fun m=> [(63, .slice cwb crew.length cwc),(64, .int .i64 (crew.length:Int)),(65, .int .i64 (m:Int)),(13, .pointer (some ⟨p13,0,none⟩)),(14, .pointer (some ⟨p14,0,none⟩)),(54, .slice (some ⟨pp,off,none⟩) (cases b).length lc),(55, .int .i64 ((cases b).length:Int)),(56, .int .i64 (k:Int)),(9, .slice cwb crew.length cwc),(10, .pointer (some ⟨p10,0,none⟩)),(30, .int .i64 ((2^b.ms.length:Nat):Int)),(31, .int .i64 (i:Int)),(4, .slice meb men.length mec),(5, .bool found),(7, .pointer (some ⟨p7,0,none⟩)),(2, .pointer (some ⟨p2,0,none⟩)),(1, .slice pb l.length pc)])
       (fun m=>⟨ro4,(p14, .cells (airL cn.1 (partOf (crew.take m) cn.2)).toArray 216 (0,0))::(p13, .cells [.int .i64 cn.1, .int .i64 w1, .int .i64 w2, .int .i64 w3].toArray 216 (0,0))::(p10, .cells (bs b mb mc sb sc kb kc [vall]).toArray 209 (0,0))::ownA⟩) (fun m=>crew.length-m) 0 (Nat.zero_le _) (by rw [List.take_zero];rfl) ⟨U,U,U,U,U,U,U,U,U,U,U,U,U,U,U,U,U,trivial⟩ fun m hm hnext4=>?_
      refine Xu W<|Ri Z b_lss<|Rz<|Xv<|Xj U (fun hlt4=>?_) (fun hlt4=>?_)
      ·have hm':m<crew.length:=O
       obtain⟨cp,cof,ccap,cl,ct,cfq,hcsl,hcro,hcsub⟩:=hcrew0.at ic_len O
       cases hcsl
       have hat:=ic_at hcsub hm'
       have hxi:=hcin _ (List.getElem_mem hm')
       have htm:crew.take (m+1)=crew.take m++ [crew[m]]:=List.take_succ_eq_append_getElem hm'
       generalize crew[m]=x at hat hxi htm
       have hx: [Value.int .i64 cn.1, .int .i64 w1, .int .i64 w2, .int .i64 w3][1+x.toNat*1]? =some (.int .i64 (cn.2.getD x.toNat 0)):=by
        have h:=air_at (n:=cn.1) (ws:=pad 3 cn.2) (i:=x.toNat) (by rw [pad_len hc2];omega)
        rw [getD_pad,m1] at h
        exact h
       have hpu:Put (1+x.toNat*1) [.int .i64 (cn.2.getD x.toNat 0)] (airL cn.1 (partOf (crew.take m) cn.2)) (airL cn.1 ((partOf (crew.take m) cn.2).set x.toNat (cn.2.getD x.toNat 0))):=put_air (i:=x.toNat) (by rw [partOf_len];omega)
       refine Xz<|Xv<|Xb<|Xu W<|Ry Y A58 B3<|Lo Y G3 hcro hat<|Ae W<|Xg W<|Oo W W<|Rv 1 W A216 U B214<|R.indexAddrA C U U U U A214 B3 O O<|R.loadOne C U U U G3 V hx<|Rv 1 W A216 U B214<|R.indexAddrA C U U U U A214 B3 O O<|Rs Z B3 Y V hpu<|Rz<|Xi<|Xg W<|Rb Y<|Ro W<|Rz ?_
       have hgo:=hnext4 (m+1) hm' O
       rw [htm,partOf_snoc _ _ O] at hgo
       refine X.weaken ?_ hgo
       exact⟨rfl,rfl,by simp [look],rfl,rfl,rfl,rfl,rfl,rfl,rfl,rfl,rfl,rfl,rfl,rfl,rfl,rfl,trivial⟩
      ·obtain rfl:m=crew.length:=by omega
       obtain⟨z1,z2,z3,hz⟩:∃z1 z2 z3,partOf crew cn.2= [z1,z2,z3]:=by
        match h:partOf crew cn.2,partOf_len crew cn.2 with
        | [z1,z2,z3],_=>exact⟨z1,z2,z3,rfl⟩
       have hz4:airL cn.1 (partOf crew cn.2)= [.int .i64 cn.1, .int .i64 z1, .int .i64 z2, .int .i64 z3]:=by rw [hz];rfl
       rw [List.take_length,hz4]
       refine Xe U<|Xg W<|Rv 15 W A209 U B207<|Rj W G207 V U<|Rq W G216 B216 V Tk4<|R.buildSlice C (vs:=_) U U (show pvals _ _=some (numbered 0 [_]) from rfl) U A207 B216 K216 Dd (Cat.one U U) fun p80=>R.append2 (kk:=4) C [_,_,_] U U U U A207 A207 (fun _=>nofun) (show prog.info? 216=some Tryz.t216 by kernel_rfl) U U U Dd Dd hbufA U U (by(try simp only [List.length_append,List.length_cons,List.length_nil]);omega) fun v' own' hb'=>Rv 15 W A209 U B207<|R.store C U U U U B207 hb'.cells1 U hb'.ones1 V (.skip (.skip (.skip (.skip (.skip (.skip (.skip (.skip (.skip (.skip (.skip (.skip (.skip (.skip (.skip (.here .nil))))))))))))))))<|Rz<|Xi<|Xg W<|Rb Y<|Ro W<|Rz<|X.drop C.1 (own':=_::own') (.cons _ (List.sublist_cons_self _ _))<|X.weaken ?_ (hnext3 (k+1,v',own') ⟨hk', ?_⟩ (by simp only;omega))
       ·exact⟨rfl,rfl,by simp [look],rfl,rfl,rfl,rfl,rfl,rfl,rfl,rfl,rfl,trivial⟩
       ·rw [htk,List.flatMap_append,List.flatMap_cons,List.flatMap_nil,List.append_nil,ha_alone,hz4]
        exact hb'
     ·obtain rfl:k=(cases b).length:=by omega
      have htk:((cases b).map (alone crew)).take (cases b).length=(cases b).map (alone crew):=by rw [List.take_of_length_le];simp
      rw [htk] at hbufA
      refine Xe U<|Xv<|X.finishA [_] C.1 ha_len Dd hbufA fun ro5 hl5 hall=>?_
      have hall0:=hall
      obtain⟨alb,alc,rfl⟩:=hall.form
      have k5:=RO.le_trans k4 hl5
      have k25:=RO.le_trans k2 k5
      refine X.afterI (ι:=RO×Bool) (fun s=>ro5.le s.1∧(s.2=true→crewOk b (cases b) (planI l) i=true∧(found=true→men.length≤crew.length))∧(s.2=false→crewOk b (cases b) (planI l) i=true→found=true∧crew.length≤men.length)) (fun s=> [(111, .bool s.2),(9, .slice cwb crew.length cwc),(30, .int .i64 ((2^b.ms.length:Nat):Int)),(31, .int .i64 (i:Int)),(4, .slice meb men.length mec),(5, .bool found),(7, .pointer (some ⟨p7,0,none⟩)),(2, .pointer (some ⟨p2,0,none⟩)),(1, .slice pb l.length pc)])
       (fun s=>⟨s.1,(p7, .cells (bs b mb mc sb sc kb kc [.slice lb (cases b).length lc]).toArray 209 (0,0))::(p2, .cells (bs b mb mc sb sc kb kc []).toArray 81 (0,0))::tail⟩) (fun s hsx=>?_) (fun hcont=>?_)
      rotate_left
      ·have _:=k25
       refine Xf fun hok=>D5 C 0 hok U U G209 B209 V (.take (.take (.take (.take (.take (.take (.take (.take (.take (.take Tk6))))))))))<|Dt 1 Y<|De 2 (some 86) [true] hok (fun _ _ A hk=>?_)
       refine R.callP C U (A.w U U) (A.x U U) (A.s U U) (planOf_c hJ (hl0.mono k25) O hin) (hk _ _ ⟨(QFs.cons (QF.of U (fun _ _ A h=>R.loadAgg C U (A.w U U) (A.x U U) G209 B209 V (.take (.take (.take (.take (.take (.take (.take (.take (.take (.take Tk6)))))))))) h)) QFs.nil), ?_⟩)
       refine De 3 (some 87) [false] hok (fun _ _ A hk=>?_)
       refine R.callR C U (A.w U U) (A.x U U) (A.s U U) (surely_c hJ (hp.mono k25) hb hall0 (by rw [List.length_map];omega) (fun c hc=>by obtain⟨a,ha1,rfl⟩:=List.mem_map.1 hc;exact alone_ok (hcok a ha1)) h512) fun v8 ro8 hl8 hq8=>hk _ _ ⟨QFs.nil, ?_⟩
       rw [←hokD] at hq8
       by_cases hsu:crewOk b (cases b) (planI l) i=true
       ·rw [hsu] at hq8
        subst hq8
        by_cases hfo:found=true
        ·by_cases hgt:men.length<crew.length
         ·have _:=hgt
          refine Dt 4 Y<|D.fixv (t:=88) (v':= .bool true) U (by rfl)<|Dt 5 Y<|Dp 6 hok (fun _ _ _ A h=>R.not C U (A.w U U) (A.x U U) h)<|D.fixv (t:=90) (v':= .bool false) U (by(rw [hfo];rfl))<|Dt 7 Y<|Dt 8 Y<|Ds C 9 hok U U A58<|Dt 10 Y<|Ds C 11 hok U U A58<|Dj 12 Y5 b_gtr<|D.fixv (t:=96) (v':= .bool true) U (by(exact congrArg Value.bool Zo))<|Dp 13 hok (fun _ _ _ A h=>R.pickF C U (A.w U U) (A.x U U) (A.x U U) h)<|Dt 14 Y<|Dr 15 U<|Dr 16 U<|Dr 17 U<|Dr 18 U<|Dr 19 U<|Dr 20 U<|Dr 21 U<|Dr 22 U<|Dr 23 U<|Dr 24 U<|Dr 25 U<|Dp 26 hok (fun _ _ _ A h=>R.pickT C U (A.w U U) (A.x U U) (A.x U U) h)<|Dp 27 hok (fun _ _ _ A h=>R.pickT C U (A.w U U) (A.x U U) (A.x U U) h)<|Dn<|X.drop C.1 (own':=_::_::tail) (List.sublist_cons_self _ _)<|X.weaken ?_ (hcont (ro8,true) ⟨hl8,fun _=>⟨hsu,fun _=>by omega⟩,fun h=>nomatch h⟩)
          exact⟨U,U,U,U,U,U,U,U,U,trivial⟩
         ·by_cases heq:crew.length=men.length
          ·by_cases hcm:cmpL crew men<0
           ·have _:=hgt
            refine Dt 4 Y<|D.fixv (t:=88) (v':= .bool true) U (by rfl)<|Dt 5 Y<|Dp 6 hok (fun _ _ _ A h=>R.not C U (A.w U U) (A.x U U) h)<|D.fixv (t:=90) (v':= .bool false) U (by(rw [hfo];rfl))<|Dt 7 Y<|Dt 8 Y<|Ds C 9 hok U U A58<|Dt 10 Y<|Ds C 11 hok U U A58<|Dj 12 Y5 b_gtr<|D.fixv (t:=96) (v':= .bool false) U (by(exact congrArg Value.bool Zo))<|Dp 13 hok (fun _ _ _ A h=>R.pickF C U (A.w U U) (A.x U U) (A.x U U) h)<|Dt 14 Y<|Dt 15 Y<|Ds C 16 hok U U A58<|Dt 17 Y<|Ds C 18 hok U U A58<|Dj 19 Y5 b_eql<|D.fixv (t:=103) (v':= .bool true) U (Bv (by rw [beq_iff_eq];omega)) ?_;refine Dt 20 Y<|Dt 21 Y<|Dt 22 Y<|De 23 (some 107) [] hok (fun _ _ A hk=>?_)
            refine R.callP C U (A.w U U) (A.x U U) (A.s U U) (cmpL_c hJ (hcrew0.mono (RO.le_trans hl5 hl8)) (hmen.mono (RO.le_trans hl4 (RO.le_trans hl5 hl8))) O O) (hk _ _ ⟨QFs.nil, ?_⟩)
            refine Dj 24 Y5 b_lss<|D.fixv (t:=108) (v':= .bool true) U (by(exact congrArg Value.bool (decide_eq_true hcm)))<|Dp 25 hok (fun _ _ _ A h=>R.pickT C U (A.w U U) (A.x U U) (A.x U U) h)<|Dp 26 hok (fun _ _ _ A h=>R.pickF C U (A.w U U) (A.x U U) (A.x U U) h)<|Dp 27 hok (fun _ _ _ A h=>R.pickT C U (A.w U U) (A.x U U) (A.x U U) h)<|Dn<|X.drop C.1 (own':=_::_::tail) (List.sublist_cons_self _ _)<|X.weaken ?_ (hcont (ro8,true) ⟨hl8,fun _=>⟨hsu,fun _=>by omega⟩,fun h=>nomatch h⟩)
            exact⟨U,U,U,U,U,U,U,U,U,trivial⟩
           ·have _:=hgt
            refine Dt 4 Y<|D.fixv (t:=88) (v':= .bool true) U (by rfl)<|Dt 5 Y<|Dp 6 hok (fun _ _ _ A h=>R.not C U (A.w U U) (A.x U U) h)<|D.fixv (t:=90) (v':= .bool false) U (by(rw [hfo];rfl))<|Dt 7 Y<|Dt 8 Y<|Ds C 9 hok U U A58<|Dt 10 Y<|Ds C 11 hok U U A58<|Dj 12 Y5 b_gtr<|D.fixv (t:=96) (v':= .bool false) U (by(exact congrArg Value.bool Zo))<|Dp 13 hok (fun _ _ _ A h=>R.pickF C U (A.w U U) (A.x U U) (A.x U U) h)<|Dt 14 Y<|Dt 15 Y<|Ds C 16 hok U U A58<|Dt 17 Y<|Ds C 18 hok U U A58<|Dj 19 Y5 b_eql<|D.fixv (t:=103) (v':= .bool true) U (Bv (by rw [beq_iff_eq];omega)) ?_;refine Dt 20 Y<|Dt 21 Y<|Dt 22 Y<|De 23 (some 107) [] hok (fun _ _ A hk=>?_)
            refine R.callP C U (A.w U U) (A.x U U) (A.s U U) (cmpL_c hJ (hcrew0.mono (RO.le_trans hl5 hl8)) (hmen.mono (RO.le_trans hl4 (RO.le_trans hl5 hl8))) O O) (hk _ _ ⟨QFs.nil, ?_⟩)
            refine Dj 24 Y5 b_lss<|D.fixv (t:=108) (v':= .bool false) U (by(exact congrArg Value.bool (decide_eq_false hcm)))<|Dp 25 hok (fun _ _ _ A h=>R.pickT C U (A.w U U) (A.x U U) (A.x U U) h)<|Dp 26 hok (fun _ _ _ A h=>R.pickF C U (A.w U U) (A.x U U) (A.x U U) h)<|Dp 27 hok (fun _ _ _ A h=>R.pickT C U (A.w U U) (A.x U U) (A.x U U) h)<|Dn<|X.drop C.1 (own':=_::_::tail) (List.sublist_cons_self _ _)<|X.weaken ?_ (hcont (ro8,false) ⟨hl8,(fun h=>nomatch h),fun _ _=>⟨hfo,O⟩⟩)
            exact⟨U,U,U,U,U,U,U,U,U,trivial⟩
          ·have _:=hgt
           refine Dt 4 Y<|D.fixv (t:=88) (v':= .bool true) U (by rfl)<|Dt 5 Y<|Dp 6 hok (fun _ _ _ A h=>R.not C U (A.w U U) (A.x U U) h)<|D.fixv (t:=90) (v':= .bool false) U (by(rw [hfo];rfl))<|Dt 7 Y<|Dt 8 Y<|Ds C 9 hok U U A58<|Dt 10 Y<|Ds C 11 hok U U A58<|Dj 12 Y5 b_gtr<|D.fixv (t:=96) (v':= .bool false) U (by(exact congrArg Value.bool Zo))<|Dp 13 hok (fun _ _ _ A h=>R.pickF C U (A.w U U) (A.x U U) (A.x U U) h)<|Dt 14 Y<|Dt 15 Y<|Ds C 16 hok U U A58<|Dt 17 Y<|Ds C 18 hok U U A58<|Dj 19 Y5 b_eql<|D.fixv (t:=103) (v':= .bool false) U (Bv (by rw [beq_eq_false_iff_ne];omega)) ?_;refine Dt 20 Y<|Dr 21 U<|Dr 22 U<|Dr 23 U<|Dr 24 U<|Dp 25 hok (fun _ _ _ A h=>R.pickF C U (A.w U U) (A.x U U) (A.x U U) h)<|Dp 26 hok (fun _ _ _ A h=>R.pickF C U (A.w U U) (A.x U U) (A.x U U) h)<|Dp 27 hok (fun _ _ _ A h=>R.pickT C U (A.w U U) (A.x U U) (A.x U U) h)<|Dn<|X.drop C.1 (own':=_::_::tail) (List.sublist_cons_self _ _)<|X.weaken ?_ (hcont (ro8,false) ⟨hl8,(fun h=>nomatch h),fun _ _=>⟨hfo,O⟩⟩)
           exact⟨U,U,U,U,U,U,U,U,U,trivial⟩
        ·have hfo:found=false:=by simpa using hfo
         refine Dt 4 Y<|D.fixv (t:=88) (v':= .bool true) U (by rfl)<|Dt 5 Y<|Dp 6 hok (fun _ _ _ A h=>R.not C U (A.w U U) (A.x U U) h)<|D.fixv (t:=90) (v':= .bool true) U (by(rw [hfo];rfl))<|Dt 7 Y<|Dr 8 U<|Dr 9 U<|Dr 10 U<|Dr 11 U<|Dr 12 U<|Dp 13 hok (fun _ _ _ A h=>R.pickT C U (A.w U U) (A.x U U) (A.x U U) h)<|Dt 14 Y<|Dr 15 U<|Dr 16 U<|Dr 17 U<|Dr 18 U<|Dr 19 U<|Dr 20 U<|Dr 21 U<|Dr 22 U<|Dr 23 U<|Dr 24 U<|Dr 25 U<|Dp 26 hok (fun _ _ _ A h=>R.pickT C U (A.w U U) (A.x U U) (A.x U U) h)<|Dp 27 hok (fun _ _ _ A h=>R.pickT C U (A.w U U) (A.x U U) (A.x U U) h)<|Dn<|X.drop C.1 (own':=_::_::tail) (List.sublist_cons_self _ _)<|X.weaken ?_ (hcont (ro8,true) ⟨hl8,fun _=>⟨hsu,fun h=>by rw [hfo] at h;cases h⟩,fun h=>nomatch h⟩)
         exact⟨U,U,U,U,U,U,U,U,U,trivial⟩
       ·have hsu:crewOk b (cases b) (planI l) i=false:=by simpa using hsu
        rw [hsu] at hq8
        subst hq8
        refine Dt 4 Y<|D.fixv (t:=88) (v':= .bool false) U (by rfl)<|Dr 5 U<|Dr 6 U<|Dr 7 U<|Dr 8 U<|Dr 9 U<|Dr 10 U<|Dr 11 U<|Dr 12 U<|Dr 13 U<|Dr 14 U<|Dr 15 U<|Dr 16 U<|Dr 17 U<|Dr 18 U<|Dr 19 U<|Dr 20 U<|Dr 21 U<|Dr 22 U<|Dr 23 U<|Dr 24 U<|Dr 25 U<|Dr 26 U<|Dp 27 hok (fun _ _ _ A h=>R.pickF C U (A.w U U) (A.x U U) (A.x U U) h)<|Dn<|X.drop C.1 (own':=_::_::tail) (List.sublist_cons_self _ _)<|X.weaken ?_ (hcont (ro8,false) ⟨hl8,(fun h=>nomatch h),fun _ h=>by rw [hsu] at h;cases h⟩)
        exact⟨U,U,U,U,U,U,U,U,U,trivial⟩
      obtain⟨ro9,g⟩:=s
      obtain⟨hl9,hg1,hg2⟩:=hsx
      simp only at hl9 hg1 hg2⊢
      refine Xc U (fun hg=>?_) (fun hg=>?_)
      ·have hg:g=true:=by simpa using hg
       obtain⟨hsu,hlen⟩:=hg1 hg
       refine Xg W<|Ro W<|Rg Y<|Ae W<|Xi<|Xg W<|Rb Y<|Ro W<|Rz<|X.weaken ?_ (hnext (i+1,ro9, .slice cwb crew.length cwc,crew,true) ⟨by simp only;omega,RO.le_trans k5 hl9,hcrew0.mono (RO.le_trans hl5 hl9),by simp only;omega,fun mask hm hok=>⟨rfl, ?_⟩,fun _=>⟨i,hi',hsu,by rw [hcrewE]⟩⟩ (by simp only;omega))
       ·exact⟨rfl,by simp [look],rfl,rfl,rfl,rfl,rfl,trivial⟩
       ·by_cases e:mask=i
        ·rw [e,hcrewE];exact Nat.le_refl _
        ·obtain⟨h1,h2⟩:=hi1 mask (by simp only at hm;omega) hok
         have:=hlen h1
         simp only;omega
      ·have hg:g=false:=by simpa using hg
       refine Xz<|Xi<|Xg W<|Rb Y<|Ro W<|Rz<|X.weaken ?_ (hnext (i+1,ro9, .slice meb men.length mec,men,found) ⟨by simp only;omega,RO.le_trans k5 hl9,hmen.mono (RO.le_trans hl4 (RO.le_trans hl5 hl9)),hmen3,fun mask hm hok=>?_,hi2⟩ (by simp only;omega))
       ·exact⟨rfl,by simp [look],rfl,rfl,rfl,rfl,rfl,trivial⟩
       ·by_cases e:mask=i
        ·subst e
         obtain⟨h1,h2⟩:=hg2 hg hok
         exact⟨h1,by rw [hcrewE];exact h2⟩
        ·exact hi1 mask (by simp only at hm;omega) hok
   ·obtain rfl:i=2^b.ms.length:=by omega
    refine Xe U<|Xm W W<|Ro W<|Rg Y<|Rg Y<|Ae W<|X.ret C U U func31 U (by exact(.tmp U (.tmp U (.tmp U .nil))))<|Hr hret (RO.le_trans k2 hl3) ?_
    exact⟨_,_,_,_,by rw [h0];rfl,fun _=>⟨⟨hi1,hi2⟩,hmen3⟩⟩
end Go.Lg.Be
namespace Go.Lg.Be
open Go Go.Conc Go.Lg Go.Proofs Go.Lg.B Go.Proofs.Tryz
variable {v:Value}{xs:List Mn}{ro:RO}{b:Bk}
def noBk:Value:= .agg [.int .i64 0, .int .i64 0, .int .i64 0, .int .i64 0, .int .i64 0, .int .i64 0, .int .i64 0, .int .i64 0, .int .i64 0, .int .i64 0, .int .i64 0, .int .i64 0, .slice none 0 0, .slice none 0 0, .slice none 0 0].toArray
def NewV(ro':RO)(b:Bk)(h:Int)(w:Value):Prop:=(h≠0∧w= .tuple [noBk, .int .i64 h].toArray)∨(h=0∧∃v,BkV ro' v b∧w= .tuple [v, .int .i64 0].toArray)
variable {main:Bool}{J:Goroutine→Mem→Prop}(hJ:Closed prog main J)
include hJ
omit hJ in
theorem onesM(xs:List Mn):ones (xs.flatMap Mn.cells)=true:=ones_flat (fun _=>rfl) xs
theorem cloneM_c(hls:Ls Mn.cells 3 ro v xs)(hn:xs.length≤1000000):CallV prog J (fnv 254) [v] ro [] (fun v' ro' pre'=>ro'=ro∧Buf 198 3 [] v' (xs.flatMap Mn.cells) pre'):=by
 have hls0:=hls
 obtain⟨base,cap,rfl,hbase⟩:=hls
 refine CallV.intro (first:= []) (cap:= []) hJ Kr fun c cs tail hret=>?_
 have hfl:=flatMap_len (enc:=Mn.cells) (k:=3) (fun _=>rfl) xs
 refine enter_X (n:=8) func254 U U (Nl U) ?_
 have C:Ctx prog main J (bf 254 .normal):=⟨hJ,by decide⟩
 refine Xo W W<|Xx W<|Ro W<|R.eqNil C U U U U A78<|Zc U (fun hz=>?_) (fun hz=>?_)
 ·have hx:xs= []:=by
   rcases hbase with h|⟨_,_,_,_,_,h,_⟩
   ·exact h
   ·rw [h] at hz;cases hz
  subst hx
  refine Xo W W<|Xw func254 ?_
  exact hret _ _ [] _ (RO.le_refl _) ⟨rfl, .nil⟩ (.refl _)
 ·refine Xz<|Xu W<|R.buildSlice C (vs:=_) U U (show pvals _ _=some (numbered 0 []) from rfl) U A78 B198 zeroValue198 Dd (.nil) fun p5=>Ro W<|R.append (kk:=3) C U U U U A78 A78 (fun _=>nofun) (show prog.info? 198=some Tryz.t198 by kernel_rfl) U U U Dd Dd (Buf.blk (cells:= []) (spare:= []) (len:=0) (cap:=0) U U (Nat.le_refl _)) (hls0.rd Mn.len) (onesM xs) (by simp only [List.length_nil];omega) fun v' own' hb'=>Ae W<|Xw func254 ?_
  obtain⟨own0,rfl,hb0⟩:=Buf.unapp (tail:= []) (H:=tail) hb'
  exact hret _ _ own0 _ (RO.le_refl _) ⟨rfl,hb0⟩ (.refl _)
theorem cloneMR_c(hls:Ls Mn.cells 3 ro v xs)(hn:xs.length≤1000000):CallR prog J (fnv 254) [v] ro (fun v' ro'=>Ls Mn.cells 3 ro' v' xs∧capOk v'):=toR hJ (fun _=>rfl) Dd (cloneM_c hJ hls hn)
omit hJ in
theorem onesK(xs:List Mk):ones (xs.flatMap Mk.cells)=true:=ones_flat (fun _=>rfl) xs
theorem cloneK_c{xs:List Mk}(hls:Ls Mk.cells 3 ro v xs)(hn:xs.length≤1000000):CallV prog J (fnv 255) [v] ro [] (fun v' ro' pre'=>ro'=ro∧Buf 309 3 [] v' (xs.flatMap Mk.cells) pre'):=by
 have hls0:=hls
 obtain⟨base,cap,rfl,hbase⟩:=hls
 refine CallV.intro (first:= []) (cap:= []) hJ Kr fun c cs tail hret=>?_
 have hfl:=flatMap_len (enc:=Mk.cells) (k:=3) (fun _=>rfl) xs
 refine enter_X (n:=8) func255 U U (Nl U) ?_
 have C:Ctx prog main J (bf 255 .normal):=⟨hJ,by decide⟩
 refine Xo W W<|Xx W<|Ro W<|R.eqNil C U U U U A79<|Zc U (fun hz=>?_) (fun hz=>?_)
 ·have hx:xs= []:=by
   rcases hbase with h|⟨_,_,_,_,_,h,_⟩
   ·exact h
   ·rw [h] at hz;cases hz
  subst hx
  refine Xo W W<|Xw func255 ?_
  exact hret _ _ [] _ (RO.le_refl _) ⟨rfl, .nil⟩ (.refl _)
 ·refine Xz<|Xu W<|R.buildSlice C (vs:=_) U U (show pvals _ _=some (numbered 0 []) from rfl) U A79 B309 zeroValue309 Dd (.nil) fun p5=>Ro W<|R.append (kk:=3) C U U U U A79 A79 (fun _=>nofun) (show prog.info? 309=some Tryz.t309 by kernel_rfl) U U U Dd Dd (Buf.blk (cells:= []) (spare:= []) (len:=0) (cap:=0) U U (Nat.le_refl _)) (hls0.rd Mk.len) (onesK xs) (by simp only [List.length_nil];omega) fun v' own' hb'=>Ae W<|Xw func255 ?_
  obtain⟨own0,rfl,hb0⟩:=Buf.unapp (tail:= []) (H:=tail) hb'
  exact hret _ _ own0 _ (RO.le_refl _) ⟨rfl,hb0⟩ (.refl _)
theorem cloneKR_c{xs:List Mk}(hls:Ls Mk.cells 3 ro v xs)(hn:xs.length≤1000000):CallR prog J (fnv 255) [v] ro (fun v' ro'=>Ls Mk.cells 3 ro' v' xs∧capOk v'):=toR hJ (fun _=>rfl) Dd (cloneK_c hJ hls hn)
theorem own_c(hv:BkV ro v b)(hs:b.short):CallR prog J (fnv 191) [v] ro (fun w ro'=>BkV ro' w b):=by
 obtain⟨mb,mc,sb,sc,kb,kc,rfl,hp,hmc⟩:=hv.all
 have h1:=hs.ms.1
 have h2:=hs.sent
 have h3:=hs.ks
 refine ER 16 hJ func191 W fun c cs tail hret C=>Xu W<|Bx Z fun p1=>Al W K81 U fun p2=>Rz<|Xv<|Xf fun hok=>Dh 12 0 Y A81 U B78<|Db 1 W G78 V U<|Dh 13 3 Y A81 U B58<|Db 4 W G58 V U<|Dh 14 6 Y A81 U B79<|Db 7 W G79 V U<|De 2 (some 5) [true,true,false] hok (fun _ _ A hk=>?_)
 refine R.callR C U (A.w U U) (A.x U U) (A.s U U) (cloneMR_c hJ hp.1 O) fun v5 ro5 hl5 hq5=>hk _ _ ⟨(QFs.cons (QF.of U (fun _ _ A h=>R.loadOne C U (A.w U U) (A.x U U) G79 V U h)) (QFs.cons (QF.of U (fun _ _ A h=>R.loadOne C U (A.w U U) (A.x U U) G58 V U h)) QFs.nil)), ?_⟩
 refine Dh 12 9 Y A81 U B78<|De 5 (some 8) [true,false] hok (fun _ _ A hk=>?_)
 obtain⟨hls5,hco5⟩:=hq5
 obtain⟨b5,c5,rfl⟩:=hls5.form
 refine R.callR C U (A.w U U) (A.x U U) (A.s U U) (cloneIR_c hJ (hp.2.1.mono hl5) O) fun v8 ro8 hl8 hq8=>hk _ _ ⟨(QFs.cons (QF.of U (fun _ _ A h=>R.loadOne C U (A.w U U) (A.x U U) G79 V U h)) QFs.nil), ?_⟩
 refine De 8 (some 11) [false] hok (fun _ _ A hk=>?_)
 obtain⟨hls8,hco8⟩:=hq8
 obtain⟨b8,c8,rfl⟩:=hls8.form
 have k8:=RO.le_trans hl5 hl8
 refine R.callR C U (A.w U U) (A.x U U) (A.s U U) (cloneKR_c hJ (hp.2.2.1.mono k8) O) fun v11 ro11 hl11 hq11=>hk _ _ ⟨QFs.nil, ?_⟩
 refine De 10 none [] hok (fun _ _ A hk=>?_)
 obtain⟨hls11,hco11⟩:=hq11
 obtain⟨b11,c11,rfl⟩:=hls11.form
 refine R.store C U (A.w U U) (A.x U U) (A.x U U) B78 U U U V (.skip (.skip (.skip (.skip (.skip (.skip (.skip (.skip (.skip (.skip (.skip (.skip (.here .nil))))))))))))) (hk undef _ ⟨QFs.nil, ?_⟩)
 refine Dh 13 11 Y A81 U B58<|De 12 none [] hok (fun _ _ A hk=>?_)
 refine R.store C U (A.w U U) (A.x U U) (A.x U U) B58 U U U V (.skip (.skip (.skip (.skip (.skip (.skip (.skip (.skip (.skip (.skip (.skip (.skip (.skip (.here .nil)))))))))))))) (hk undef _ ⟨QFs.nil, ?_⟩)
 refine Dh 14 13 Y A81 U B79<|De 14 none [] hok (fun _ _ A hk=>?_)
 refine R.store C U (A.w U U) (A.x U U) (A.x U U) B79 U U U V (.skip (.skip (.skip (.skip (.skip (.skip (.skip (.skip (.skip (.skip (.skip (.skip (.skip (.skip (.here .nil))))))))))))))) (hk undef _ ⟨QFs.nil, ?_⟩)
 refine Dn<|Xu W<|R.loadAgg C U U U G81 B81 V (.take (.take (.take (.take (.take (.take (.take (.take (.take Tk6)))))))))<|Rs Z B81 Y V (.here (.here (.here (.here (.here (.here (.here (.here Ph7))))))))<|Rz<|X.ret C U U func191 U (by exact(.agg U G81 B81 V (.take (.take (.take (.take (.take (.take (.take (.take (.take Tk6))))))))) .nil))<|Hr hret (RO.le_trans k8 hl11) ?_
 exact⟨_,_,_,rfl,hls5.mono (RO.le_trans hl8 hl11),hls8.mono hl11,hls11,hco5⟩
theorem agreed_c(he:Env ro)(hv:BkV ro v b)(hs:b.short):CallR prog J (fnv 106) [v] ro (fun w ro'=>NewV ro' b (agreedH b) w):=by
 have hvv:=hv
 obtain⟨mb,mc,sb,sc,kb,kc,rfl,hp,hmc⟩:=hv.all
 refine ER 18 hJ func106 W fun c cs tail hret C=>Xu W<|Bx Z fun p1=>Al W K81 U fun p2=>Ae W<|Xx W<|R.loadAgg C U U U G81 B81 V (.take (.take (.take (.take (.take (.take (.take (.take (.take Tk6)))))))))<|Cp Z (checkBook_c hJ he hvv hs)<|Ae W<|Xm W W<|Ri Z b_neq<|Zc U (fun hh=>?_) (fun hh=>?_)
 ·have hh:checkBook b≠0:=by simpa using hh
  have e:agreedH b=checkBook b:=by rw [agreedH,if_pos hh]
  refine Xu W ?_;refine R.build C U U U K81 U A81 Kr .nil<|Ro W<|Rs Z B81 Y V (.here (.here (.here (.here (.here (.here (.here (.here Ph7))))))))<|Ae W<|X.ret C U U func106 U (by exact(.agg U G81 B81 V (.take (.take (.take (.take (.take (.take (.take (.take (.take Tk6))))))))) (.tmp U .nil)))<|Hr hret (RO.le_refl _) ?_
  rw [e];exact .inl ⟨hh,rfl⟩
 ·have hh:checkBook b=0:=by simpa using hh
  have hb:=good_of hh
  refine Xz<|Xx W<|R.loadAgg C U U U G81 B81 V (.take (.take (.take (.take (.take (.take (.take (.take (.take Tk6))))))))) ?_;refine R.build C U U U zeroValue206 U A206 Kr (Fills.part U U B81 U (.here (.here (.here (.here (.here (.here (.here (.here Ph7)))))))) .nil)<|R.callR C U U U U (some_c hJ hp hb) fun v4 ro4 hl4 hq4=>?_
  subst hq4
  refine Rh Y<|Zc U (fun hc=>?_) (fun hc=>?_)
  ·have hc:cases b= []:=by simpa using hc
   have e:agreedH b=9:=by rw [agreedH,if_neg (fun h=>h hh),if_pos hc]
   refine Xu W ?_;refine R.build C U U U K81 U A81 Kr .nil<|Rs Z B81 Y V (.here (.here (.here (.here (.here (.here (.here (.here Ph7))))))))<|Ae W<|X.ret C U U func106 U (by exact(.agg U G81 B81 V (.take (.take (.take (.take (.take (.take (.take (.take (.take Tk6))))))))) (.tmp U .nil)))<|Hr hret hl4 ?_
   rw [e];exact .inl ⟨by decide,rfl⟩
  ·have hc:cases b≠ []:=by simpa using hc
   have e:agreedH b=0:=by rw [agreedH,if_neg (fun h=>h hh),if_neg hc]
   refine Xz<|Xu W<|R.loadAgg C U U U G81 B81 V (.take (.take (.take (.take (.take (.take (.take (.take (.take Tk6)))))))))<|R.callR C U U U U (own_c hJ (hvv.mono hl4) hs) fun v5 ro5 hl5 hq5=>?_
   obtain⟨mb2,mc2,sb2,sc2,kb2,kc2,rfl,hp2,hmc2⟩:=hq5.all
   refine Rs Z B81 Y V (.here (.here (.here (.here (.here (.here (.here (.here Ph7))))))))<|Ae W<|X.ret C U U func106 U (by exact(.agg U G81 B81 V (.take (.take (.take (.take (.take (.take (.take (.take (.take Tk6))))))))) (.tmp U .nil)))<|Hr hret (RO.le_trans hl4 hl5) ?_
   rw [e]
   exact .inr ⟨rfl,_,⟨_,_,_,rfl,hp2⟩,rfl⟩
theorem caulk_c(he:Env ro)(hv:BkV ro v b)(hs:b.short)(x:Rc):CallR prog J (fnv 30) [v, .agg [.int .i64 x.lo, .int .i64 x.hi].toArray] ro (fun w ro'=>NewV ro' (b.caulked x) (caulkH b x) w):=by
 have hvv:=hv
 obtain⟨mb,mc,sb,sc,kb,kc,rfl,hp,hmc⟩:=hv.all
 refine ER 35 hJ F30 W fun c cs tail hret C=>Xu W<|Bx Z fun p2=>Bx Z fun p3=>Al W K81 U fun p4=>Ae W<|Xx W<|R.loadAgg C U U U G81 B81 V (.take (.take (.take (.take (.take (.take (.take (.take (.take Tk6)))))))))<|Cp Z (checkBook_c hJ he hvv hs)<|Ae W<|Xm W W<|Ri Z b_neq<|Zc U (fun hq=>?_) (fun hq=>?_)
 ·have hq:checkBook b≠0:=by simpa using hq
  have e:caulkH b x=checkBook b:=by rw [caulkH,if_pos hq]
  refine Xu W ?_;refine R.build C U U U K81 U A81 Kr .nil<|Ro W<|Rs Z B81 Y V (.here (.here (.here (.here (.here (.here (.here (.here Ph7))))))))<|Ae W<|X.ret C U U F30 U (by exact(.agg U G81 B81 V (.take (.take (.take (.take (.take (.take (.take (.take (.take Tk6))))))))) (.tmp U .nil)))<|Hr hret (RO.le_refl _) ?_
  rw [e];exact .inl ⟨hq,rfl⟩
 ·have hq:checkBook b=0:=by simpa using hq
  refine Xz<|Xx W<|Rq W G45 B45 V Tk2<|Cp Z (isReach_c hJ x _ _ _)<|Rh Y<|Zc U (fun h1=>?_) (fun h1=>?_)
  ·have h1:B.isReach x 0 99=false:=by simpa using h1
   have e:caulkH b x=1:=by rw [caulkH,if_neg (fun e=>e hq),if_pos (by simp [h1])]
   refine Xu W ?_;refine R.build C U U U K81 U A81 Kr .nil<|Rs Z B81 Y V (.here (.here (.here (.here (.here (.here (.here (.here Ph7))))))))<|Ae W<|X.ret C U U F30 U (by exact(.agg U G81 B81 V (.take (.take (.take (.take (.take (.take (.take (.take (.take Tk6))))))))) (.tmp U .nil)))<|Hr hret (RO.le_refl _) ?_
   rw [e];exact .inl ⟨by decide,rfl⟩
  ·have h1:B.isReach x 0 99=true:=by simpa using h1
   refine Xz<|Xu W<|Rv 8 W A81 U B45<|R.loadAgg C U U U G45 B45 V (.skip (.skip (.skip (.skip (.skip (.skip (.skip (.skip Tk2))))))))<|Rq W G45 B45 V Tk2<|Cp Z (meet_c hJ b.leak x _)<|Ro W<|Re Z<|Re Z<|Al W K45 U fun p7=>Rs Z B45 Y V Ph2<|Ae W<|Xx W<|Ro W<|Rh Y<|Zc U (fun h2=>?_) (fun h2=>?_)
   ·have h2:¬max b.leak.lo x.lo≤min b.leak.hi x.hi:=by simpa using h2
    have e:caulkH b x=9:=by rw [caulkH,if_neg (fun e=>e hq),if_neg (by simp [h1]),if_pos (by rw [decide_eq_false h2];rfl)]
    refine Xu W ?_;refine R.build C U U U K81 U A81 Kr .nil<|Rs Z B81 Y V (.here (.here (.here (.here (.here (.here (.here (.here Ph7))))))))<|Ae W<|X.ret C U U F30 U (by exact(.agg U G81 B81 V (.take (.take (.take (.take (.take (.take (.take (.take (.take Tk6))))))))) (.tmp U .nil)))<|Hr hret (RO.le_refl _) ?_
    rw [e];exact .inl ⟨by decide,rfl⟩
   ·have h2:max b.leak.lo x.lo≤min b.leak.hi x.hi:=by simpa using h2
    have e:caulkH b x=agreedH (b.caulked x):=by rw [caulkH,if_neg (fun e=>e hq),if_neg (by simp [h1]),if_neg (by rw [decide_eq_true h2];decide)]
    rw [e] at hret
    have hvc:BkV ro (.agg [.int .i64 b.room, .int .i64 b.dep, .int .i64 b.least, .int .i64 b.mins, .int .i64 b.lamps, .int .i64 b.cask, .int .i64 b.casks, .int .i64 b.pump, .int .i64 (max b.leak.lo x.lo), .int .i64 (min b.leak.hi x.hi), .int .i64 b.pmp.lo, .int .i64 b.pmp.hi, .slice mb b.ms.length mc, .slice sb b.sent.length sc, .slice kb b.ks.length kc].toArray) (b.caulked x):=⟨_,_,_,rfl,hp⟩
    refine Xz<|Xu W<|Rq W G45 B45 V Tk2<|Rv 8 W A81 U B45<|Rs Z B45 Y V (.skip (.skip (.skip (.skip (.skip (.skip (.skip (.skip Ph2))))))))<|Rz<|Xu W<|R.loadAgg C U U U G81 B81 V (.take (.take (.take (.take (.take (.take (.take (.take (.take Tk6)))))))))<|R.callR C U U U U (agreed_c hJ he hvc ⟨hs.ms,hs.sent,hs.ks⟩) fun v5 ro5 hl5 hq5=>?_
    rcases hq5 with⟨h0,rfl⟩|⟨h0,v6,hv6,rfl⟩
    ·
     unfold noBk
     refine Re Z<|Re Z<|Rs Z B81 Y V (.here (.here (.here (.here (.here (.here (.here (.here Ph7))))))))<|Ae W<|X.ret C U U F30 U (by exact(.agg U G81 B81 V (.take (.take (.take (.take (.take (.take (.take (.take (.take Tk6))))))))) (.tmp U .nil)))<|Hr hret hl5 ?_
     exact .inl ⟨h0,rfl⟩
    ·
     obtain⟨mb2,mc2,sb2,sc2,kb2,kc2,rfl,hp2,hmc2⟩:=hv6.all
     refine Re Z<|Re Z<|Rs Z B81 Y V (.here (.here (.here (.here (.here (.here (.here (.here Ph7))))))))<|Ae W<|X.ret C U U F30 U (by exact(.agg U G81 B81 V (.take (.take (.take (.take (.take (.take (.take (.take (.take Tk6))))))))) (.tmp U .nil)))<|Hr hret hl5 ?_
     exact .inr ⟨h0,_,⟨_,_,_,rfl,hp2⟩,rfl⟩
end Go.Lg.Be
namespace Go.Lg.Be
open Go Go.Conc Go.Lg Go.Proofs Go.Lg.B Go.Proofs.Tryz
variable {b:Bk}{v:Value}{ro:RO}
def bigM(m:Mn):Bool:=decide (100<m.nm.length)
def great(b:Bk):Bool:=decide (20<b.ms.length)||decide (20<b.sent.length)||decide (20<b.ks.length)||b.ms.any bigM
theorem short_of(h:great b=false):b.short:=by
 simp only [great,Bool.or_eq_false_iff,decide_eq_false_iff_not,List.any_eq_false,bigM,decide_eq_true_eq] at h
 obtain⟨⟨⟨h1,h2⟩,h3⟩,h6⟩:=h
 exact⟨⟨O,fun p hp=>by have:=h6 p hp;omega⟩,O,O⟩
def Bk.bothH(b:Bk):Int:=if b.bellH≠0 then b.bellH else b.usesH
theorem check_both(b:Bk):checkBook b=if b.bothH≠0 then b.bothH else if b.menH≠0 then b.menH else if b.planH b.sent≠0 then b.planH b.sent else b.marksH:=by
 unfold checkBook Bk.bothH
 by_cases h1:b.bellH=0
 ·simp [h1]
 ·simp [h1]
variable {main:Bool}{J:Goroutine→Mem→Prop}(hJ:Closed prog main J)
include hJ
theorem greatR_c(hv:BkV ro v b):CallP prog J (fnv 99) [v] ro (.bool (great b)):=by
 obtain⟨mb,mc,sb,sc,kb,kc,rfl,hp,hmc⟩:=hv.all
 refine EP 35 hJ F99 W fun c cs tail hret C=>Xu W<|Bx Z fun p1=>Ae W<|Xx W<|Rv 12 W A81 U B78<|Rj W G78 V U<|Rt W A78<|Ri Z b_gtr<|Ro W<|R.fix (t:=8) U (fun a1=>?_) (fun a1=>?_)
 ·have a1:20<b.ms.length:=by simp at a1;omega
  refine Rp W<|Rp W<|Rp W<|Rp W<|Pp Z<|Ro W<|Rp W<|Rp W<|Rp W<|Rp W<|Pp Z<|Zc U (fun _=>?_) (fun h=>nomatch h)
  refine Xu W<|Hq W F99 hret ?_
  simp [great,a1,retVal]
 ·have a1:¬20<b.ms.length:=by simp at a1;omega
  refine Rv 13 W A81 U B58<|Rj W G58 V U<|Rt W A58<|Ri Z b_gtr<|Pf Z<|Ro W<|R.fix (t:=14) U (fun a2=>?_) (fun a2=>?_)
  ·have a2:20<b.sent.length:=by simp at a2;omega
   refine Rp W<|Rp W<|Rp W<|Rp W<|Pp Z<|Zc U (fun _=>?_) (fun h=>nomatch h)
   refine Xu W<|Hq W F99 hret ?_
   simp [great,a1,a2,retVal]
  ·have a2:¬20<b.sent.length:=by simp at a2;omega
   refine Rv 14 W A81 U B79<|Rj W G79 V U<|Rt W A79<|Ri Z b_gtr<|Pf Z<|Zc U (fun a3=>?_) (fun a3=>?_)
   ·have a3:20<b.ks.length:=by simp at a3;omega
    refine Xu W<|Hq W F99 hret ?_
    simp [great,a3,retVal]
   ·have a3:¬20<b.ks.length:=by simp at a3;omega
    have hg:great b=b.ms.any bigM:=by simp [great,a1,a2,a3]
    rw [hg] at hret
    refine Xz<|Xx W<|Ae W<|Xb<|X.loopI (ι:=Nat) C.1 (fun i=>i≤b.ms.length∧b.ms.any bigM=(b.ms.drop i).any bigM)
     (fun i=> [(3, .int .i64 (i:Int)),(1, .pointer (some ⟨p1,0,none⟩))])
     (fun _=>⟨ro,(p1, .cells (bs b mb mc sb sc kb kc []).toArray 81 (0,0))::tail⟩) (fun i=>b.ms.length-i) 0 ⟨Nat.zero_le _,rfl⟩ rfl ⟨U,U,trivial⟩ fun i hi hnext=>?_
    obtain⟨hi,hr⟩:=hi
    refine Xx W<|Ro W<|Rv 12 W A81 U B78<|Rj W G78 V U<|Rt W A78<|Ri Z b_lss<|Zj U (fun hlt=>?_) (fun hlt=>?_)
    ·have hi':i<b.ms.length:=O
     obtain⟨p,off,cap,l,t,fq,hsl',hrop,hsub⟩:=hp.1.at Mn.len O
     cases hsl'
     have hld:=hsub i hi'
     rw [List.drop_eq_getElem_cons hi',List.any_cons] at hr
     generalize b.ms[i]=q at hr hld
     have hx0:l[off+i*3+0]? =some (strV q.nm):=hld.get 0 Dd
     refine Xz<|Xv<|Xb<|Xu W<|Rv 12 W A81 U B78<|Rj W G78 V U<|Ro W<|Ry Y A78 B198<|R.fieldAddr C U U U A198 U B9 U<|Lo Y G9 hrop hx0<|R.sLen C U U U A9<|Ri Z b_gtr<|Zc U (fun c1=>?_) (fun c1=>?_)
     ·have c1:100<q.nm.length:=by simp at c1;omega
      have hb:bigM q=true:=by simp [bigM,c1]
      rw [hb,Bool.true_or] at hr
      refine Xu W<|Hq W F99 hret ?_
      rw [hr];rfl
     ·have c1:¬100<q.nm.length:=by simp at c1;omega
      have hb:bigM q=false:=by simp [bigM,c1]
      rw [hb,Bool.false_or] at hr
      refine Xz<|Xi<|Xg W<|Ro W<|Rb Y<|Ae W<|X.weaken ?_ (hnext (i+1) ⟨hi',hr⟩ O)
      exact⟨by simp [look],rfl,trivial⟩
    ·obtain rfl:i=b.ms.length:=by omega
     rw [List.drop_length,List.any_nil] at hr
     refine Xe U<|Xu W<|Hq W F99 hret ?_
     rw [hr];rfl
theorem minuteR_c(hv:BkV ro v b)(n:Int):CallP prog J (fnv 101) [v, .int .i64 n] ro (.bool (b.minute n)):=by
 obtain⟨mb,mc,sb,sc,kb,kc,rfl,hp,hmc⟩:=hv.all
 refine EP 9 hJ func101 W fun c cs tail hret C=>Xu W<|Bx Z fun p2=>Ae W<|Xm W W<|Rv 3 W A81 U B3<|Rj W G3 V U<|Cp Z (betweenR_c hJ _ _ _ _)<|Hq W func101 hret ?_
 rfl
theorem bothR_c(hv:BkV ro v b):CallP prog J (fnv 186) [v] ro (.int .i64 b.bothH):=by
 obtain⟨mb,mc,sb,sc,kb,kc,rfl,hp,hmc⟩:=hv.all
 refine EP 69 hJ F186 W fun c cs tail hret C=>Xu W<|Bx Z fun p1=>Ae W<|Xx W<|Rv 0 W A81 U B3<|Rj W G3 V U<|Cp Z (betweenR_c hJ _ _ _ _)<|Rh Y<|Ro W<|R.fix (t:=7) U (fun h1=>?_) (fun h1=>?_)
 ·have h1:between b.room 1 99=false:=by simpa using h1
  refine Rp W<|Rp W<|Rp W<|Rp W<|Pp Z<|Ro W<|Rp W<|Rp W<|Rp W<|Rp W<|Pp Z<|Ro W<|Rp W<|Rp W<|Rp W<|Rp W<|Pp Z<|Zc U (fun _=>?_) (fun h=>nomatch h)
  refine Xu W<|Hq W F186 hret ?_
  simp [Bk.bothH,Bk.bellH,h1,retVal]
 ·have h1:between b.room 1 99=true:=by simpa using h1
  refine Rv 1 W A81 U B3<|Rj W G3 V U<|Cp Z (betweenR_c hJ _ _ _ _)<|Rh Y<|Pf Z<|Ro W<|R.fix (t:=13) U (fun h2=>?_) (fun h2=>?_)
  ·have h2:between b.dep 0 99=false:=by simpa using h2
   refine Rp W<|Rp W<|Rp W<|Rp W<|Pp Z<|Ro W<|Rp W<|Rp W<|Rp W<|Rp W<|Pp Z<|Zc U (fun _=>?_) (fun h=>nomatch h)
   refine Xu W<|Hq W F186 hret ?_
   simp [Bk.bothH,Bk.bellH,h2,retVal]
  ·have h2:between b.dep 0 99=true:=by simpa using h2
   refine Rv 2 W A81 U B3<|Rj W G3 V U<|Cp Z (betweenR_c hJ _ _ _ _)<|Rh Y<|Pf Z<|Ro W<|R.fix (t:=19) U (fun h3=>?_) (fun h3=>?_)
   ·have h3:between b.least 0 99=false:=by simpa using h3
    refine Rp W<|Rp W<|Rp W<|Rp W<|Pp Z<|Zc U (fun _=>?_) (fun h=>nomatch h)
    refine Xu W<|Hq W F186 hret ?_
    simp [Bk.bothH,Bk.bellH,h3,retVal]
   ·have h3:between b.least 0 99=true:=by simpa using h3
    refine Rv 3 W A81 U B3<|Rj W G3 V U<|Cp Z (betweenR_c hJ _ _ _ _)<|Rh Y<|Pf Z<|Zc U (fun h4=>?_) (fun h4=>?_)
    ·have h4:between b.mins 1 8=false:=by simpa using h4
     refine Xu W<|Hq W F186 hret ?_
     simp [Bk.bothH,Bk.bellH,h4,retVal]
    ·have h4:between b.mins 1 8=true:=by simpa using h4
     have hR:b.bothH=b.usesH:=by simp [Bk.bothH,Bk.bellH,h1,h2,h3,h4]
     rw [hR] at hret
     clear hR
     refine Xz<|Xx W<|Rv 4 W A81 U B3<|Rj W G3 V U<|Cp Z (betweenR_c hJ _ _ _ _)<|Rh Y<|Ro W<|R.fix (t:=29) U (fun g1=>?_) (fun g1=>?_)
     ·have g1:between b.lamps 0 99=false:=by simpa using g1
      refine Rp W<|Rp W<|Rp W<|Rp W<|Pp Z<|Ro W<|Rp W<|Rp W<|Rp W<|Rp W<|Pp Z<|Ro W<|Rp W<|Rp W<|Rp W<|Rp W<|Pp Z<|Zc U (fun _=>?_) (fun h=>nomatch h)
      refine Xu W<|Hq W F186 hret ?_
      simp [Bk.usesH,g1,retVal]
     ·have g1:between b.lamps 0 99=true:=by simpa using g1
      refine Rv 5 W A81 U B3<|Rj W G3 V U<|Cp Z (betweenR_c hJ _ _ _ _)<|Rh Y<|Pf Z<|Ro W<|R.fix (t:=35) U (fun g2=>?_) (fun g2=>?_)
      ·have g2:between b.cask 0 99=false:=by simpa using g2
       refine Rp W<|Rp W<|Rp W<|Rp W<|Pp Z<|Ro W<|Rp W<|Rp W<|Rp W<|Rp W<|Pp Z<|Zc U (fun _=>?_) (fun h=>nomatch h)
       refine Xu W<|Hq W F186 hret ?_
       simp [Bk.usesH,g2,retVal]
      ·have g2:between b.cask 0 99=true:=by simpa using g2
       refine Rv 7 W A81 U B3<|Rj W G3 V U<|Cp Z (betweenR_c hJ _ _ _ _)<|Rh Y<|Pf Z<|Ro W<|R.fix (t:=41) U (fun g3=>?_) (fun g3=>?_)
       ·have g3:between b.pump 0 99=false:=by simpa using g3
        refine Rp W<|Rp W<|Rp W<|Rp W<|Pp Z<|Zc U (fun _=>?_) (fun h=>nomatch h)
        refine Xu W<|Hq W F186 hret ?_
        simp [Bk.usesH,g3,retVal]
       ·have g3:between b.pump 0 99=true:=by simpa using g3
        refine Rv 6 W A81 U B3<|Rj W G3 V U<|Cp Z (betweenR_c hJ _ _ _ _)<|Rh Y<|Pf Z<|Zc U (fun g4=>?_) (fun g4=>?_)
        ·have g4:between b.casks 0 3=false:=by simpa using g4
         refine Xu W<|Hq W F186 hret ?_
         simp [Bk.usesH,g4,retVal]
        ·have g4:between b.casks 0 3=true:=by simpa using g4
         refine Xz<|Xx W<|Rv 10 W A81 U B45<|R.loadAgg C U U U G45 B45 V (.skip (.skip (.skip (.skip (.skip (.skip (.skip (.skip (.skip (.skip Tk2))))))))))<|Rv 3 W A81 U B3<|Rj W G3 V U<|Cp Z (insideR_c hJ b.pmp _ _ _)<|Rh Y<|Ro W<|R.fix (t:=53) U (fun k2=>?_) (fun k2=>?_)
         ·have k2:B.isReach b.pmp 1 b.mins=false:=by simpa using k2
          refine Rp W<|Rp W<|Rp W<|Rp W<|Pp Z<|Ro W<|Rp W<|Rp W<|Rp W<|Rp W<|Rp W<|Rp W<|Rp W<|Rp W<|Pp Z<|Zc U (fun _=>?_) (fun h=>nomatch h)
          refine Xu W<|Hq W F186 hret ?_
          simp [Bk.usesH,k2,retVal]
         ·have k2:B.isReach b.pmp 1 b.mins=true:=by simpa using k2
          refine Rv 8 W A81 U B45<|R.loadAgg C U U U G45 B45 V (.skip (.skip (.skip (.skip (.skip (.skip (.skip (.skip Tk2))))))))<|Cp Z (insideR_c hJ b.leak _ _ _)<|Rh Y<|Pf Z<|Ro W<|R.fix (t:=59) U (fun k3=>?_) (fun k3=>?_)
          ·have k3:B.isReach b.leak 0 99=false:=by simpa using k3
           refine Rp W<|Rp W<|Rp W<|Rp W<|Rp W<|Rp W<|Rp W<|Rp W<|Pp Z<|Zc U (fun _=>?_) (fun h=>nomatch h)
           refine Xu W<|Hq W F186 hret ?_
           simp [Bk.usesH,k3,retVal]
          ·have k3:B.isReach b.leak 0 99=true:=by simpa using k3
           have hbd:=reach_iff.1 k3
           refine Rv 8 W A81 U B45<|Rv 9 W A45 U B3<|Rj W G3 V U<|Rv 8 W A81 U B45<|Rv 8 W A45 U B3<|Rj W G3 V U<|Ri Z (b_sub O O)<|Ri Z b_geq<|Pf Z<|Zc U (fun k4=>?_) (fun k4=>?_)
           ·have k4:¬b.leak.hi-b.leak.lo<3:=by simp at k4;omega
            refine Xu W<|Hq W F186 hret ?_
            simp [Bk.usesH,k4,retVal]
           ·have k4:b.leak.hi-b.leak.lo<3:=by simp at k4;omega
            refine Xz<|Xu W<|Hq W F186 hret ?_
            simp [Bk.usesH,g1,g2,g3,g4,k2,k3,k4,retVal]
theorem menR_c(hv:BkV ro v b)(hs:b.short):CallP prog J (fnv 187) [v] ro (.int .i64 b.menH):=by
 obtain⟨mb,mc,sb,sc,kb,kc,rfl,hp,hmc⟩:=hv.all
 have hsl:=hs.ms
 refine EP 54 hJ F187 W fun c cs tail hret C=>Xu W<|Bx Z fun p1=>Ae W<|Xx W<|Rv 12 W A81 U B78<|Rj W G78 V U<|Rt W A78<|Ri Z b_gtr<|Zc U (fun hn=>?_) (fun hn=>?_)
 ·refine Xu W<|Hq W F187 hret ?_
  simp only [dT] at hn
  rw [Bk.menH,if_pos O];rfl
 ·simp only [dF] at hn
  rw [Bk.menH,if_neg O] at hret
  refine Xz<|Xx W<|Ae W<|Xb<|X.loopI (ι:=Nat) C.1 (fun i=>i≤b.ms.length∧menGo [] b.ms=menGo ((b.ms.take i).map Mn.nm) (b.ms.drop i))
   (fun i=> [(3, .int .i64 (i:Int)),(1, .pointer (some ⟨p1,0,none⟩))])
   (fun _=>⟨ro,(p1, .cells (bs b mb mc sb sc kb kc []).toArray 81 (0,0))::tail⟩) (fun i=>b.ms.length-i) 0 ⟨Nat.zero_le _,by simp⟩ rfl ⟨U,U,trivial⟩ fun i hi hnext=>?_
  obtain⟨hi,hr⟩:=hi
  refine Xx W<|Ro W<|Rv 12 W A81 U B78<|Rj W G78 V U<|Rt W A78<|Ri Z b_lss<|Zj U (fun hlt=>?_) (fun hlt=>?_)
  ·have hi':i<b.ms.length:=O
   obtain⟨p,off,cap,l,t,fq,hsl',hrop,hsub⟩:=hp.1.at Mn.len O
   cases hsl'
   have hnames:∀j (hj:j<b.ms.length),l[off+j*3+0]? =some (strV b.ms[j].nm):=fun j hj=>(hsub j hj).get 0 Dd
   have hld:=hsub i hi'
   have hnm:=hsl.2 _ (List.getElem_mem hi')
   have hmt:=map_take (f:=Mn.nm) hi'
   rw [List.drop_eq_getElem_cons hi'] at hr
   generalize b.ms[i]=q at hr hld hnm hmt
   simp only [menGo] at hr
   unfold Mn.cells at hld
   refine Xz<|Xv<|Xb<|Xu W<|Rv 12 W A81 U B78<|Rj W G78 V U<|Ro W<|Ry Y A78 B198<|La Y isAgg198 B198 hrop hld<|Al W zeroValue198 U fun p4=>Rs Z B198 Y V Ph3<|Rz<|Xx W<|Rv 0 W A198 U B9<|Rj W G9 V U<|Cp Z (isLabelR_c hJ q.nm O ro)<|Rh Y<|Zc U (fun h1=>?_) (fun h1=>?_)
   ·have h1:isLabel q.nm=false:=by simpa using h1
    refine Xu W<|Hq W F187 hret ?_
    rw [h1] at hr
    rw [hr];rfl
   ·have h1:isLabel q.nm=true:=by simpa using h1
    rw [h1] at hr
    simp only [Bool.not_true,Bool.false_eq_true,if_false] at hr
    refine Xz<|Xx W<|Ae W<|Xb<|X.loopI (ι:=Nat) C.1 (fun j=>j≤i∧q.nm∉ (b.ms.take j).map Mn.nm)
     (fun j=> [(5, .int .i64 (j:Int)),(3, .int .i64 (i:Int)),(1, .pointer (some ⟨p1,0,none⟩)),(4, .pointer (some ⟨p4,0,none⟩))])
     (fun _=>⟨ro,(p4, .cells [strV q.nm, .int .i64 q.r.lo, .int .i64 q.r.hi].toArray 198 (0,0))::(p1, .cells (bs b (some ⟨p,off,none⟩) mc sb sc kb kc []).toArray 81 (0,0))::tail⟩) (fun j=>i-j) 0 ⟨Nat.zero_le _,by simp⟩ rfl ⟨U,U,U,U,trivial⟩ fun j hj hnext2=>?_
    obtain⟨hj,hno⟩:=hj
    refine Xx W<|Oo W W<|Ri Z b_lss<|Zj U (fun hlt2=>?_) (fun hlt2=>?_)
    ·have hj':j<b.ms.length:=O
     have hnj:=hnames j hj'
     have htj:=map_take (f:=Mn.nm) hj'
     have hmj:(b.ms[j]).nm∈(b.ms.take i).map Mn.nm:=List.mem_map.2 ⟨b.ms[j],by rw [List.mem_take_iff_getElem];exact⟨j,O,rfl⟩,rfl⟩
     generalize b.ms[j]=y at hnj htj hmj
     refine Xz<|Xv<|Xb<|Xv<|Xf fun hok=>Dh 12 0 Y A81 U B78<|Db 1 W G78 V U<|Dt 2 Y<|Dw 3 Y A78 B198<|Df C 4 hok U U U A198 U B9 U<|Dc 5 W G9 hrop hnj<|Dh 0 6 Y A198 U B9<|Db 7 W G9 V U<|Dp 8 hok (fun _ _ _ A h=>R.str C U (A.w U U) (A.x U U) (A.x U U) b_seql h)<|Dn<|Xc U (fun g1=>?_) (fun g1=>?_)
     ·have g1:y.nm=q.nm:=by simpa using g1
      rw [if_pos (by rw [←g1];exact hmj)] at hr
      refine Xu W<|Hq W F187 hret ?_
      rw [hr];rfl
     ·have g1:y.nm≠q.nm:=by simpa using g1
      refine Xz<|Xi<|Xg W<|Ro W<|Rb Y<|Ae W<|X.weaken ?_ (hnext2 (j+1) ⟨O, ?_⟩ O)
      ·exact⟨by simp [look],rfl,rfl,rfl,trivial⟩
      ·rw [htj,List.mem_append,List.mem_singleton]
       exact fun h=>h.elim hno (fun e=>g1 e.symm)
    ·obtain rfl:j=i:=by omega
     rw [if_neg hno] at hr
     refine Xe U<|Xu W<|Rv 1 W A198 U B45<|Rq W G45 B45 V (.skip Tk2)<|Cp Z (insideR_c hJ q.r _ _ _)<|Rh Y<|Ro W<|R.fix (t:=44) U (fun h3=>?_) (fun h3=>?_)
     ·have h3:B.isReach q.r 1 99=false:=by simpa using h3
      refine Rp W<|Rp W<|Rp W<|Rp W<|Rp W<|Rp W<|Rp W<|Rp W<|Pp Z<|Zc U (fun _=>?_) (fun h=>nomatch h)
      refine Xu W<|Hq W F187 hret ?_
      rw [h3] at hr
      rw [hr];rfl
     ·have h3:B.isReach q.r 1 99=true:=by simpa using h3
      have hbd:=reach_iff.1 h3
      refine Rv 1 W A198 U B45<|Rv 2 W A45 U B3<|Rj W G3 V U<|Rv 1 W A198 U B45<|Rv 1 W A45 U B3<|Rj W G3 V U<|Ri Z (b_sub O O)<|Ri Z b_geq<|Pf Z<|Zc U (fun h4=>?_) (fun h4=>?_)
      ·have h4:¬q.r.hi-q.r.lo<3:=by simp at h4;omega
       refine Xu W<|Hq W F187 hret ?_
       rw [h3,decide_eq_false h4] at hr
       rw [hr];rfl
      ·have h4:q.r.hi-q.r.lo<3:=by simp at h4;omega
       rw [h3,decide_eq_true h4] at hr
       simp only [Bool.not_true,Bool.or_self,Bool.false_eq_true,if_false] at hr
       rw [←hmt] at hr
       refine Xz<|Xi<|Xg W<|Ro W<|Rb Y<|Ae W<|X.drop C.1 (own':=_::tail) (List.sublist_cons_self _ _)<|X.weaken ?_ (hnext (j+1) ⟨hi',hr⟩ O)
       exact⟨by simp [look],rfl,trivial⟩
  ·obtain rfl:i=b.ms.length:=by omega
   simp only [List.drop_length,menGo] at hr
   refine Xe U<|Xu W<|Hq W F187 hret ?_
   rw [hr];rfl
theorem planR_c(hv:BkV ro v b){w:Value}{l:List Int}(hl:LsI ro w l)(hn:l.length≤1000):CallP prog J (fnv 28) [v,w] ro (.int .i64 (b.planH l)):=by
 have hv0:=hv
 obtain⟨mb,mc,sb,sc,kb,kc,rfl,hp,hmc⟩:=hv.all
 have hl0:=hl
 obtain⟨lb,lc,rfl⟩:=hl.form
 unfold Bk.planH
 refine EP 38 hJ func28 W fun c cs tail hret C=>Xu W<|Bx Z fun p2=>Ae W<|Xx W<|Ae W<|Xb<|X.loopI (ι:=Nat) C.1 (fun i=>i≤l.length∧b.planGo l 0 l=b.planGo l i (l.drop i))
  (fun i=> [(1, .slice lb l.length lc),(5, .int .i64 (i:Int)),(2, .pointer (some ⟨p2,0,none⟩))])
  (fun _=>⟨ro,(p2, .cells (bs b mb mc sb sc kb kc []).toArray 81 (0,0))::tail⟩) (fun i=>l.length-i) 0 ⟨Nat.zero_le _,by simp⟩ rfl ⟨U,U,U,trivial⟩ fun i hi hnext=>?_
 obtain⟨hi,hr⟩:=hi
 refine Xx W<|Oo W W<|Rt W A58<|Ri Z b_lss<|Zj U (fun hlt=>?_) (fun hlt=>?_)
 ·have hi':i<l.length:=O
  obtain⟨pl,offl,capl,ll,tl,fql,hsll,hropl,hsubl⟩:=hl0.at ic_len O
  cases hsll
  have hat:=ic_at hsubl hi'
  rw [List.drop_eq_getElem_cons hi'] at hr
  simp only [Bk.planGo] at hr
  have hpv:0<i→ll[offl+((i:Int) -1).toNat*1]? =some (.int .i64 (l.getD (i-1) 0)):=fun h0=>by
   have e1:((i:Int) -1).toNat=i-1:=O
   have e2:l.getD (i-1) 0=l[i-1]:=by rw [List.getD_eq_getElem?_getD,List.getElem?_eq_getElem O];rfl
   rw [e1,e2]
   exact ic_at hsubl O
  generalize l.getD (i-1) 0=pv at hpv hr
  generalize l[i]=n at hat hr
  refine Xz<|Xv<|Xb<|Xv<|Xv<|Xf fun hok=>D5 C 0 hok U U G81 B81 V (.take (.take (.take (.take (.take (.take (.take (.take (.take Tk6)))))))))<|Dt 1 Y<|Dt 2 Y<|Dw 3 Y A58 B3<|Dc 4 W G3 hropl hat<|De 5 (some 17) [false,false] hok (fun _ _ A hk=>?_)
  refine R.callP C U (A.w U U) (A.x U U) (A.s U U) (minuteR_c hJ hv0 n) (hk _ _ ⟨QFs.nil, ?_⟩)
  refine Dp 6 hok (fun _ _ _ A h=>R.not C U (A.w U U) (A.x U U) h)<|Dn<|Xc U (fun h1=>?_) (fun h1=>?_)
  ·have h1:b.minute n=false:=by simpa using h1
   refine Xu W<|Hq W func28 hret ?_
   rw [h1] at hr
   rw [hr];rfl
  ·have h1:b.minute n=true:=by simpa using h1
   rw [h1] at hr
   simp only [Bool.not_true,Bool.false_eq_true,if_false] at hr
   by_cases h0:0<i
   ·have hpv:=hpv h0
    refine Xz<|Xv<|Xf fun hok=>Dt 0 Y<|Dj 1 Y5 b_gtr<|D.fixv (t:=20) (v':= .bool true) U (by(exact congrArg Value.bool (by simp [h0])))<|Dt 2 Y<|Dt 3 Y<|Dt 4 Y<|Dw 5 Y A58 B3<|Dc 6 W G3 hropl hat<|Dt 7 Y<|Dt 8 Y<|Dj 9 Y5 (b_sub O O)<|Dw 10 Y A58 B3<|Dc 11 W G3 hropl hpv<|Dj 12 Y5 b_leq<|Dp 13 hok (fun _ _ _ A h=>R.pickT C U (A.w U U) (A.x U U) (A.x U U) h)<|Dn<|Xc U (fun h2=>?_) (fun h2=>?_)
    ·have h2:n≤pv:=by simpa using h2
     refine Xu W<|Hq W func28 hret ?_
     rw [if_pos ⟨h0,h2⟩] at hr
     rw [hr];rfl
    ·have h2:¬n≤pv:=by simpa using h2
     rw [if_neg (fun e=>h2 e.2)] at hr
     refine Xz<|Xi<|Xg W<|Ro W<|Rb Y<|Ae W<|X.weaken ?_ (hnext (i+1) ⟨hi',hr⟩ O)
     exact⟨rfl,by simp [look],rfl,trivial⟩
   ·have _:=h1
    rw [if_neg (fun e=>h0 e.1)] at hr
    refine Xz<|Xv<|Xf fun hok=>Dt 0 Y<|Dj 1 Y5 b_gtr<|D.fixv (t:=20) (v':= .bool false) U (by(exact congrArg Value.bool (by simp [h0])))<|Dt 2 Y<|Dr 3 U<|Dr 4 U<|Dr 5 U<|Dr 6 U<|Dr 7 U<|Dr 8 U<|Dr 9 U<|Dr 10 U<|Dr 11 U<|Dr 12 U<|Dp 13 hok (fun _ _ _ A h=>R.pickF C U (A.w U U) (A.x U U) (A.x U U) h)<|Dn<|Xc U (fun h=>nomatch h) (fun _=>?_)
    refine Xz<|Xi<|Xg W<|Ro W<|Rb Y<|Ae W<|X.weaken ?_ (hnext (i+1) ⟨hi',hr⟩ O)
    exact⟨rfl,by simp [look],rfl,trivial⟩
 ·obtain rfl:i=l.length:=by omega
  simp only [List.drop_length,Bk.planGo] at hr
  refine Xe U<|Xx W<|Ro W<|Rt W A58<|Rv 6 W A81 U B3<|Rj W G3 V U<|Ri Z b_gtr<|Zc U (fun h1=>?_) (fun h1=>?_)
  ·have h1:b.casks<l.length:=by simpa using h1
   refine Xu W<|Hq W func28 hret ?_
   rw [if_pos h1] at hr
   rw [hr];rfl
  ·have h1:¬b.casks<l.length:=by simpa using h1
   refine Xz<|Xu W<|Hq W func28 hret ?_
   rw [if_neg h1] at hr
   rw [hr];rfl
theorem checkBookR_c(hv:BkV ro v b)(hs:b.short):CallP prog J (fnv 100) [v] ro (.int .i64 (checkBook b)):=by
 have hv0:=hv
 obtain⟨mb,mc,sb,sc,kb,kc,rfl,hp,hmc⟩:=hv.all
 have hks:=hs.ks
 rw [check_both]
 refine EP 52 hJ F100 W fun c cs tail hret C=>Xu W<|Bx Z fun p1=>Ae W<|Xx W<|R.loadAgg C U U U G81 B81 V (.take (.take (.take (.take (.take (.take (.take (.take (.take Tk6)))))))))<|Cp Z (bothR_c hJ hv0)<|Ae W<|Xm W W<|Ri Z b_neq<|Zc U (fun h1=>?_) (fun h1=>?_)
 ·have h1:b.bothH≠0:=by simpa using h1
  refine Xm W W<|Hq W F100 hret ?_
  rw [if_pos h1];rfl
 ·have h1:b.bothH=0:=by simpa using h1
  rw [if_neg (fun k=>k h1)] at hret
  refine Xz<|Xx W<|R.loadAgg C U U U G81 B81 V (.take (.take (.take (.take (.take (.take (.take (.take (.take Tk6)))))))))<|Cp Z (menR_c hJ hv0 hs)<|Ae W<|Xm W W<|Ri Z b_neq<|Zc U (fun h2=>?_) (fun h2=>?_)
  ·have h2:b.menH≠0:=by simpa using h2
   refine Xm W W<|Hq W F100 hret ?_
   rw [if_pos h2];rfl
  ·have h2:b.menH=0:=by simpa using h2
   rw [if_neg (fun k=>k h2)] at hret
   refine Xz<|Xx W<|R.loadAgg C U U U G81 B81 V (.take (.take (.take (.take (.take (.take (.take (.take (.take Tk6)))))))))<|Rv 13 W A81 U B58<|Rj W G58 V U<|Cp Z (planR_c hJ hv0 hp.2.1 hs.sent)<|Ae W<|Xm W W<|Ri Z b_neq<|Zc U (fun h3=>?_) (fun h3=>?_)
   ·have h3:b.planH b.sent≠0:=by simpa using h3
    refine Xm W W<|Hq W F100 hret ?_
    rw [if_pos h3];rfl
   ·have h3:b.planH b.sent=0:=by simpa using h3
    rw [if_neg (fun k=>k h3)] at hret
    refine Xz<|Xx W<|Rv 14 W A81 U B79<|Rj W G79 V U<|Rt W A79<|Ri Z b_gtr<|Zc U (fun hn=>?_) (fun hn=>?_)
    ·refine Xu W<|Hq W F100 hret ?_
     simp only [dT] at hn
     rw [Bk.marksH,if_pos O];rfl
    ·simp only [dF] at hn
     rw [Bk.marksH,if_neg O] at hret
     refine Xz<|Xx W<|Ae W<|Xb<|X.loopI (ι:=Nat) C.1 (fun i=>i≤b.ks.length∧b.marksGo b.ks=b.marksGo (b.ks.drop i))
      (fun i=> [(6, .int .i64 (i:Int)),(1, .pointer (some ⟨p1,0,none⟩))])
      (fun _=>⟨ro,(p1, .cells (bs b mb mc sb sc kb kc []).toArray 81 (0,0))::tail⟩) (fun i=>b.ks.length-i) 0 ⟨Nat.zero_le _,by simp⟩ rfl ⟨U,U,trivial⟩ fun i hi hnext=>?_
     obtain⟨hi,hr⟩:=hi
     refine Xx W<|Ro W<|Rv 14 W A81 U B79<|Rj W G79 V U<|Rt W A79<|Ri Z b_lss<|Zj U (fun hlt=>?_) (fun hlt=>?_)
     ·have hi':i<b.ks.length:=O
      obtain⟨p,off,cap,l,t,fq,hsl',hrop,hsub⟩:=hp.2.2.1.at Mk.len O
      cases hsl'
      rw [List.drop_eq_getElem_cons hi'] at hr
      have hsi:=hsub i hi'
      generalize b.ks[i]=q at hr hsi
      simp only [Bk.marksGo] at hr
      have hx0:l[off+i*3+0]? =some (.int .i64 q.n):=hsi.get 0 Dd
      have hx1:Sub (off+i*3+1) 2 l [.int .i64 q.r.lo, .int .i64 q.r.hi]:=hsi.part (i:=1) (m:=2) Dd
      refine Xz<|Xv<|Xb<|Xv<|Xv<|Xf fun hok=>D5 C 0 hok U U G81 B81 V (.take (.take (.take (.take (.take (.take (.take (.take (.take Tk6)))))))))<|Dh 14 1 Y A81 U B79<|Db 2 W G79 V U<|Dt 3 Y<|Dw 4 Y A79 B309<|Df C 5 hok U U U A309 U B3 U<|Dc 6 W G3 hrop hx0<|De 7 (some 42) [false,false,false] hok (fun _ _ A hk=>?_)
      refine R.callP C U (A.w U U) (A.x U U) (A.s U U) (minuteR_c hJ hv0 q.n) (hk _ _ ⟨QFs.nil, ?_⟩)
      refine Dp 8 hok (fun _ _ _ A h=>R.not C U (A.w U U) (A.x U U) h)<|Dn<|Xc U (fun g1=>?_) (fun g1=>?_)
      ·have g1:b.minute q.n=false:=by simpa using g1
       refine Xu W<|Hq W F100 hret ?_
       rw [g1] at hr
       rw [hr];rfl
      ·have g1:b.minute q.n=true:=by simpa using g1
       rw [g1] at hr
       simp only [Bool.not_true,Bool.false_eq_true,if_false] at hr
       refine Xz<|Xu W<|Rv 14 W A81 U B79<|Rj W G79 V U<|Ro W<|Ry Y A79 B309<|R.fieldAddr C U U U A309 U B45 U<|La Y G45 B45 hrop hx1<|Cp Z (insideR_c hJ q.r _ _ _)<|Rh Y<|Zc U (fun g3=>?_) (fun g3=>?_)
       ·have g3:B.isReach q.r 0 99=false:=by simpa using g3
        refine Xu W<|Hq W F100 hret ?_
        rw [g3] at hr
        rw [hr];rfl
       ·have g3:B.isReach q.r 0 99=true:=by simpa using g3
        rw [g3] at hr
        simp only [Bool.not_true,Bool.false_eq_true,if_false] at hr
        refine Xz<|Xi<|Xg W<|Ro W<|Rb Y<|Ae W<|X.weaken ?_ (hnext (i+1) ⟨hi',hr⟩ O)
        exact⟨by simp [look],rfl,trivial⟩
     ·obtain rfl:i=b.ks.length:=by omega
      simp only [List.drop_length,Bk.marksGo] at hr
      refine Xe U<|Xu W<|Hq W F100 hret ?_
      rw [hr];rfl
omit hJ in
def fit(b:Bk):Bool:= !great b && (checkBook b==0)
omit hJ in
theorem fit_true(h:fit b=true):great b=false∧checkBook b=0:=by simpa [fit] using h
theorem fitR_c(hv:BkV ro v b):CallP prog J (fnv 27) [v] ro (.bool (fit b)):=by
 have hv0:=hv
 obtain⟨mb,mc,sb,sc,kb,kc,rfl,hp,hmc⟩:=hv.all
 by_cases hg:great b=true
 ·have _:=hg
  refine EP 11 hJ func27 W fun c cs tail hret C=>Xu W<|Bx Z fun p1=>Ae W<|Xu W<|R.loadAgg C U U U G81 B81 V (.take (.take (.take (.take (.take (.take (.take (.take (.take Tk6)))))))))<|Cp Z (greatR_c hJ hv0)<|Rh Y<|FF 5 U (by(rw [hg];rfl))<|Ro W<|Rp W<|Rp W<|Rp W<|Pf Z<|Hq W func27 hret ?_
  simp [fit,hg,retVal]
 ·have hg:great b=false:=by simpa using hg
  refine EP 11 hJ func27 W fun c cs tail hret C=>Xu W<|Bx Z fun p1=>Ae W<|Xu W<|R.loadAgg C U U U G81 B81 V (.take (.take (.take (.take (.take (.take (.take (.take (.take Tk6)))))))))<|Cp Z (greatR_c hJ hv0)<|Rh Y<|FT 5 U (by(rw [hg];rfl))<|Ro W<|R.loadAgg C U U U G81 B81 V (.take (.take (.take (.take (.take (.take (.take (.take (.take Tk6)))))))))<|Cp Z (checkBookR_c hJ hv0 (short_of hg))<|Ri Z b_eql<|Pp Z<|Hq W func27 hret ?_
  simp [fit,hg,retVal]
end Go.Lg.Be
namespace Go.Lg.B
open Go Go.Conc Go.Lg Go.Proofs Go.Proofs.Tryz
section
abbrev U16:={n:Int//0≤n∧n≤65535}
def uc(n:U16):List Value:= [.int .u16 n.1]
end
section
variable {d:Bk}{k:Ks}{g:Int}
structure RealOk(d:Bk)(k:Ks):Prop where
 ch:checkBook d=0
 cs:((k.ks,k.ws):Tn)∈cases d
theorem RealOk.ne(h:RealOk d k):cases d≠ []:=fun e=>by have:=h.cs;rw [e] at this;cases this
theorem RealOk.weights(h:RealOk d k)(i:Int):(weightsOf d i).contains (nth k.ws i)=true:=by
 rw [List.contains_iff_mem];exact weightsOf_mem.2 ⟨_,h.cs,rfl⟩
theorem RealOk.sure(h:RealOk d k){p:Int}(hm:may d g p=1):lifts d k.ks g (nth k.ws p)=true:=by
 rw [may,how_one (List.length_pos_iff.2 h.ne),filter_all,List.all_eq_true] at hm
 exact hm _ h.cs
theorem RealOk.most(h:RealOk d k)(hg:0≤g∧g<d.gs.length):lifts d k.ks g (Go.Lg.B.most d g)=true:=by
 obtain⟨a1,a2,a3⟩:=most_law (good_of h.ch) hg.1 hg.2
 have:=(a3 _ a1 a2).2 (Int.le_refl _)
 unfold allLift at this
 rw [List.all_eq_true] at this
 exact this (k.ks,k.ws) h.cs
theorem RealOk.weak(h:RealOk d k){n x:Int}(hx:x∈gives d k.ks g n):(Go.Lg.B.weak d g n).contains x=true:=by
 have hm:x∈Go.Lg.B.weak d g n:=weak_mem.2 ⟨(k.ks,k.ws),h.cs,hx⟩
 exact List.contains_iff_mem.2 hm
end
section
def grow(all:List (List Int))(r:Rc):List (List Int):=all.flatMap fun x=>r.nums.map fun n=>x++ [n]
theorem grow_spread:∀ (rs:List Rc) (all:List (List Int)),rs.foldl grow all=all.flatMap fun x=>(spread rs).map (x++ ·)
 | [],all=>by simp [spread]
 |r::rs,all=>by
  rw [List.foldl_cons,grow_spread rs,grow,List.flatMap_assoc]
  congr 1;funext x
  simp only [spread,List.flatMap_map,List.map_flatMap,List.map_map]
  congr 1;funext n;congr 1;funext l;simp
theorem grow_all(rs:List Rc):rs.foldl grow [[]]=spread rs:=by rw [grow_spread];simp
theorem grow_to(rs:List Rc){i:Nat}(h:i<rs.length):spread (rs.take (i+1))=grow (spread (rs.take i)) rs[i]:=by
 rw [←grow_all, ←grow_all,List.take_succ_eq_append_getElem h,List.foldl_append];rfl
theorem grow_take(l:List (List Int))(r:Rc){k:Nat}(h:k<l.length):grow (l.take (k+1)) r=grow (l.take k) r++r.nums.map fun n=>l[k]++ [n]:=by
 unfold grow;rw [List.take_succ_eq_append_getElem h,List.flatMap_append];simp
theorem grow_le(l:List (List Int)){r:Rc}(h:r.hi-r.lo<3):(grow l r).length≤3*l.length:=by
 unfold grow
 induction l with
 |nil=>simp
 |cons x l ih=>
  have:r.nums.length≤3:=by rw [Rc.nums,rz_len];omega
  rw [List.flatMap_cons,List.length_append,List.length_map,List.length_cons];omega
theorem rz_to(lo:Int):∀m,rz lo (m+1)=rz lo m++ [lo+m]
 |0=>by simp [rz]
 |m+1=>by
  rw [rz,rz_to (lo+1) m,rz,List.cons_append,show lo+1+(m:Int)=lo+((m+1:Nat):Int) by omega]
end
end Go.Lg.B
namespace Go.Lg.Be
open Go Go.Conc Go.Lg Go.Proofs Go.Lg.B Go.Proofs.Tryz
variable {n:Int}{ws:List Int}{b:Bk}{v:Value}{ro:RO}{wb:Option Addr}{wc:Nat}
theorem used_take{i:Nat}(h:i<ws.length):used (n,ws.take (i+1))=used (n,ws.take i)+ws[i]:=by
 simp only [used,List.take_succ_eq_append_getElem h,List.foldl_append,List.foldl_cons,List.foldl_nil]
theorem used_in(hn:0≤n∧n≤99)(h:∀x∈ws,0≤x∧x≤99):0≤used (n,ws)∧used (n,ws)≤99+99*(ws.length:Int):=by
 have key:∀ (l:List Int) (a:Int),(∀x∈l,0≤x∧x≤99)→a≤l.foldl (· + ·) a∧l.foldl (· + ·) a≤a+99*(l.length:Int):=by
  intro l
  induction l with
  |nil=>intro a _;simp
  |cons x l ih=>
   intro a h
   have h1:=h x Zi
   have h2:=ih (a+x) fun y hy=>h y (by simp [hy])
   simp only [List.foldl_cons,List.length_cons]
   omega
 have:=key ws n h
 simp only [used]
 omega
theorem take_in(h:∀x∈ws,0≤x∧x≤99)(i:Nat):∀x∈ws.take i,0≤x∧x≤99:=fun x hx=>h x (List.mem_of_mem_take hx)
variable {main:Bool}{J:Goroutine→Mem→Prop}(hJ:Closed prog main J)
include hJ
theorem dryR_c(hv:BkV ro v b)(hb:b.good)(hn:0≤n∧n≤100000):CallP prog J (fnv 189) [v, .int .i64 n] ro (.int .i64 (dry b n)):=by
 obtain⟨mb,mc,sb,sc,kb,kc,rfl,hp,hmc⟩:=hv.all
 have hd:=hb.dep
 refine EP 11 hJ func189 W fun c cs tail hret C=>Xu W<|Bx Z fun p2=>Ae W<|Xm W W<|Ri Z (b_mul O O)<|Rv 1 W A81 U B3<|Rj W G3 V U<|Rb Y<|Ri Z (b_quoP O O O)<|Hq W func189 hret ?_
 rfl
theorem roomR_c(hv:BkV ro v b)(hb:b.good):CallP prog J (fnv 252) [v] ro (.int .i64 (holds b)):=by
 obtain⟨mb,mc,sb,sc,kb,kc,rfl,hp,hmc⟩:=hv.all
 have hd:=hb.dep
 have hr:=hb.room
 have h3:b.room*(33+b.dep)≤99*132:=Int.mul_le_mul hr.2 O O O
 have h4:0≤b.room*(33+b.dep):=Int.mul_nonneg O O
 refine EP 10 hJ func252 W fun c cs tail hret C=>Xu W<|Bx Z fun p1=>Ae W<|Xu W<|Rv 0 W A81 U B3<|Rj W G3 V U<|Rv 1 W A81 U B3<|Rj W G3 V U<|Rb Y<|Ri Z (b_mul O O)<|Ri Z (b_quoP O O O)<|Hq W func252 hret ?_
 rfl
theorem usedR_c(hv:BkV ro v b)(hb:b.good)(hw:LsI ro (.slice wb ws.length wc) ws)(hwl:ws.length≤3)(hn:0≤n∧n≤99)(hwi:∀x∈ws,0≤x∧x≤99):CallP prog J (fnv 253) [v, .agg [.int .i64 n, .slice wb ws.length wc].toArray] ro (.int .i64 (b.lamps+used (n,ws))):=by
 obtain⟨mb,mc,sb,sc,kb,kc,rfl,hp,hmc⟩:=hv.all
 have hlamps:=hb.lamps
 have hu0:used (n,ws.take 0)=n:=rfl
 refine EP 27 hJ func253 W fun c cs tail hret C=>Xu W<|Bx Z fun p2=>Bx Z fun p3=>Ae W<|Xu W<|Rv 4 W A81 U B3<|Rj W G3 V U<|Rv 0 W A200 U B3<|Rj W G3 V U<|Rb Y<|Ae W<|Xx W<|Ae W<|Xb<|X.loopI (ι:=Nat) C.1 (fun i=>i≤ws.length)
  (fun i=> [(6, .int .i64 (i:Int)),(5, .int .i64 (b.lamps+used (n,ws.take i))),(2, .pointer (some ⟨p2,0,none⟩)),(3, .pointer (some ⟨p3,0,none⟩))])
  (fun _=>⟨ro,(p3, .cells [.int .i64 n, .slice wb ws.length wc].toArray 200 (0,0))::(p2, .cells (bs b mb mc sb sc kb kc []).toArray 81 (0,0))::tail⟩) (fun i=>ws.length-i) 0 (Nat.zero_le _) rfl ⟨U,U,U,U,trivial⟩ fun i hi hnext=>?_
 refine Xx W<|Ro W<|Rv 1 W A200 U B58<|Rj W G58 V U<|Rt W A58<|Ri Z b_lss<|Zj U (fun hlt=>?_) (fun hlt=>?_)
 ·have hi':i<ws.length:=O
  obtain⟨pl,offl,capl,ll,tl,fql,hsll,hropl,hsubl⟩:=hw.at ic_len O
  cases hsll
  have hat:=ic_at hsubl hi'
  have ht:=used_take (n:=n) hi'
  have hu:=used_in hn (take_in hwi i)
  have hx:=hwi _ (List.getElem_mem hi')
  have hl3:(ws.take i).length≤3:=by rw [List.length_take];omega
  generalize used (n,ws.take i)=a at ht hu⊢
  generalize ws[i]=y at hat ht hx
  refine Xz<|Xv<|Xb<|Xg W<|Ro W<|Rv 1 W A200 U B58<|Rj W G58 V U<|Ro W<|Ry Y A58 B3<|Lo Y G3 hropl hat<|Rb Y<|Ae W<|Xi<|Xg W<|Ro W<|Rb Y<|Ae W<|X.weaken ?_ (hnext (i+1) hi' O)
  exact⟨by simp [look],by simp only [look,ht];congr 2;omega,rfl,rfl,trivial⟩
 ·obtain rfl:i=ws.length:=by omega
  rw [List.take_length]
  refine Xe U<|Xm W W<|Hq W func253 hret ?_
  rfl
theorem playR_c(hv:BkV ro v b)(hb:b.good)(hw:LsI ro (.slice wb ws.length wc) ws)(hwl:ws.length≤3)(hn:0≤n∧n≤99)(hwi:∀x∈ws,0≤x∧x≤99){w:Value}{l:List Int}(hl:LsI ro w l)(hll:l.length≤1000):
  CallR prog J (fnv 188) [v, .agg [.int .i64 n, .slice wb ws.length wc].toArray,w] ro (fun w ro'=>∃l:List Int,LsI ro' w l∧l.length=b.mins.toNat∧∀x∈l,0≤x∧x≤396):=by
 have hv0:=hv
 obtain⟨mb,mc,sb,sc,kb,kc,rfl,hp,hmc⟩:=hv.all
 have hl0:=hl
 obtain⟨lb,lc,rfl⟩:=hl.form
 have hlamps:=hb.lamps
 have hmins:=hb.mins
 have hroom:=hb.room
 have hcask:=hb.cask
 have hpump:=hb.pump
 have hhold:=holds_in hb
 have hu:=used_in hn hwi
 refine ER 51 hJ func188 W fun c cs tail hret C=>Xu W<|Bx Z fun p3=>Bx Z fun p4=>Ae W<|Xo W W<|Xu W<|Rv 0 W A81 U B3<|Rj W G3 V U<|Ae W<|Xx W<|Ae W<|Xb<|X.loopI (ι:=Nat×Int×Value×List Int×List (Nat×Obj)) C.1 (fun s=>s.1≤b.mins.toNat∧(0≤s.2.1∧s.2.1≤396)∧Buf 3 1 [] s.2.2.1 (s.2.2.2.1.flatMap ic) s.2.2.2.2∧s.2.2.2.1.length=s.1∧∀x∈s.2.2.2.1,0≤x∧x≤396)
  (fun s=> [(7,s.2.2.1),(8, .int .i64 s.2.1),(9, .int .i64 ((s.1:Int)+1)),(2, .slice lb l.length lc),(3, .pointer (some ⟨p3,0,none⟩)),(4, .pointer (some ⟨p4,0,none⟩))])
  (fun s=>⟨ro,s.2.2.2.2++((p4, .cells [.int .i64 n, .slice wb ws.length wc].toArray 200 (0,0))::(p3, .cells (bs b mb mc sb sc kb kc []).toArray 81 (0,0))::tail)⟩) (fun s=>b.mins.toNat-s.1) (0,b.room, .slice none 0 0, [], []) ⟨Nat.zero_le _,by simp only;omega, .nil,rfl,fun _ h=>nomatch h⟩ rfl ⟨U,U,U,U,U,U,trivial⟩ fun s hs' hnext=>?_
 obtain⟨i,a,v0,zs,own0⟩:=s
 obtain⟨hi,ha,hbuf,hzl,hzi⟩:=hs'
 simp only at hi ha hbuf hzl hzi hnext⊢
 refine Xx W<|Ro W<|Rv 3 W A81 U B3<|R.loadOne C U U U G3 Vm U<|Ri Z b_leq<|Zj U (fun hlt=>?_) (fun hlt=>?_)
 ·have hi':i<b.mins.toNat:=O
  have hfl:=flat_len zs
  refine Xz<|Xv<|Xb<|Xx W<|Oo W W<|Cp Z (holdsR_c hJ hl0 O ((i:Int)+1))<|Rz<|X.afterI (ι:=Int) (fun a=>0≤a∧a≤600) (fun a=> [(8, .int .i64 a),(7,v0),(9, .int .i64 ((i:Int)+1)),(2, .slice lb l.length lc),(3, .pointer (some ⟨p3,0,none⟩)),(4, .pointer (some ⟨p4,0,none⟩))])
   (fun _=>⟨ro,own0++((p4, .cells [.int .i64 n, .slice wb ws.length wc].toArray 200 (0,0))::(p3, .cells (bs b mb mc sb sc kb kc []).toArray 81 (0,0))::tail)⟩) (fun a1 ha1=>?_) (fun hcont=>?_)
  rotate_left
  ·have _:=ha
   refine Xc U (fun g1=>?_) (fun g1=>?_)
   ·refine Xg W<|Ro W<|Rv 5 W A81 U B3<|R.loadOne C U U U G3 Vm U<|Rb Y<|Ae W<|X.weaken ?_ (hcont (a+b.cask) O)
    exact⟨U,U,U,U,U,U,trivial⟩
   ·refine Xz<|X.weaken ?_ (hcont a O)
    exact⟨U,U,U,U,U,U,trivial⟩
  refine Xx W<|Ro W<|Rv 10 W A81 U B45<|Rv 10 W A45 U B3<|R.loadOne C U U U G3 Vm U<|Rv 10 W A81 U B45<|Rv 11 W A45 U B3<|R.loadOne C U U U G3 Vm U<|Cp Z (betweenR_c hJ _ _ _ _)<|Rz<|X.afterI (ι:=Int) (fun a=>0≤a∧a≤700) (fun a=> [(8, .int .i64 a),(7,v0),(9, .int .i64 ((i:Int)+1)),(2, .slice lb l.length lc),(3, .pointer (some ⟨p3,0,none⟩)),(4, .pointer (some ⟨p4,0,none⟩))])
   (fun _=>⟨ro,own0++((p4, .cells [.int .i64 n, .slice wb ws.length wc].toArray 200 (0,0))::(p3, .cells (bs b mb mc sb sc kb kc []).toArray 81 (0,0))::tail)⟩) (fun a2 ha2=>?_) (fun hcont=>?_)
  rotate_left
  ·have _:=ha
   refine Xc U (fun g1=>?_) (fun g1=>?_)
   ·refine Xg W<|Ro W<|Rv 7 W A81 U B3<|R.loadOne C U U U G3 Vm U<|Rb Y<|Ae W<|X.weaken ?_ (hcont (a1+b.pump) O)
    exact⟨U,U,U,U,U,U,trivial⟩
   ·refine Xz<|X.weaken ?_ (hcont a1 O)
    exact⟨U,U,U,U,U,U,trivial⟩
  refine Xv<|Xf fun hok=>Dt 0 Y<|Dl 1 hok (fun _ _ A h=>R.loadAgg C U (A.w U U) (A.x U U) G81 B81 Vm (.take (.take (.take (.take (.take (.take (.take (.take (.take Tk6))))))))) h)<|Dl 4 hok (fun _ _ A h=>R.loadAgg C U (A.w U U) (A.x U U) G81 B81 Vm (.take (.take (.take (.take (.take (.take (.take (.take (.take Tk6))))))))) h)<|Dl 5 hok (fun _ _ A h=>R.loadAgg C U (A.w U U) (A.x U U) isAgg200 B200 Vm Tk2 h)<|De 2 (some 39) [true,true,false] hok (fun _ _ A hk=>?_)
  refine R.callP C U (A.w U U) (A.x U U) (A.s U U) (roomR_c hJ hv0 hb) (hk _ _ ⟨(QFs.cons (QF.of U (fun _ _ A h=>R.loadAgg C U (A.w U U) (A.x U U) isAgg200 B200 Vm Tk2 h)) (QFs.cons (QF.of U (fun _ _ A h=>R.loadAgg C U (A.w U U) (A.x U U) G81 B81 Vm (.take (.take (.take (.take (.take (.take (.take (.take (.take Tk6))))))))) h)) QFs.nil)), ?_⟩)
  refine Dp 3 hok (fun _ _ _ A h=>R.min2 C U (A.w U U) (A.x U U) (A.x U U) h)<|De 6 (some 43) [false,false] hok (fun _ _ A hk=>?_)
  refine R.callP C U (A.w U U) (A.x U U) (A.s U U) (usedR_c hJ hv0 hb hw hwl hn hwi) (hk _ _ ⟨QFs.nil, ?_⟩)
  refine Dj 7 Y5 (b_sub O O)<|Dp 8 hok (fun _ _ _ A h=>R.max2 C U (A.w U U) (A.x U U) (A.x U U) h)<|Da C 9 hok U U<|Dn<|Xg W<|Oo W W<|R.buildSlice C (vs:=_) U U (show pvals _ _=some (numbered 0 [_]) from rfl) U A58 B3 K3 Dd (Cat.one U U) fun p48=>R.append1 (kk:=1) C U U U U A58 A58 (fun _=>nofun) (show prog.info? 3=some Tryz.t3 by kernel_rfl) U U U Dd Dd (hbuf.app _) U U (by simp only [List.length_append,List.length_cons,List.length_nil];omega) fun v' own' hb'=>Ae W<|Xi<|Xg W<|Ro W<|Rb Y<|Ae W ?_
  obtain⟨own4,rfl,hb4⟩:=hb'.unapp
  refine X.weaken ?_ (hnext (i+1,max 0 (min a2 (holds b) - (b.lamps+used (n,ws))),v',zs++ [max 0 (min a2 (holds b) - (b.lamps+used (n,ws)))],own4) ⟨O,by simp only;omega, ?_,by simp [hzl],fun x hx=>?_⟩ (by simp only;omega))
  ·exact⟨rfl,rfl,by simp [look],rfl,rfl,rfl,trivial⟩
  ·rw [List.flatMap_append];exact hb4
  ·rcases List.mem_append.1 hx with hx|hx
   ·exact hzi x hx
   ·rw [List.mem_singleton.1 hx];omega
 ·obtain rfl:i=b.mins.toNat:=by omega
  refine Xe U<|Xm W W<|Ae W<|X.finish C.1 ic_len Dd (hbuf.app _) fun ro3 hl3 hls=>Xw func188<|hret _ _ _ hl3 (by repeat (first|exact List.Sublist.refl _|apply List.Sublist.cons|apply List.sublist_append_of_sublist_right)) ?_
  exact⟨zs,hls,hzl,hzi⟩
theorem caseR_c(hv:BkV ro v b)(hb:b.good){wv:Value}(hw:LsI ro wv ws)(hwl:ws.length=b.ms.length)(hn:0≤n∧n≤99)(hwi:∀x∈ws,0≤x∧x≤99):
  CallR prog J (fnv 102) [v, .agg [.int .i64 n,wv].toArray] ro (fun w _=>∃z:Bool,w= .bool z):=by
 have hv0:=hv
 obtain⟨mb,mc,sb,sc,kb,kc,rfl,hp,hmc⟩:=hv.all
 have hw0:=hw
 obtain⟨wb,wc,rfl⟩:=hw.form
 have hnm:=hb.nm
 have hnk:=hb.nk
 have hse:=hb.sent
 have hks:=hb.ks
 have hmins:=hb.mins
 refine ER 80 hJ func102 W fun c cs tail hret C=>Xu W<|Bx Z fun p2=>Bx Z fun p3=>Ae W<|Xx W<|Rv 0 W A200 U B3<|Rj W G3 V U<|Rv 8 W A81 U B45<|Rv 8 W A45 U B3<|Rj W G3 V U<|Rv 8 W A81 U B45<|Rv 9 W A45 U B3<|Rj W G3 V U<|Cp Z (betweenR_c hJ _ _ _ _)<|Rh Y<|Zc U (fun h1=>?_) (fun h1=>?_)
 ·refine Xo W W<|Xw func102<|Hr hret (RO.le_refl _) ?_
  exact⟨_,rfl⟩
 ·refine Xz<|Xx W<|Ae W<|Xb<|X.loopI (ι:=Nat) C.1 (fun i=>i≤ws.length)
   (fun i=> [(5, .int .i64 (i:Int)),(2, .pointer (some ⟨p2,0,none⟩)),(3, .pointer (some ⟨p3,0,none⟩))])
   (fun _=>⟨ro,(p3, .cells [.int .i64 n, .slice wb ws.length wc].toArray 200 (0,0))::(p2, .cells (bs b mb mc sb sc kb kc []).toArray 81 (0,0))::tail⟩) (fun i=>ws.length-i) 0 (Nat.zero_le _) rfl ⟨U,U,U,trivial⟩ fun i hi hnext=>?_
  refine Xx W<|Ro W<|Rv 1 W A200 U B58<|Rj W G58 V U<|Rt W A58<|Ri Z b_lss<|Zc U (fun hlt=>?_) (fun hlt=>?_)
  ·simp only [dT] at hlt
   have hi':i<ws.length:=O
   obtain⟨pl,offl,capl,ll,tl,fql,hsll,hropl,hsubl⟩:=hw0.at ic_len O
   cases hsll
   have hat:=ic_at hsubl hi'
   obtain⟨p,off,cap,ml,t,fq,hsl',hrop,hsub⟩:=hp.1.at Mn.len O
   cases hsl'
   have hsi:=hsub i O
   generalize b.ms[i]=q at hsi
   have hx1:ml[off+i*3+1]? =some (.int .i64 q.r.lo):=hsi.get 1 Dd
   have hx2:ml[off+i*3+2]? =some (.int .i64 q.r.hi):=hsi.get 2 Dd
   generalize ws[i]=y at hat
   refine Xz<|Xv<|Xb<|Xv<|Xf fun hok=>Dh 1 0 Y A200 U B58<|Db 1 W G58 V U<|Dt 2 Y<|Dw 3 Y A58 B3<|Dc 4 W G3 hropl hat<|Dh 12 5 Y A81 U B78<|Db 6 W G78 V U<|Dt 7 Y<|Dw 8 Y A78 B198<|Df C 9 hok U U U A198 U B45 U<|Df C 10 hok U U U A45 U B3 U<|Dc 11 W G3 hrop hx1<|Dh 12 12 Y A81 U B78<|Db 13 W G78 V U<|Dt 14 Y<|Dw 15 Y A78 B198<|Df C 16 hok U U U A198 U B45 U<|Df C 17 hok U U U A45 U B3 U<|Dc 18 W G3 hrop hx2<|De 19 (some 45) [false,false,false,false,false,false] hok (fun _ _ A hk=>?_)
   refine R.callP C U (A.w U U) (A.x U U) (A.s U U) (betweenR_c hJ _ _ _ _) (hk _ _ ⟨QFs.nil, ?_⟩)
   refine Dp 20 hok (fun _ _ _ A h=>R.not C U (A.w U U) (A.x U U) h)<|Dn<|Xc U (fun g1=>?_) (fun g1=>?_)
   ·refine Xo W W<|Xw func102<|Hr hret (RO.le_refl _) ?_
    exact⟨_,rfl⟩
   ·refine Xz<|Xi<|Xg W<|Ro W<|Rb Y<|Ae W<|X.weaken ?_ (hnext (i+1) hi' O)
    exact⟨by simp [look],rfl,rfl,trivial⟩
  ·refine Xe U<|Xu W<|R.loadAgg C U U U G81 B81 V (.take (.take (.take (.take (.take (.take (.take (.take (.take Tk6)))))))))<|Rq W isAgg200 B200 V Tk2<|Rv 13 W A81 U B58<|Rj W G58 V U<|R.callR C U U U U (playR_c hJ hv0 hb hw0 O hn hwi hp.2.1 O) fun v1 ro1 hl1 hq1=>?_
   obtain⟨l,hls,hll,hli⟩:=hq1
   obtain⟨lb,lc,rfl⟩:=hls.form
   refine Ae W<|Xx W<|Ae W<|Xb<|X.loopI (ι:=Nat) C.1 (fun i=>i≤b.ks.length)
    (fun i=> [(7, .int .i64 (i:Int)),(6, .slice lb l.length lc),(2, .pointer (some ⟨p2,0,none⟩))])
    (fun _=>⟨ro1,(p3, .cells [.int .i64 n, .slice wb ws.length wc].toArray 200 (0,0))::(p2, .cells (bs b mb mc sb sc kb kc []).toArray 81 (0,0))::tail⟩) (fun i=>b.ks.length-i) 0 (Nat.zero_le _) rfl ⟨U,U,U,trivial⟩ fun j hj hnext2=>?_
   refine Xx W<|Ro W<|Rv 14 W A81 U B79<|Rj W G79 V U<|Rt W A79<|Ri Z b_lss<|Zc U (fun hlt2=>?_) (fun hlt2=>?_)
   ·simp only [dT] at hlt2
    have hj':j<b.ks.length:=O
    obtain⟨pk,offk,capk,kl,tk,fqk,hslk,hropk,hsubk⟩:=(hp.2.2.1.mono hl1).at Mk.len O
    cases hslk
    have hsi:=hsubk j hj'
    have hq:=hks _ (List.getElem_mem hj')
    generalize b.ks[j]=q at hsi hq
    unfold Mk.cells at hsi
    obtain⟨pl,offl,capl,ll,tl,fql,hsll,hropl,hsubl⟩:=hls.at ic_len O
    cases hsll
    have hat:ll[offl+(q.n-1).toNat*1]? =some (.int .i64 l[(q.n-1).toNat]):=ic_at hsubl O
    have hyi:=hli _ (List.getElem_mem (show(q.n-1).toNat<l.length by omega))
    generalize l[(q.n-1).toNat]=y at hat hyi
    refine Xz<|Xv<|Xb<|Xu W<|Rv 14 W A81 U B79<|Rj W G79 V U<|Ro W<|Ry Y A79 B309<|La Y isAgg309 B309 hropk hsi<|Al W zeroValue309 U fun p8=>Rs Z B309 Y V Ph3<|Rz<|Xv<|Xf fun hok=>D5 C 0 hok U U G81 B81 V (.take (.take (.take (.take (.take (.take (.take (.take (.take Tk6)))))))))<|Dt 1 Y<|Dh 0 2 Y A309 U B3<|Db 3 W G3 V U<|Dj 4 Y5 (b_sub O O)<|Dw 5 Y A58 B3<|Dc 6 W G3 hropl hat<|Dh 1 8 Y A309 U B45<|Dh 1 9 Y A45 U B3<|Db 10 W G3 V U<|Dh 1 11 Y A309 U B45<|Dh 2 12 Y A45 U B3<|Db 13 W G3 V U<|De 7 (some 71) [true,true,false,false,false] hok (fun _ _ A hk=>?_)
    refine R.callP C U (A.w U U) (A.x U U) (A.s U U) (dryR_c hJ (hv0.mono hl1) hb O) (hk _ _ ⟨(QFs.cons (QF.of U (fun _ _ A h=>R.loadOne C U (A.w U U) (A.x U U) G3 V U h)) (QFs.cons (QF.of U (fun _ _ A h=>R.loadOne C U (A.w U U) (A.x U U) G3 V U h)) QFs.nil)), ?_⟩)
    refine De 14 (some 78) [false,false] hok (fun _ _ A hk=>?_)
    refine R.callP C U (A.w U U) (A.x U U) (A.s U U) (betweenR_c hJ _ _ _ _) (hk _ _ ⟨QFs.nil, ?_⟩)
    refine Dp 15 hok (fun _ _ _ A h=>R.not C U (A.w U U) (A.x U U) h)<|Dn<|Xc U (fun g1=>?_) (fun g1=>?_)
    ·refine Xo W W<|Xw func102<|Hr hret hl1 ?_
     exact⟨_,rfl⟩
    ·refine Xz<|Xi<|Xg W<|Ro W<|Rb Y<|Ae W<|X.drop C.1 (own':=_::_::tail) (List.sublist_cons_self _ _)<|X.weaken ?_ (hnext2 (j+1) hj' O)
     exact⟨by simp [look],rfl,rfl,trivial⟩
   ·refine Xe U<|Xo W W<|Xw func102<|Hr hret hl1 ?_
    exact⟨_,rfl⟩
end Go.Lg.Be
