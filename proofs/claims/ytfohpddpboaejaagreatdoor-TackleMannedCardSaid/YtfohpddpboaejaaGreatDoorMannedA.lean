/-
  It is proved that the given function answers true for every input, whatever is scheduled: the statement Manned of the seat. Conditions: none but those of the given statement itself.
-/
import Derived.Test.YtfohpddpboaejaaGreatDoorKE
import GoSem.Core.Utf8
import Derived.Conc.Holds
set_option maxRecDepth 100000
set_option maxHeartbeats 2000000
set_option linter.all false
namespace Go.Lg
open Go
theorem Bv{a c:Bool}(h:a=c):Value.bool a=Value.bool c:=congrArg _ h
end Go.Lg
namespace Go.Lg.B
open Go Go.Conc Go.Lg Go.Proofs Go.Proofs.Tryz
section
variable {b:Bk}
def nothing:Bk:=⟨0, [], [], [], []⟩
def newB(b:Bk)(h:Int):Bk:=if h=0 then b else nothing
theorem noBk_v(ro:RO):BkV ro noBk nothing:=⟨_,_,_,_,rfl, .nil,⟨[], .nil,rfl,fun z hz=>by cases hz⟩, .nil, .nil⟩
theorem NewV.bk{ro:RO}{h:Int}{w:Value}(hn:NewV ro b h w):∃v,BkV ro v (newB b h)∧w= .tuple [v, .int .i64 h].toArray:=by
 rcases hn with⟨h0,rfl⟩|⟨rfl,v,hv,rfl⟩
 ·exact⟨_,by rw [newB,if_neg h0];exact noBk_v ro,rfl⟩
 ·exact⟨v,hv,rfl⟩
theorem piece_fine(hb:b.good){i:Int}(h:0≤i∧i<b.cs.length):(b.piece i).fine:=by
 have hk:i.toNat<b.cs.length:=O
 have hp:b.piece i=b.cs[i.toNat]:=by simp [Bk.piece,List.getD_eq_getElem?_getD,hk]
 rw [hp];exact hb.cs _ (List.getElem_mem hk)
end
section
variable {b c:Bk}{p q:List Int}{g m n:Int}
theorem pulls_alike(hg:c.gs=b.gs)(hs:∀x,c.sheaves x=b.sheaves x)(g n:Int):pulls c g n=pulls b g n:=by
 have e:c.gear g=b.gear g:=by unfold Bk.gear;rw [hg]
 unfold pulls
 rw [e,pullsGo_alike hs]
theorem gives_up(hb:b.good)(hw:b.w≤c.w)(hg:c.gs=b.gs)(hs:∀x,c.sheaves x=b.sheaves x)(h:∀j:Nat,j<b.ps.length→nth p j≤nth q j)(h0:0≤g)(h1:g<b.gs.length)(hn:m≤n){x:Int}(hx:x∈gives c q g m):x∈gives b p g n:=by
 have e:c.gear g=b.gear g:=by unfold Bk.gear;rw [hg]
 have hm:=(pulls_mono hb h0 h1 hn).getD
 rw [gives_mem,e,pulls_alike hg hs] at hx
 rw [gives_mem]
 rcases hx with⟨i,h2,h3,h4⟩|⟨h3,h4⟩
 ·refine .inl ⟨i,h2, ?_,h4⟩
  have hgm:=(hb.gear h0 h1).2.1
  have e2:(b.gear g).getD i 0=(b.gear g)[i]:=by simp [List.getD_eq_getElem?_getD,h2]
  have hi:=hgm _ (List.getElem_mem h2)
  rw [e2] at h3⊢
  have:=h ((b.gear g)[i]).toNat O
  rw [show((((b.gear g)[i]).toNat:Nat):Int)=(b.gear g)[i] by omega] at this
  have:=hm i
  omega
 ·exact .inr ⟨by have:=hm (b.gear g).length;omega,h4⟩
theorem lifts_up(hb:b.good)(hw:b.w≤c.w)(hg:c.gs=b.gs)(hs:∀x,c.sheaves x=b.sheaves x)(h:∀j:Nat,j<b.ps.length→nth p j≤nth q j)(h0:0≤g)(h1:g<b.gs.length)(hm:1≤m)(hn:m≤n)(hl:lifts b p g n=true):lifts c q g m=true:=by
 rw [lifts_iff O] at hl⊢
 rw [List.eq_nil_iff_forall_not_mem]
 intro x hx
 have:=gives_up hb hw hg hs h h0 h1 hn hx
 rw [hl] at this;cases this
structure Up(b c:Bk):Prop where
 hb:checkBook b=0
 hc:checkBook c=0
 tb:b.ts= []
 tc:c.ts= []
 w:b.w≤c.w
 gs:c.gs=b.gs
 sh:∀x,c.sheaves x=b.sheaves x
 np:c.ps.length=b.ps.length
 nc:c.cs.length=b.cs.length
 down:∀t∈cases c,∃t'∈cases b,(∀j:Nat,j<b.ps.length→nth t'.1 j≤nth t.1 j)∧∀j:Nat,j<b.cs.length→nth t.2 j≤nth t'.2 j
 up:∀t∈cases b,∃t'∈cases c,(∀j:Nat,j<b.ps.length→nth t.1 j≤nth t'.1 j)∧∀j:Nat,j<b.cs.length→nth t'.2 j≤nth t.2 j
theorem nth_pos(hb:b.good){t:Tn}(ht:t∈cases b){k:Int}(h:0≤k∧k<b.cs.length):1≤nth t.2 k:=by
 have:=piece_fine hb h
 unfold Pc.fine at this
 have h2:=weights_in h.1 h.2 (mem_cases.1 ht).2
 omega
theorem Up.noLess(h:Up b c):NoLess b c where
 gs:=by rw [h.gs]
 cs:=h.nc
 ps:=h.np
 sure:=fun m g p hg hp hs=>by
  have gb:=good_of h.hb
  have gc:=good_of h.hc
  unfold Go.Lg.B.sure at hs⊢
  rw [List.all_eq_true] at hs⊢
  intro t ht
  obtain⟨t',ht',h1,h2⟩:=h.down t ht
  have hnp:=gb.np
  have l1:=bearsL_len _ (mem_cases.1 ht).1
  have l2:=bearsL_len _ (mem_cases.1 ht').1
  have hnp2:=h.np
  refine lifts_up gb h.w h.gs h.sh (fun j hj=>?_) O O (nth_pos gc ht (k:=(p:Int)) (by rw [h.nc];omega)) (h2 p hp) (hs t' ht')
  rw [nth_renew _ _ (by rw [pad_len O];omega),nth_renew _ _ (by rw [pad_len O];omega),nth_pad,nth_pad]
  split
  ·exact Int.le_refl _
  ·exact h1 j hj
 most:=fun g h0 h1=>by
  have gb:=good_of h.hb
  refine most_le gb (good_of h.hc) h0 h1 (by rw [h.gs];exact h1) fun n hn0 _ ha=>?_
  by_cases e:n=0
  ·subst e;exact allLift_zero c g
  ·unfold Go.Lg.B.allLift at ha⊢
   rw [List.all_eq_true] at ha⊢
   intro t ht
   obtain⟨t',ht',h2,_⟩:=h.down t ht
   exact lifts_up gb h.w h.gs h.sh h2 h0 h1 O (Int.le_refl _) (ha t' ht')
 weak:=fun g n h0 h1 x hx=>by
  obtain⟨t,ht,hg⟩:=weak_mem.1 hx
  obtain⟨t',ht',h2,_⟩:=h.down t ht
  exact weak_mem.2 ⟨t',ht',gives_up (good_of h.hb) h.w h.gs h.sh h2 h0 h1 (Int.le_refl _) hg⟩
theorem check_w(hch:checkBook b=0){w:Int}(hw:0≤w∧w≤99):checkBook {b with w:=w}=0:=by
 obtain⟨_,p,g,c,t⟩:=check_parts hch
 have h1:Bk.winchH {b with w:=w}=0:=by
  unfold Bk.winchH
  rw [if_pos (between_iff.2 hw)]
 have hp:Bk.partsH {b with w:=w}=0:=p
 have hg:Bk.gearsH {b with w:=w}=0:=g
 have hc:Bk.piecesH {b with w:=w}=0:=c
 have ht:Bk.testsH {b with w:=w}=0:=t
 unfold checkBook
 rw [h1,hp,hg,hc,ht];rfl
end
section
theorem winch_up{b:Bk}(hch:checkBook b=0)(ht:b.ts= []){w v:Int}(hw:0≤w∧w≤99)(hv:0≤v∧v≤99)(h:w≤v):Up {b with w:=w} {b with w:=v}:=by
 have hc:∀t:Tn,t∈cases {b with w:=w}↔t∈cases {b with w:=v}:=fun t=>by
  rw [mem_cases,mem_cases,mem_bare (b:={b with w:=w}) ht,mem_bare (b:={b with w:=v}) ht]
  exact Iff.rfl
 exact⟨check_w hch hw,check_w hch hv,ht,ht,h,rfl,fun _=>rfl,rfl,rfl,fun t hx=>⟨t,(hc t).2 hx,fun _ _=>Int.le_refl _,fun _ _=>Int.le_refl _⟩,fun t hx=>⟨t,(hc t).1 hx,fun _ _=>Int.le_refl _,fun _ _=>Int.le_refl _⟩⟩
end
end Go.Lg.B
namespace Go.Lg.H
open Go Go.Conc Go.Lg Go.Proofs Go.Lg.B Go.Proofs.Tryz
structure Pc where
 nm:List UInt8
 arm:Int
 r:Rc
 on:List Int
 deriving DecidableEq
instance : Inhabited Pc := ⟨⟨[], 0, default, []⟩⟩
structure Hl where
 after:Int
 side:Int
 deriving DecidableEq
instance : Inhabited Hl := ⟨⟨0, 0⟩⟩
def Hl.cells(h:Hl):List Value:= [.int .i64 h.after, .int .i64 h.side]
abbrev Hl.val(h:Hl):Value:= .agg h.cells.toArray
theorem Hl.len(h:Hl):h.cells.length=2:=rfl
structure Bk where
 lim:Int
 bal:Rc
 ps:List Pc
 out:List Int
 hs:List Hl
 deriving DecidableEq
variable {b:Bk}
def isReach(x:Rc)(l m many:Int):Bool:=decide (l≤x.lo) && decide (x.lo≤x.hi) && decide (x.hi≤m) && decide (x.hi-x.lo<many)
def Bk.hullH(b:Bk):Int:=if !between b.lim 0 9999|| !isReach b.bal (-999) 999 3 then 1 else 0
def piecesGo:List (List UInt8)→List Pc→Int
 |_, []=>0
 |before,p::l=>if !isLabel p.nm then 4 else if p.nm∈before then 5 else if !between p.arm (-9) 9|| !isReach p.r 1 99 3 then 1 else if climbsH before.length none p.on≠0 then climbsH before.length none p.on else piecesGo (before++ [p.nm]) l
def Bk.piecesH(b:Bk):Int:=if !between (b.ps.length:Int) 1 5 then 2 else piecesGo [] b.ps
def Bk.isPiece(b:Bk)(n:Int):Bool:=between n 0 (b.ps.length-1)
def Bk.above(b:Bk)(k:Int):List Int:=((List.range b.ps.length).filter fun i=>k∈(b.ps.getD i default).on).map fun i:Nat=>(i:Int)
def Bk.free(b:Bk)(done:List Int)(k:Int):Bool:= !decide (k∈done) && !(b.above k).any fun n=> !decide (n∈done)
def Bk.liftGo(b:Bk):List Int→List Int→List Int×Int
 |done, []=>(done,0)
 |done,n::l=>if !b.isPiece n then(done,6) else if n∈done then(done,5) else if !b.free done n then(done,7) else b.liftGo (done++ [n]) l
def Bk.outH(b:Bk):Int:=(b.liftGo [] b.out).2
def heelsGo(m:Int):List Hl→Int
 | []=>0
 |x::l=>if !between x.after 0 m then 6 else if !(x.side==0||x.side==1||x.side==2) then 1 else heelsGo m l
def Bk.heelsH(b:Bk):Int:=if b.hs.length>4 then 2 else heelsGo b.out.length b.hs
def checkBook(b:Bk):Int:=if b.hullH≠0 then b.hullH else if b.piecesH≠0 then b.piecesH else if b.outH≠0 then b.outH else b.heelsH
abbrev Cg:=Int×List Int
def momGo(done ws:List Int):Nat→Int→List Pc→Int
 |_,n, []=>n
 |i,n,p::l=>momGo done ws (i+1) (if(i:Int)∈done then n else n+p.arm*ws.getD i 0) l
def moment(b:Bk)(c:Cg)(done:List Int):Int:=momGo done c.2 0 c.1 b.ps
def sideOf(n:Int):Int:=if 0<n then 2 else if n<0 then 1 else 0
def rolls(b:Bk)(n:Int):Bool:=decide (b.lim<max n (-n))
def seenAt(b:Bk)(c:Cg)(n:Nat):Bool:= !(rolls b (moment b c (b.out.take n))||b.hs.any fun h=>h.after==(n:Int) && h.side !=sideOf (moment b c (b.out.take n)))
def seen(b:Bk)(c:Cg):Bool:=(List.range (b.out.length+1)).all (seenAt b c)
def cases(b:Bk):List Cg:=b.bal.nums.flatMap fun n=>((spread (b.ps.map Pc.r)).map fun w=>(n,w)).filter (seen b)
def weightsOf(b:Bk)(i:Int):List Int:=numbers ((cases b).map fun t=>nth t.2 i)
def openH(b:Bk)(h:Int):Int:=if checkBook b≠0 then checkBook b else if h≠0 then h else if cases b= [] then 9 else 0
def pieceH(b:Bk)(k:Int):Int:=if b.isPiece k then 0 else 6
def weightsR(b:Bk)(k:Int):List Int×Int:=if openH b (pieceH b k)≠0 then([],openH b (pieceH b k)) else(weightsOf b k,0)
structure Pc.fine(p:Pc):Prop where
 arm: -9≤p.arm∧p.arm≤9
 r:1≤p.r.lo∧p.r.lo≤p.r.hi∧p.r.hi≤99∧p.r.hi-p.r.lo<3
structure Bk.good(b:Bk):Prop where
 lim:0≤b.lim∧b.lim≤9999
 bal: -999≤b.bal.lo∧b.bal.lo≤b.bal.hi∧b.bal.hi≤999∧b.bal.hi-b.bal.lo<3
 np:1≤b.ps.length∧b.ps.length≤5
 ps:∀p∈b.ps,p.fine
 nh:b.hs.length≤4
theorem isReach_iff{x:Rc}{l m many:Int}:isReach x l m many=true↔l≤x.lo∧x.lo≤x.hi∧x.hi≤m∧x.hi-x.lo<many:=by simp [isReach,and_assoc]
theorem mem_cases{t:Cg}:t∈cases b↔(t.1∈b.bal.nums∧t.2∈spread (b.ps.map Pc.r))∧seen b t=true:=by
 unfold cases
 simp only [List.mem_flatMap,List.mem_filter,List.mem_map]
 constructor
 ·rintro⟨n,hn,⟨w,hw,rfl⟩,hs⟩
  exact⟨⟨hn,hw⟩,hs⟩
 ·rintro⟨⟨hn,hw⟩,hs⟩
  exact⟨t.1,hn,⟨t.2,hw,rfl⟩,hs⟩
theorem weightsOf_mem{i x:Int}:x∈weightsOf b i↔ ∃t∈cases b,nth t.2 i=x:=by rw [weightsOf,numbers_mem,List.mem_map]
end Go.Lg.H
namespace Go.Lg
open Go Go.Conc
variable {x:Operand}{s:ByteArray}{at' p:Nat}
theorem dec_lt(s:ByteArray)(i:Nat):(Utf8.decode s i).1≤1114111∧1≤(Utf8.decode s i).2:=by
 have hb:∀k:Nat,(s.get! k).toNat<256:=fun k=>UInt8.toNat_lt _
 have hb0:=hb (i+0)
 have hv:∀c:Nat,Utf8.valid c=true→c≤1114111:=fun c h=>by
  simp only [Utf8.valid,Bool.or_eq_true,Bool.and_eq_true,decide_eq_true_eq] at h
  omega
 unfold Utf8.decode
 simp only [Utf8.runeError]
 split
 ·refine⟨?_,Nat.le_refl _⟩
  show(s.get! (i+0)).toNat≤1114111
  omega
 ·split
  ·split<;>constructor<;>simp<;>omega
  ·split
   ·split
    ·rename_i h
     simp only [Bool.and_eq_true] at h
     exact⟨hv _ h.2,by simp⟩
    ·simp
   ·split
    ·split
     ·rename_i h
      simp only [Bool.and_eq_true] at h
      exact⟨hv _ h.2,by simp⟩
     ·simp
    ·simp
section
variable {P:Program}{main:Bool}{J:Goroutine→Mem→Prop}{b:Frame}(C:Ctx P main J b){cs:List Frame}{n:Nat}{ds:List Deferred}{σ:Slots}{k:List Item}{ops:Array Oper}{i:Nat}{rest:List Nat}
 {d:Nat} {ty:TypeId} {pos:String} {af:Array Edge} {g:Option (Nat×Bool)} {ro:RO} {own:List (Nat×Obj)}
include C
theorem R.rangeS{t:TypeId}(ho:ops[i]? =some ⟨some d, .range t x,ty,pos,af,g⟩)(hg:wantedS ops σ ⟨some d, .range t x,ty,pos,af,g⟩=some true)(hx:ev σ x=some (.string s))
  (hu:∀w,Sem.run P (Go.underlying t) w= .ok .string w)
  (h:∀p,R J b cs n ops rest k ds ((d, .pointer (some ⟨p,0,none⟩))::σ) ⟨ro,(p, .stringIter s 0)::own⟩):R J b cs n ops (i::rest) k ds σ ⟨ro,own⟩:=
 R.op C ho hg rfl fun a ha=>by
  unfold execOp;simp only [ha.ev hx]
  refine ex_v ?_
  unfold Instr.range
  refine Sm.bind (Sm.underlying hu ?_)
  simp only
  refine Sm.bind (Sm.pure ?_)
  refine(Sm.bind (Sm.newObj fun p _ _=>?_))
  exact Sm.pure (h p)
theorem R.nextT{c w:Nat}{own':List (Nat×Obj)}(ho:ops[i]? =some ⟨some d, .next x true,ty,pos,af,g⟩)(hg:wantedS ops σ ⟨some d, .next x true,ty,pos,af,g⟩=some true)(hx:ev σ x=some (.pointer (some ⟨p,0,none⟩)))
  (hlt:at'<s.size) (hd:Utf8.decode s at'=(c,w)) (hu:Upd own p (.stringIter s at') (.stringIter s (at'+w)) own')
  (h:R J b cs n ops rest k ds ((d, .tuple [.bool true, .int .i64 (at':Int), .int .i32 (c:Int)].toArray)::σ) ⟨ro,own'⟩):R J b cs n ops (i::rest) k ds σ ⟨ro,own⟩:=
 R.op C ho hg rfl fun a ha=>by
  unfold execOp;simp only [ha.ev hx]
  refine ex_v ?_
  unfold Instr.next
  simp only
  refine Sm.bind (Sm.getObj_own (o:= .stringIter s at') hu.mem U U ?_)
  simp only [if_pos hlt,hd]
  refine Sm.bind (Sm.setObj_own (o:= .stringIter s at') hu U U ?_)
  exact Sm.pure h
theorem R.nextF(ho:ops[i]? =some ⟨some d, .next x true,ty,pos,af,g⟩)(hg:wantedS ops σ ⟨some d, .next x true,ty,pos,af,g⟩=some true)(hx:ev σ x=some (.pointer (some ⟨p,0,none⟩)))
  (hm:(p,Obj.stringIter s at')∈own) (hge:s.size≤at')
  (h:R J b cs n ops rest k ds ((d, .tuple [.bool false].toArray)::σ) ⟨ro,own⟩):R J b cs n ops (i::rest) k ds σ ⟨ro,own⟩:=
 R.op C ho hg rfl fun a ha=>by
  unfold execOp;simp only [ha.ev hx]
  refine ex_v ?_
  unfold Instr.next
  simp only
  refine Sm.bind (Sm.getObj_own (o:= .stringIter s at') hm U U ?_)
  simp only [if_neg (Nat.not_lt.2 hge)]
  exact Sm.pure h
end
end Go.Lg
namespace Go.Lg.S
open Go Go.Conc Go.Lg Go.Proofs Go.Lg.B Go.Proofs.Tryz
structure Rw where
 d:Int
 s:Int
 deriving DecidableEq
instance : Inhabited Rw := ⟨⟨0, 0⟩⟩
def Rw.cells(r:Rw):List Value:= [.int .i64 r.d, .int .i64 r.s]
theorem Rw.len(r:Rw):r.cells.length=2:=rfl
structure Mn where
 nm:List UInt8
 d:Int
 deriving DecidableEq
instance : Inhabited Mn := ⟨⟨[], 0⟩⟩
def Mn.cells(m:Mn):List Value:= [strV m.nm, .int .i64 m.d]
theorem Mn.len(m:Mn):m.cells.length=2:=rfl
structure Dv where
 p:Int
 b:Int
 t:Int
 m:Int
 deriving DecidableEq
instance : Inhabited Dv := ⟨⟨0, 0, 0, 0⟩⟩
def Dv.cells(d:Dv):List Value:= [.int .i64 d.p, .int .i64 d.b, .int .i64 d.t, .int .i64 d.m]
theorem Dv.len(d:Dv):d.cells.length=4:=rfl
structure Sd where
 p:Int
 n:Int
 bot:Bool
 deriving DecidableEq
instance : Inhabited Sd := ⟨⟨0, 0, false⟩⟩
def Sd.cells(s:Sd):List Value:= [.int .i64 s.p, .int .i64 s.n, .bool s.bot]
abbrev Sd.val(s:Sd):Value:= .agg s.cells.toArray
theorem Sd.len(s:Sd):s.cells.length=3:=rfl
structure Bk where
 rest:Int
 rs:List Rw
 ps:List Rc
 ms:List Mn
 ds:List Dv
 ss:List Sd
 deriving DecidableEq
variable {b:Bk}{x:Sd}{i:Int}{l:List Int}
def isReach(x:Rc)(l m many:Int):Bool:=decide (l≤x.lo) && decide (x.lo≤x.hi) && decide (x.hi≤m) && decide (x.hi-x.lo<many)
theorem isReach_iff{x:Rc}{l m many:Int}:isReach x l m many=true↔l≤x.lo∧x.lo≤x.hi∧x.hi≤m∧x.hi-x.lo<many:=by simp [isReach,and_assoc]
def badRune(c:Int)(i:Nat):Bool:= !between c 97 122 && (i==0|| !between c 48 57)
def labF(s:ByteArray):Nat→Nat→Bool
 |0,_=>true
 |k+1,i=>if i<s.size then if badRune ((Utf8.decode s i).1:Int) i then false else labF s k (i+(Utf8.decode s i).2) else true
def isLab(s:List UInt8):Bool:=labF ⟨s.toArray⟩ s.length 0 && between (s.length:Int) 1 12
def Bk.restH(b:Bk):Int:=if between b.rest 0 60 then 0 else 1
def rowsGo(l:List Rw):Nat→List Rw→Int
 |_, []=>0
 |i,r::t=>if !between r.d 1 30|| !between r.s 1 60 then 1 else if 0<i∧(r.d≤(l.getD (i-1) default).d∨(l.getD (i-1) default).s<r.s) then 7 else rowsGo l (i+1) t
def Bk.tableH(b:Bk):Int:=if !between (b.rs.length:Int) 1 4 then 2 else rowsGo b.rs 0 b.rs
def Bk.placesH(b:Bk):Int:=if !between (b.ps.length:Int) 1 3 then 2 else if b.ps.any (fun x=> !isReach x 1 30 3) then 1 else 0
def menGo(lab:List UInt8→Bool):List (List UInt8)→List Mn→Int
 |_, []=>0
 |before,m::l=>if !lab m.nm then 4 else if m.nm∈before then 5 else if !between m.d 1 30 then 1 else menGo lab (before++ [m.nm]) l
def Bk.menH(lab:List UInt8→Bool)(b:Bk):Int:=if !between (b.ms.length:Int) 1 4 then 2 else menGo lab [] b.ms
def Bk.place(b:Bk)(n:Int):Bool:=between n 0 (b.ps.length-1)
def Bk.divesGo(b:Bk):List Dv→Int
 | []=>0
 |d::l=>if !b.place d.p then 6 else if !between d.b 0 200|| !between d.t 1 60|| !between d.m 1 3 then 1 else b.divesGo l
def Bk.divesH(b:Bk):Int:=if !between (b.ds.length:Int) 1 4 then 2 else b.divesGo b.ds
def Bk.soundGo(b:Bk):List Sd→Int
 | []=>0
 |s::l=>if !b.place s.p then 6 else if !between s.n 0 30 then 1 else b.soundGo l
def Bk.soundH(b:Bk):Int:=if b.ss.length>3 then 2 else b.soundGo b.ss
def checkBook(lab:List UInt8→Bool)(b:Bk):Int:=if b.restH≠0 then b.restH else if b.tableH≠0 then b.tableH else if b.placesH≠0 then b.placesH else if b.menH lab≠0 then b.menH lab else if b.divesH≠0 then b.divesH else b.soundH
def right(b:Bk)(w:List Int):Bool:=b.ss.all fun s=>decide (w.getD s.p.toNat 0≤s.n)==s.bot
def cases(b:Bk):List (List Int):=(spread b.ps).filter (right b)
def stayGo(n:Int):List Rw→Int
 | []=>0
 |r::l=>if n≤r.d then r.s else stayGo n l
def stayOf(b:Bk)(n:Int):Int:=stayGo n b.rs
def staysL(b:Bk)(i:Int):List Int:=numbers ((cases b).map fun w=>stayOf b (w.getD i.toNat 0))
def openH(b:Bk)(h:Int):Int:=if checkBook isLab b≠0 then checkBook isLab b else if h≠0 then h else if cases b= [] then 9 else 0
def placeH(b:Bk)(k:Int):Int:=if b.place k then 0 else 6
def Bk.more(b:Bk)(x:Sd):Bk:={b with ss:=b.ss++ [x] }
def soundedH(b:Bk)(x:Sd):Int:=if checkBook isLab b≠0 then checkBook isLab b else openH (b.more x) 0
structure Bk.good(b:Bk):Prop where
 nr:1≤b.rs.length∧b.rs.length≤4
 rs:∀r∈b.rs,1≤r.s∧r.s≤60
 np:1≤b.ps.length∧b.ps.length≤3
 ps:∀r∈b.ps,1≤r.lo∧r.lo≤r.hi∧r.hi≤30∧r.hi-r.lo<3
 nm:b.ms.length≤4
 nd:b.ds.length≤4
 ns:b.ss.length≤3
 ss:∀s∈b.ss,0≤s.p∧s.p<b.ps.length
theorem rowsGo_in{l:List Rw}:∀ {t:List Rw} {i:Nat},rowsGo l i t=0→∀r∈t,1≤r.s∧r.s≤60
 |x::t,i,h,r,hr=>by
  simp only [rowsGo] at h
  split at h
  ·cases h
  ·rename_i h1
   split at h
   ·cases h
   ·rcases List.mem_cons.1 hr with rfl|hr
    ·simp only [Bool.or_eq_true,Bool.not_eq_true',not_or,Bool.not_eq_false] at h1
     exact between_iff.1 h1.2
    ·exact rowsGo_in h r hr
theorem soundGo_in{b:Bk}:∀ {l:List Sd},b.soundGo l=0→∀s∈l,0≤s.p∧s.p<b.ps.length
 |x::l,h,s,hs=>by
  simp only [Bk.soundGo] at h
  split at h
  ·cases h
  ·rename_i h1
   split at h
   ·cases h
   ·rcases List.mem_cons.1 hs with rfl|hs
    ·have h1:b.place s.p=true:=by simpa using h1
     have:=between_iff.1 h1;omega
    ·exact soundGo_in h s hs
theorem good_of{lab:List UInt8→Bool}(h:checkBook lab b=0):b.good:=by
 obtain⟨_,h⟩:=ite_same h
 obtain⟨h2,h⟩:=ite_same h
 obtain⟨h3,h⟩:=ite_same h
 obtain⟨h4,h⟩:=ite_same h
 obtain⟨h5,h6⟩:=ite_same h
 obtain⟨w2,h2⟩:=ite_zero Dd h2
 obtain⟨w3,h3⟩:=ite_zero Dd h3
 obtain⟨w4,h4⟩:=ite_zero Dd h4
 obtain⟨w5,h5⟩:=ite_zero Dd h5
 obtain⟨w6,h6⟩:=ite_zero Dd h6
 simp only [Bool.not_eq_true',Bool.not_eq_false] at w2 w3 w4 w5
 have r2:=between_iff.1 w2
 have r3:=between_iff.1 w3
 have r4:=between_iff.1 w4
 have r5:=between_iff.1 w5
 refine⟨O,rowsGo_in h2,O,fun r hr=>?_,O,O,O,soundGo_in h6⟩
 split at h3
 ·cases h3
 ·rename_i h7
  rw [Bool.not_eq_true,List.any_eq_false] at h7
  exact isReach_iff.1 (by simpa using h7 r hr)
theorem stayGo_in{n:Int}:∀ {l:List Rw},(∀r∈l,1≤r.s∧r.s≤60)→0≤stayGo n l∧stayGo n l≤60
 | [],_=>by simp [stayGo]
 |x::l,h=>by
  have h1:=h x Zi
  have h2:=stayGo_in (n:=n) (l:=l) fun r hr=>h r (by simp [hr])
  simp only [stayGo]
  split<;>omega
theorem mem_cases{w:List Int}:w∈cases b↔w∈spread b.ps∧right b w=true:=by unfold cases;rw [List.mem_filter]
theorem more_sub:∀w∈cases (b.more x),w∈cases b:=fun w hw=>by
 rw [mem_cases] at hw⊢
 refine⟨hw.1, ?_⟩
 have h2:=hw.2
 unfold right Bk.more at h2
 rw [List.all_append,Bool.and_eq_true] at h2
 exact h2.1
theorem staysL_mem{x:Int}:x∈staysL b i↔ ∃w∈cases b,stayOf b (w.getD i.toNat 0)=x:=by rw [staysL,numbers_mem,List.mem_map]
theorem staysL_ne(h:cases b≠ []):staysL b i≠ []:=fun e=>by
 cases hc:cases b with
 |nil=>exact h hc
 |cons t T=>
  have:=(staysL_mem (i:=i)).2 ⟨t,by rw [hc];simp,rfl⟩
  rw [e] at this;cases this
theorem openH_good{h:Int}(h0:openH b h=0):checkBook isLab b=0∧h=0∧cases b≠ []:=by
 unfold openH at h0
 split at h0
 ·contradiction
 ·rename_i h1
  split at h0
  ·contradiction
  ·rename_i h2
   split at h0
   ·cases h0
   ·rename_i h3
    exact⟨Classical.not_not.1 h1,Classical.not_not.1 h2,h3⟩
theorem openH_is(hch:checkBook isLab b=0)(hne:cases b≠ [])(h:0≤i∧i<b.ps.length):openH b (placeH b i)=0:=by
 have hp:placeH b i=0:=by
  unfold placeH Bk.place
  rw [if_pos (between_iff.2 O)]
 unfold openH
 rw [hp,if_neg (fun e=>e hch),if_neg (fun e=>e rfl),if_neg hne]
def lo(l:List Int):Int:=l.getD 0 0
def hi(l:List Int):Int:=l.getD (l.length-1) 0
theorem lo_mem(h:l≠ []):lo l∈l:=by
 have:=List.length_pos_iff.2 h
 unfold lo
 rw [List.getD_eq_getElem?_getD,List.getElem?_eq_getElem this]
 exact List.getElem_mem _
theorem hi_mem(h:l≠ []):hi l∈l:=by
 have:=List.length_pos_iff.2 h
 unfold hi
 rw [List.getD_eq_getElem?_getD,List.getElem?_eq_getElem (show l.length-1<l.length by omega)]
 exact List.getElem_mem _
theorem lo_le(ha:l.Pairwise (· < ·)):∀x∈l,lo l≤x:=fun x hx=>by
 obtain⟨i,hi,rfl⟩:=List.getElem_of_mem hx
 unfold lo
 rw [List.getD_eq_getElem?_getD,List.getElem?_eq_getElem (show 0<l.length by omega)]
 by_cases e:i=0
 ·subst e;exact Int.le_refl _
 ·exact Int.le_of_lt (List.pairwise_iff_getElem.1 ha 0 i O hi O)
theorem le_hi(ha:l.Pairwise (· < ·)):∀x∈l,x≤hi l:=fun x hx=>by
 obtain⟨i,hi',rfl⟩:=List.getElem_of_mem hx
 unfold hi
 rw [List.getD_eq_getElem?_getD,List.getElem?_eq_getElem (show l.length-1<l.length by omega)]
 by_cases e:i=l.length-1
 ·subst e;exact Int.le_refl _
 ·exact Int.le_of_lt (List.pairwise_iff_getElem.1 ha i (l.length-1) hi' O O)
theorem sound_law(h:soundedH b x=0):checkBook isLab b=0∧checkBook isLab (b.more x)=0∧∀i:Int,0≤i→i<b.ps.length→
  openH b (placeH b i)=0∧openH (b.more x) (placeH (b.more x) i)=0∧0≤lo (staysL b i)∧lo (staysL b i)≤lo (staysL (b.more x) i)∧lo (staysL (b.more x) i)≤hi (staysL (b.more x) i)∧hi (staysL (b.more x) i)≤hi (staysL b i)∧hi (staysL b i)≤60:=by
 obtain⟨hch,h⟩:=ite_same h
 obtain⟨hco,_,hneo⟩:=openH_good h
 have hne:cases b≠ []:=fun e=>by
  cases hc:cases (b.more x) with
  |nil=>exact hneo hc
  |cons t T=>
   have:=more_sub t (by rw [hc];simp)
   rw [e] at this;cases this
 refine⟨hch,hco,fun i h0 h1=>?_⟩
 have hin:∀y∈staysL b i,0≤y∧y≤60:=fun y hy=>by
  obtain⟨w,_,rfl⟩:=staysL_mem.1 hy
  exact stayGo_in (good_of hch).rs
 have hsub:∀y∈staysL (b.more x) i,y∈staysL b i:=fun y hy=>by
  obtain⟨w,hw,rfl⟩:=staysL_mem.1 hy
  exact staysL_mem.2 ⟨w,more_sub w hw,rfl⟩
 have n1:=staysL_ne (i:=i) hne
 have n2:=staysL_ne (i:=i) hneo
 have a1:=numbers_asc ((cases b).map fun w=>stayOf b (w.getD i.toNat 0))
 have a2:=numbers_asc ((cases (b.more x)).map fun w=>stayOf (b.more x) (w.getD i.toNat 0))
 have ho:openH (b.more x) (placeH (b.more x) i)=0:=openH_is hco hneo ⟨h0,h1⟩
 exact⟨openH_is hch hne ⟨h0,h1⟩,ho,(hin _ (lo_mem n1)).1,lo_le a1 _ (hsub _ (lo_mem n2)),lo_le a2 _ (hi_mem n2),le_hi a1 _ (hsub _ (hi_mem n2)),(hin _ (hi_mem n1)).2⟩
end Go.Lg.S
namespace Go.Lg.S
open Go Go.Conc Go.Lg Go.Proofs Go.Lg.B Go.Proofs.Tryz
variable {fv v:Value}{ro:RO}{L:List Rc}{f:Rc→Bool}{pre:List (Nat×Obj)}
variable {main:Bool}{J:Goroutine→Mem→Prop}(hJ:Closed prog main J)
include hJ
theorem indexP_c(hl:Ls Rc.cells 2 ro v L)(hn:L.length≤1000000)
  (hf:∀q∈L,CallV prog J fv [.agg (Rc.cells q).toArray] ro pre (fun v ro' pre'=>v= .bool (f q)∧ro'=ro∧pre'=pre)):
  CallV prog J (fnv 359) [v,fv] ro pre (fun w ro' pre'=>w= .int .i64 (findA f L)∧ro'=ro∧pre'=pre):=by
 obtain⟨lb,lc,rfl⟩:=hl.form
 refine CallV.intro (first:= []) (vs:= [_,_]) (cap:= []) hJ Kr fun c cs tail hret=>enter_X (n:=19) func359 U U (Nl U) ?_
 have C:Ctx prog main J (bf 359 .normal):=⟨hJ,by decide⟩
 refine Xo W W<|Xx W<|Ro W<|Rt W A29<|Ro W<|Rz<|Xb<|X.loopI (ι:=Nat) C.1 (fun i=>i≤L.length∧∀j (h:j<L.length),j<i→f L[j]=false) (fun i=> [(0, .slice lb L.length lc),(1,fv),(7, .int .i64 (L.length:Int)),(8, .int .i64 (i:Int))])
  (fun _=>⟨ro,pre++tail⟩) (fun i=>L.length-i) 0 ⟨Nat.zero_le _,fun _ _ h=>absurd h (Nat.not_lt_zero _)⟩ rfl ⟨U,U,U,U,trivial⟩ fun i hi hnext=>?_
 obtain⟨hi,hb⟩:=hi
 refine Xu W<|Ri Z b_lss<|Rz<|Xv<|Xj U (fun hlt=>?_) (fun hlt=>?_)
 ·have hi':i<L.length:=O
  obtain⟨pp,off,cap,ll,t,fq,hsl,hrop,hsub⟩:=hl.at (fun _=>rfl) O
  cases hsl
  refine Xz<|Xv<|Xb<|Xm W W<|Ae W<|Xm W W<|Oo W W<|Ry Y A29 B45<|La Y G45 B45 hrop (hsub i hi')<|R.call C U U U U (pre:=pre) (tail:=tail) U (hf _ (List.getElem_mem hi')) fun w ro2 pre2 hl2 hp2=>?_
  obtain⟨rfl,rfl,rfl⟩:=hp2
  refine Zc U (fun hr=>?_) (fun hr=>?_)
  ·refine Xm W W<|Ae W<|Xw func359<|hret _ _ _ _ (RO.le_refl _) ⟨?_,rfl,rfl⟩ Vs
   rw [findA_hit hi' hr hb];rfl
  ·refine Xz<|Xi<|Xg W<|Rb Y<|Ro W<|Rz<|X.weaken ?_ (hnext (i+1) ⟨hi',fun j hj hji=>?_⟩ O)
   ·exact⟨rfl,rfl,rfl,by simp [look],trivial⟩
   ·by_cases e:j=i
    ·subst e;exact hr
    ·exact hb j hj O
 ·obtain rfl:i=L.length:=by omega
  refine Xe U<|Xo W W<|Xw func359<|hret _ _ _ _ (RO.le_refl _) ⟨?_,rfl,rfl⟩ Vs
  rw [findA_miss (fun j hj=>hb j hj hj)];rfl
theorem containsP_c(hl:Ls Rc.cells 2 ro v L)(hn:L.length≤1000000)
  (hf:∀q∈L,CallV prog J fv [.agg (Rc.cells q).toArray] ro pre (fun v ro' pre'=>v= .bool (f q)∧ro'=ro∧pre'=pre)):
  CallV prog J (fnv 353) [v,fv] ro pre (fun w ro' pre'=>w= .bool (L.any f)∧ro'=ro∧pre'=pre):=by
 refine CallV.intro (first:= []) (vs:= [_,_]) (cap:= []) hJ Kr fun c cs tail hret=>enter_X (n:=9) func353 U U (Nl U) ?_
 have C:Ctx prog main J (bf 353 .normal):=⟨hJ,by decide⟩
 refine Xo W W<|Xm W W<|Ro W<|R.call C U U U U (pre:=pre) (tail:=tail) U (indexP_c hJ hl hn hf) fun w ro2 pre2 hl2 hp2=>?_
 obtain⟨rfl,rfl,rfl⟩:=hp2
 refine Ri Z b_geq<|Ae W<|Xw func353<|hret _ _ _ _ (RO.le_refl _) ⟨?_,rfl,rfl⟩ Vs
 simp only [retVal, ←findA_any]
theorem indexM_c{L:List Mn}{f:Mn→Bool}(hl:Ls Mn.cells 2 ro v L)(hn:L.length≤1000000)
  (hf:∀q∈L,CallV prog J fv [.agg (Mn.cells q).toArray] ro pre (fun v ro' pre'=>v= .bool (f q)∧ro'=ro∧pre'=pre)):
  CallV prog J (fnv 360) [v,fv] ro pre (fun w ro' pre'=>w= .int .i64 (findA f L)∧ro'=ro∧pre'=pre):=by
 obtain⟨lb,lc,rfl⟩:=hl.form
 refine CallV.intro (first:= []) (vs:= [_,_]) (cap:= []) hJ Kr fun c cs tail hret=>enter_X (n:=19) func360 U U (Nl U) ?_
 have C:Ctx prog main J (bf 360 .normal):=⟨hJ,by decide⟩
 refine Xo W W<|Xx W<|Ro W<|Rt W A30<|Ro W<|Rz<|Xb<|X.loopI (ι:=Nat) C.1 (fun i=>i≤L.length∧∀j (h:j<L.length),j<i→f L[j]=false) (fun i=> [(0, .slice lb L.length lc),(1,fv),(7, .int .i64 (L.length:Int)),(8, .int .i64 (i:Int))])
  (fun _=>⟨ro,pre++tail⟩) (fun i=>L.length-i) 0 ⟨Nat.zero_le _,fun _ _ h=>absurd h (Nat.not_lt_zero _)⟩ rfl ⟨U,U,U,U,trivial⟩ fun i hi hnext=>?_
 obtain⟨hi,hb⟩:=hi
 refine Xu W<|Ri Z b_lss<|Rz<|Xv<|Xj U (fun hlt=>?_) (fun hlt=>?_)
 ·have hi':i<L.length:=O
  obtain⟨pp,off,cap,ll,t,fq,hsl,hrop,hsub⟩:=hl.at (fun _=>rfl) O
  cases hsl
  refine Xz<|Xv<|Xb<|Xm W W<|Ae W<|Xm W W<|Oo W W<|Ry Y A30 B254<|La Y isAgg254 B254 hrop (hsub i hi')<|R.call C U U U U (pre:=pre) (tail:=tail) U (hf _ (List.getElem_mem hi')) fun w ro2 pre2 hl2 hp2=>?_
  obtain⟨rfl,rfl,rfl⟩:=hp2
  refine Zc U (fun hr=>?_) (fun hr=>?_)
  ·refine Xm W W<|Ae W<|Xw func360<|hret _ _ _ _ (RO.le_refl _) ⟨?_,rfl,rfl⟩ Vs
   rw [findA_hit hi' hr hb];rfl
  ·refine Xz<|Xi<|Xg W<|Rb Y<|Ro W<|Rz<|X.weaken ?_ (hnext (i+1) ⟨hi',fun j hj hji=>?_⟩ O)
   ·exact⟨rfl,rfl,rfl,by simp [look],trivial⟩
   ·by_cases e:j=i
    ·subst e;exact hr
    ·exact hb j hj O
 ·obtain rfl:i=L.length:=by omega
  refine Xe U<|Xo W W<|Xw func360<|hret _ _ _ _ (RO.le_refl _) ⟨?_,rfl,rfl⟩ Vs
  rw [findA_miss (fun j hj=>hb j hj hj)];rfl
theorem containsM_c{L:List Mn}{f:Mn→Bool}(hl:Ls Mn.cells 2 ro v L)(hn:L.length≤1000000)
  (hf:∀q∈L,CallV prog J fv [.agg (Mn.cells q).toArray] ro pre (fun v ro' pre'=>v= .bool (f q)∧ro'=ro∧pre'=pre)):
  CallV prog J (fnv 357) [v,fv] ro pre (fun w ro' pre'=>w= .bool (L.any f)∧ro'=ro∧pre'=pre):=by
 refine CallV.intro (first:= []) (vs:= [_,_]) (cap:= []) hJ Kr fun c cs tail hret=>enter_X (n:=9) func357 U U (Nl U) ?_
 have C:Ctx prog main J (bf 357 .normal):=⟨hJ,by decide⟩
 refine Xo W W<|Xm W W<|Ro W<|R.call C U U U U (pre:=pre) (tail:=tail) U (indexM_c hJ hl hn hf) fun w ro2 pre2 hl2 hp2=>?_
 obtain⟨rfl,rfl,rfl⟩:=hp2
 refine Ri Z b_geq<|Ae W<|Xw func357<|hret _ _ _ _ (RO.le_refl _) ⟨?_,rfl,rfl⟩ Vs
 simp only [retVal, ←findA_any]
theorem indexS_c{L:List Sd}{f:Sd→Bool}(hl:Ls Sd.cells 3 ro v L)(hn:L.length≤1000000)
  (hf:∀q∈L,CallV prog J fv [.agg (Sd.cells q).toArray] ro pre (fun v ro' pre'=>v= .bool (f q)∧ro'=ro∧pre'=pre)):
  CallV prog J (fnv 320) [v,fv] ro pre (fun w ro' pre'=>w= .int .i64 (findA f L)∧ro'=ro∧pre'=pre):=by
 obtain⟨lb,lc,rfl⟩:=hl.form
 refine CallV.intro (first:= []) (vs:= [_,_]) (cap:= []) hJ Kr fun c cs tail hret=>enter_X (n:=19) func320 U U (Nl U) ?_
 have C:Ctx prog main J (bf 320 .normal):=⟨hJ,by decide⟩
 refine Xo W W<|Xx W<|Ro W<|Rt W A32<|Ro W<|Rz<|Xb<|X.loopI (ι:=Nat) C.1 (fun i=>i≤L.length∧∀j (h:j<L.length),j<i→f L[j]=false) (fun i=> [(0, .slice lb L.length lc),(1,fv),(7, .int .i64 (L.length:Int)),(8, .int .i64 (i:Int))])
  (fun _=>⟨ro,pre++tail⟩) (fun i=>L.length-i) 0 ⟨Nat.zero_le _,fun _ _ h=>absurd h (Nat.not_lt_zero _)⟩ rfl ⟨U,U,U,U,trivial⟩ fun i hi hnext=>?_
 obtain⟨hi,hb⟩:=hi
 refine Xu W<|Ri Z b_lss<|Rz<|Xv<|Xj U (fun hlt=>?_) (fun hlt=>?_)
 ·have hi':i<L.length:=O
  obtain⟨pp,off,cap,ll,t,fq,hsl,hrop,hsub⟩:=hl.at (fun _=>rfl) O
  cases hsl
  refine Xz<|Xv<|Xb<|Xm W W<|Ae W<|Xm W W<|Oo W W<|Ry Y A32 B36<|La Y G36 B36 hrop (hsub i hi')<|R.call C U U U U (pre:=pre) (tail:=tail) U (hf _ (List.getElem_mem hi')) fun w ro2 pre2 hl2 hp2=>?_
  obtain⟨rfl,rfl,rfl⟩:=hp2
  refine Zc U (fun hr=>?_) (fun hr=>?_)
  ·refine Xm W W<|Ae W<|Xw func320<|hret _ _ _ _ (RO.le_refl _) ⟨?_,rfl,rfl⟩ Vs
   rw [findA_hit hi' hr hb];rfl
  ·refine Xz<|Xi<|Xg W<|Rb Y<|Ro W<|Rz<|X.weaken ?_ (hnext (i+1) ⟨hi',fun j hj hji=>?_⟩ O)
   ·exact⟨rfl,rfl,rfl,by simp [look],trivial⟩
   ·by_cases e:j=i
    ·subst e;exact hr
    ·exact hb j hj O
 ·obtain rfl:i=L.length:=by omega
  refine Xe U<|Xo W W<|Xw func320<|hret _ _ _ _ (RO.le_refl _) ⟨?_,rfl,rfl⟩ Vs
  rw [findA_miss (fun j hj=>hb j hj hj)];rfl
theorem containsS_c{L:List Sd}{f:Sd→Bool}(hl:Ls Sd.cells 3 ro v L)(hn:L.length≤1000000)
  (hf:∀q∈L,CallV prog J fv [.agg (Sd.cells q).toArray] ro pre (fun v ro' pre'=>v= .bool (f q)∧ro'=ro∧pre'=pre)):
  CallV prog J (fnv 298) [v,fv] ro pre (fun w ro' pre'=>w= .bool (L.any f)∧ro'=ro∧pre'=pre):=by
 refine CallV.intro (first:= []) (vs:= [_,_]) (cap:= []) hJ Kr fun c cs tail hret=>enter_X (n:=9) func298 U U (Nl U) ?_
 have C:Ctx prog main J (bf 298 .normal):=⟨hJ,by decide⟩
 refine Xo W W<|Xm W W<|Ro W<|R.call C U U U U (pre:=pre) (tail:=tail) U (indexS_c hJ hl hn hf) fun w ro2 pre2 hl2 hp2=>?_
 obtain⟨rfl,rfl,rfl⟩:=hp2
 refine Ri Z b_geq<|Ae W<|Xw func298<|hret _ _ _ _ (RO.le_refl _) ⟨?_,rfl,rfl⟩ Vs
 simp only [retVal, ←findA_any]
end Go.Lg.S
namespace Go.Lg.S
open Go Go.Conc Go.Lg Go.Proofs Go.Lg.B Go.Proofs.Tryz
variable {ro ro':RO}{b:Bk}{v:Value}{L:List Mn}
def BkP(ro:RO)(b:Bk)(vr vp vm vd vs:Value):Prop:=Ls Rw.cells 2 ro vr b.rs∧Ls Rc.cells 2 ro vp b.ps∧Ls Mn.cells 2 ro vm b.ms∧Ls Dv.cells 4 ro vd b.ds∧Ls Sd.cells 3 ro vs b.ss∧capOk vm
theorem BkP.mono{vr vp vm vd vs:Value}(h:BkP ro b vr vp vm vd vs)(hl:ro.le ro'):BkP ro' b vr vp vm vd vs:=⟨h.1.mono hl,h.2.1.mono hl,h.2.2.1.mono hl,h.2.2.2.1.mono hl,h.2.2.2.2.1.mono hl,h.2.2.2.2.2⟩
def BkV(ro:RO)(v:Value)(b:Bk):Prop:= ∃vr vp vm vd vs,v= .agg [.int .i64 b.rest,vr,vp,vm,vd,vs].toArray∧BkP ro b vr vp vm vd vs
theorem BkV.mono(h:BkV ro v b)(hl:ro.le ro'):BkV ro' v b:=let⟨vr,vp,vm,vd,vs,e,h1⟩:=h;⟨vr,vp,vm,vd,vs,e,h1.mono hl⟩
theorem BkV.all(h:BkV ro v b):∃rb rc pb pc mb mc db dc sb sc,v= .agg [.int .i64 b.rest, .slice rb b.rs.length rc, .slice pb b.ps.length pc, .slice mb b.ms.length mc, .slice db b.ds.length dc, .slice sb b.ss.length sc].toArray∧
  BkP ro b (.slice rb b.rs.length rc) (.slice pb b.ps.length pc) (.slice mb b.ms.length mc) (.slice db b.ds.length dc) (.slice sb b.ss.length sc)∧b.ms.length≤mc:=by
 obtain⟨vr,vp,vm,vd,vs,rfl,h⟩:=h
 have h0:=h
 obtain⟨h1,h2,h3,h4,h5,h6⟩:=h
 obtain⟨rb,rc,rfl⟩:=h1.form
 obtain⟨pb,pc,rfl⟩:=h2.form
 obtain⟨mb,mc,rfl⟩:=h3.form
 obtain⟨db,dc,rfl⟩:=h4.form
 obtain⟨sb,sc,rfl⟩:=h5.form
 obtain⟨_,_,_,ep,h6⟩:=h6
 cases ep
 exact⟨rb,rc,pb,pc,mb,mc,db,dc,sb,sc,rfl,h0,h6⟩
structure Bk.short(b:Bk):Prop where
 rs:b.rs.length≤1000
 ps:b.ps.length≤1000
 ms:b.ms.length≤1000∧∀m∈b.ms,m.nm.length≤1000
 ds:b.ds.length≤1000
 ss:b.ss.length≤1000
theorem lsM_take{base:Option Addr}{cap k:Nat}(h:Ls Mn.cells 2 ro (.slice base L.length cap) L)(hk:k≤L.length):Ls Mn.cells 2 ro (.slice base k cap) (L.take k):=by
 obtain⟨b2,c2,e,h⟩:=h
 cases e
 have hl:(L.take k).length=k:=by simp;omega
 refine⟨base,cap,by rw [hl], ?_⟩
 rcases h with h|⟨p,off,l,t,fq,rfl,h2,h4⟩
 ·left;rw [h];simp
 ·refine .inr ⟨p,off,l,t,fq,rfl,h2, ?_⟩
  have:=h4.part (i:=0) (m:=k*2) O
  have e:∀ (zs:List Mn) (k:Nat),(zs.flatMap Mn.cells).take (k*2)=(zs.take k).flatMap Mn.cells:=fun zs=>by
   induction zs with
   |nil=>intro k;simp
   |cons z zs ih=>
    intro k
    cases k with
    |zero=>simp
    |succ k=>
     have e:(k+1)*2=(Mn.cells z).length+k*2:=by rw [Mn.len];omega
     rw [List.flatMap_cons,e,List.take_length_add_append,ih k,List.take_succ_cons,List.flatMap_cons]
  rw [List.drop_zero,e] at this
  rw [hl]
  simpa using this
theorem any_nm{s:List UInt8}:(L.any fun q=>q.nm==s)=decide (s∈L.map Mn.nm):=by
 rw [Bool.eq_iff_iff,List.any_eq_true,decide_eq_true_eq,List.mem_map]
 constructor
 ·rintro⟨q,hq,e⟩
  exact⟨q,hq,by simpa using e⟩
 ·rintro⟨q,hq,rfl⟩
  exact⟨q,hq,by simp⟩
variable {main:Bool}{J:Goroutine→Mem→Prop}(hJ:Closed prog main J)
include hJ
theorem between_c(n l m:Int)(ro:RO):CallP prog J (fnv 232) [.int .i64 n, .int .i64 l, .int .i64 m] ro (.bool (between n l m)):=by
 refine EP 15 hJ func232 W fun c cs tail hret C=>Xo W W<|Xm W W<|Ro W<|Ri Z b_leq<|Ro W<|R.fix (t:=10) U (fun q1=>?_) (fun q1=>?_)
 ·refine Oo W W<|Ri Z b_leq<|Pp Z<|Hq W func232 hret ?_
  first|(simp_all [between,retVal];done)|(simp_all [between,retVal];omega)
 ·refine Rp W<|Rp W<|Rp W<|Pf Z<|Hq W func232 hret ?_
  first|(simp_all [between,retVal];done)|(simp_all [between,retVal];omega)
theorem isReach_c(x:Rc)(l m k:Int)(ro:RO)(h1: -1000000≤l)(h2:m≤1000000):CallP prog J (fnv 355) [x.val, .int .i64 l, .int .i64 m, .int .i64 k] ro (.bool (isReach x l m k)):=by
 refine EP 35 hJ func355 W fun c cs tail hret C=>?_
 by_cases e1:l≤x.lo
 ·by_cases e2:x.lo≤x.hi
  ·by_cases e3:x.hi≤m
   ·have _:=h1
    refine Xu W<|Bx Z fun p4=>Ae W<|Xm W W<|Rv 0 W A45 U B3<|Rj W G3 V U<|Ri Z b_leq<|FT 12 U (by(exact congrArg Value.bool (by simp [e1])))<|Ro W<|Rv 0 W A45 U B3<|Rj W G3 V U<|Rv 1 W A45 U B3<|Rj W G3 V U<|Ri Z b_leq<|FT 18 U (by(exact congrArg Value.bool (by simp [e2])))<|Pp Z<|Ro W<|Rv 1 W A45 U B3<|Rj W G3 V U<|Ro W<|Ri Z b_leq<|FT 24 U (by(exact congrArg Value.bool (by simp [e3])))<|Pp Z<|Ro W<|Rv 1 W A45 U B3<|Rj W G3 V U<|Rv 0 W A45 U B3<|Rj W G3 V U<|Ri Z (b_sub O O)<|Ro W<|Ri Z b_lss<|Pp Z<|Hq W func355 hret ?_
    simp [isReach,e1,e2,e3,retVal]
   ·have _:=h1
    refine Xu W<|Bx Z fun p4=>Ae W<|Xm W W<|Rv 0 W A45 U B3<|Rj W G3 V U<|Ri Z b_leq<|FT 12 U (by(exact congrArg Value.bool (by simp [e1])))<|Ro W<|Rv 0 W A45 U B3<|Rj W G3 V U<|Rv 1 W A45 U B3<|Rj W G3 V U<|Ri Z b_leq<|FT 18 U (by(exact congrArg Value.bool (by simp [e2])))<|Pp Z<|Ro W<|Rv 1 W A45 U B3<|Rj W G3 V U<|Ro W<|Ri Z b_leq<|FF 24 U (by(exact congrArg Value.bool (by simp [e3])))<|Pp Z<|Ro W<|Rp W<|Rp W<|Rp W<|Rp W<|Rp W<|Rp W<|Rp W<|Pf Z<|Hq W func355 hret ?_
    simp [isReach,e1,e2,e3,retVal]
  ·have _:=h1
   refine Xu W<|Bx Z fun p4=>Ae W<|Xm W W<|Rv 0 W A45 U B3<|Rj W G3 V U<|Ri Z b_leq<|FT 12 U (by(exact congrArg Value.bool (by simp [e1])))<|Ro W<|Rv 0 W A45 U B3<|Rj W G3 V U<|Rv 1 W A45 U B3<|Rj W G3 V U<|Ri Z b_leq<|FF 18 U (by(exact congrArg Value.bool (by simp [e2])))<|Pp Z<|Ro W<|Rp W<|Rp W<|Rp W<|Rp W<|Pf Z<|Ro W<|Rp W<|Rp W<|Rp W<|Rp W<|Rp W<|Rp W<|Rp W<|Pf Z<|Hq W func355 hret ?_
   simp [isReach,e1,e2,retVal]
 ·have _:=h1
  refine Xu W<|Bx Z fun p4=>Ae W<|Xm W W<|Rv 0 W A45 U B3<|Rj W G3 V U<|Ri Z b_leq<|FF 12 U (by(exact congrArg Value.bool (by simp [e1])))<|Ro W<|Rp W<|Rp W<|Rp W<|Rp W<|Rp W<|Pf Z<|Ro W<|Rp W<|Rp W<|Rp W<|Rp W<|Pf Z<|Ro W<|Rp W<|Rp W<|Rp W<|Rp W<|Rp W<|Rp W<|Rp W<|Pf Z<|Hq W func355 hret ?_
  simp [isReach,e1,retVal]
theorem there_c(n m:Int)(h:0≤m∧m≤1000000)(ro:RO):CallP prog J (fnv 165) [.int .i64 n, .int .i64 m] ro (.int .i64 (if between n 0 (m-1) then 0 else 6)):=by
 refine EP 10 hJ func165 W fun c cs tail hret C=>Xo W W<|Xx W<|Oo W W<|Ri Z (b_sub O O)<|Cp Z (between_c hJ _ _ _ _)<|Rh Y<|Zc U (fun h1=>?_) (fun h1=>?_)
 ·have h1:between n 0 (m-1)=false:=by simpa using h1
  refine Xu W<|Hq W func165 hret ?_
  rw [if_neg (by simp [h1])];rfl
 ·have h1:between n 0 (m-1)=true:=by simpa using h1
  refine Xz<|Xu W<|Hq W func165 hret ?_
  rw [if_pos h1];rfl
theorem isLab_c(s:List UInt8)(hs:s.length≤1000000)(ro:RO):CallP prog J (fnv 356) [strV s] ro (.bool (isLab s)):=by
 refine EP 28 hJ func356 W fun c cs tail hret C=>Xo W W<|Xx W<|Ro W<|R.rangeS C U U U A9 fun p6=>Rz<|Xb<|X.loopI (ι:=Nat×Nat) C.1 (fun z=>z.1+z.2≥s.length∧labF ⟨s.toArray⟩ s.length 0=labF ⟨s.toArray⟩ z.1 z.2) (fun _=> [(0,strV s),(6, .pointer (some ⟨p6,0,none⟩))])
  (fun z=>⟨ro,(p6, .stringIter ⟨s.toArray⟩ z.2)::tail⟩) (fun z=>s.length-z.2) (s.length,0) ⟨Nat.le_refl _,rfl⟩ rfl ⟨U,U,trivial⟩ fun z hz hnext=>?_
 obtain⟨k,i⟩:=z
 obtain⟨hk,hinv⟩:=hz
 simp only at hk hinv hnext⊢
 by_cases hlt:i<s.length
 ·obtain⟨k',rfl⟩:∃k',k=k'+1:=⟨k-1,O⟩
  simp only [labF] at hinv
  rw [if_pos (show i<(⟨s.toArray⟩:ByteArray).size from hlt)] at hinv
  have hd:=dec_lt ⟨s.toArray⟩ i
  generalize hdc:Utf8.decode ⟨s.toArray⟩ i=cw at hinv hd
  obtain⟨c,w⟩:=cw
  simp only at hinv hd
  refine Xu W<|R.nextT C U U U hlt hdc .here<|Re Z<|FT 8 U (by rfl)<|Rz<|Xv<|Xc U (fun _=>?_) (fun h=>nomatch h)
  refine Xz<|Xb<|Xu W<|Re Z<|Re Z<|Rg Y<|Ae W<|Xm W W<|R.convInt C U U U A21 A3 (wrap64 O O)<|Cp Z (between_c hJ _ _ _ _)<|Rh Y<|Ro W<|R.fix (t:=15) U (fun g1=>?_) (fun g1=>?_)
  ·have e1:between (c:Int) 97 122=false:=by simpa using g1
   refine Ro W<|Ri Z b_eql<|Ro W<|R.fix (t:=18) U (fun g2=>?_) (fun g2=>?_)
   ·have e2:(i==0)=true:=by simpa using g2
    refine Rp W<|Rp W<|Rp W<|Rp W<|Pp Z<|Pp Z<|Zc U (fun _=>?_) (fun h=>nomatch h)
    refine Xu W<|Hq W func356 hret ?_
    simp [badRune,e1,e2] at hinv
    simp [isLab,hinv,retVal]
   ·have e2:¬i=0:=by simpa using g2
    refine Ro W<|R.convInt C U U U A21 A3 (wrap64 O O)<|Cp Z (between_c hJ _ _ _ _)<|Rh Y<|Pf Z<|Pp Z<|Zc U (fun g3=>?_) (fun g3=>?_)
    ·have e3:between (c:Int) 48 57=false:=by simpa using g3
     refine Xu W<|Hq W func356 hret ?_
     simp [badRune,e1,e3] at hinv
     simp [isLab,hinv,retVal]
    ·have e3:between (c:Int) 48 57=true:=by simpa using g3
     refine Xz<|Xi<|X.weaken ?_ (hnext (k',i+w) ⟨by simp only;omega, ?_⟩ (by simp only;omega))
     ·exact⟨U,U,trivial⟩
     ·rw [hinv];simp [badRune,e1,e2,e3]
  ·have e1:between (c:Int) 97 122=true:=by simpa using g1
   refine Rp W<|Rp W<|Rp W<|Rp W<|Rp W<|Rp W<|Rp W<|Rp W<|Pf Z<|Zc U (fun h=>nomatch h) (fun _=>?_)
   refine Xz<|Xi<|X.weaken ?_ (hnext (k',i+w) ⟨by simp only;omega, ?_⟩ (by simp only;omega))
   ·exact⟨U,U,trivial⟩
   ·rw [hinv];simp [badRune,e1]
 ·have hfin:labF ⟨s.toArray⟩ s.length 0=true:=by
   rw [hinv]
   cases k with
   |zero=>rfl
   |succ k=>simp only [labF];rw [if_neg (show¬i<(⟨s.toArray⟩:ByteArray).size from hlt)]
  refine Xu W<|R.nextF C U U U (List.mem_cons_self ..) (Nat.not_lt.1 hlt)<|Re Z<|FF 8 U (by rfl)<|Rz<|Xv<|Xc U (fun h=>nomatch h) (fun _=>?_)
  refine Xe U<|Xm W W<|R.sLen C U U U A9<|Cp Z (between_c hJ _ _ _ _)<|Hq W func356 hret ?_
  simp [isLab,hfin,retVal]
theorem rest_c(hv:BkV ro v b):CallP prog J (fnv 347) [v] ro (.int .i64 b.restH):=by
 obtain⟨rb,rc,pb,pc,mb,mc,db,dc,sb,sc,rfl,hp,hmc⟩:=hv.all
 refine EP 8 hJ func347 W fun c cs tail hret C=>Xu W<|Bx Z fun p1=>Ae W<|Xx W<|Rv 0 W A127 U B34<|Rv 0 W A34 U B3<|Rj W G3 V U<|Cp Z (between_c hJ _ _ _ _)<|Rh Y<|Zc U (fun h1=>?_) (fun h1=>?_)
 ·have h1:between b.rest 0 60=false:=by simpa using h1
  refine Xu W<|Hq W func347 hret ?_
  simp [Bk.restH,h1,retVal]
 ·have h1:between b.rest 0 60=true:=by simpa using h1
  refine Xz<|Xu W<|Hq W func347 hret ?_
  simp [Bk.restH,h1,retVal]
theorem places1_c(q:Rc)(ro:RO):CallP prog J (fnv 354) [.agg (Rc.cells q).toArray] ro (.bool (!isReach q 1 30 3)):=by
 refine EP 6 hJ func354 W fun c cs tail hret C=>Xu W<|Bx Z fun p1=>Ae W<|Xu W<|Rq W G45 B45 V Tk2<|Cp Z (isReach_c hJ q _ _ _ _ O O)<|Rh Y<|Hq W func354 hret ?_
 rfl
theorem places_c(hv:BkV ro v b)(hs:b.short):CallP prog J (fnv 349) [v] ro (.int .i64 b.placesH):=by
 obtain⟨rb,rc,pb,pc,mb,mc,db,dc,sb,sc,rfl,hp,hmc⟩:=hv.all
 have hps:=hs.ps
 refine EP 13 hJ func349 W fun c cs tail hret C=>Xu W<|Bx Z fun p1=>Ae W<|Xx W<|Rv 0 W A127 U B34<|Rv 2 W A34 U B29<|Rj W G29 V U<|Rt W A29<|Cp Z (between_c hJ _ _ _ _)<|Rh Y<|Zc U (fun h1=>?_) (fun h1=>?_)
 ·have h1:between (b.ps.length:Int) 1 3=false:=by simpa using h1
  refine Xu W<|Hq W func349 hret ?_
  simp [Bk.placesH,h1,retVal]
 ·have h1:between (b.ps.length:Int) 1 3=true:=by simpa using h1
  refine Xz<|Xx W<|Rv 0 W A127 U B34<|Rv 2 W A34 U B29<|Rj W G29 V U<|R.call C U U U U (pre:= []) (tail:=_::tail) U (containsP_c hJ (f:=fun x=> !isReach x 1 30 3) hp.2.1 O fun q _=>places1_c hJ q ro) fun w2 ro2 pre2 hl2 hp2=>?_
  obtain⟨rfl,rfl,rfl⟩:=hp2
  refine Zc U (fun h2=>?_) (fun h2=>?_)
  ·have h2:(b.ps.any fun x=> !isReach x 1 30 3)=true:=by simpa using h2
   refine Xu W<|Hq W func349 hret ?_
   rw [Bk.placesH,if_neg (by simp [h1]),if_pos h2];rfl
  ·have h2:(b.ps.any fun x=> !isReach x 1 30 3)=false:=by simpa using h2
   refine Xz<|Xu W<|Hq W func349 hret ?_
   rw [Bk.placesH,if_neg (by simp [h1]),if_neg (by simp [h2])];rfl
end Go.Lg.S
namespace Go.Lg.S
open Go Go.Conc Go.Lg Go.Proofs Go.Lg.B Go.Proofs.Tryz
variable {main:Bool}{J:Goroutine→Mem→Prop}(hJ:Closed prog main J)
include hJ
theorem table_c{b:Bk}{v:Value}{ro:RO}(hv:BkV ro v b)(hs:b.short):CallP prog J (fnv 348) [v] ro (.int .i64 b.tableH):=by
 obtain⟨rb,rc,pb,pc,mb,mc,db,dc,sb,sc,rfl,hp,hmc⟩:=hv.all
 have hrs:=hs.rs
 refine EP 59 hJ F348 W fun c cs tail hret C=>Xu W<|Bx Z fun p1=>Ae W<|Xx W<|Rv 0 W A127 U B34<|Rv 1 W A34 U B28<|Rj W G28 V U<|Rt W A28<|Cp Z (between_c hJ _ _ _ _)<|Rh Y<|Zc U (fun hn=>?_) (fun hn=>?_)
 ·have hn:between (b.rs.length:Int) 1 4=false:=by simpa using hn
  refine Xu W<|Hq W F348 hret ?_
  rw [Bk.tableH,if_pos (by simp [hn])];rfl
 ·have hn:between (b.rs.length:Int) 1 4=true:=by simpa using hn
  rw [Bk.tableH,if_neg (by simp [hn])] at hret
  refine Xz<|Xx W<|Rv 0 W A127 U B34<|Rv 1 W A34 U B28<|Rj W G28 V U<|Rt W A28<|Ro W<|Rz<|Xb<|X.loopI (ι:=Nat) C.1 (fun i=>i≤b.rs.length∧rowsGo b.rs 0 b.rs=rowsGo b.rs i (b.rs.drop i))
   (fun i=> [(13, .slice rb b.rs.length rc),(14, .int .i64 (b.rs.length:Int)),(15, .int .i64 (i:Int)),(1, .pointer (some ⟨p1,0,none⟩))])
   (fun _=>⟨ro,(p1, .cells [.int .i64 b.rest, .slice rb b.rs.length rc, .slice pb b.ps.length pc, .slice mb b.ms.length mc, .slice db b.ds.length dc, .slice sb b.ss.length sc].toArray 127 (0,0))::tail⟩) (fun i=>b.rs.length-i) 0 ⟨Nat.zero_le _,by simp⟩ rfl ⟨U,U,U,U,trivial⟩ fun i hi hnext=>?_
  obtain⟨hi,hr⟩:=hi
  refine Xu W<|Ri Z b_lss<|Rz<|Xv<|Xj U (fun hlt=>?_) (fun hlt=>?_)
  ·have hi':i<b.rs.length:=O
   obtain⟨p,off,cap,l,t,fq,hsl',hrop,hsub⟩:=hp.1.at Rw.len O
   cases hsl'
   rw [List.drop_eq_getElem_cons hi'] at hr
   have hsi:=hsub i hi'
   have hpv:0<i→l[off+((i:Int) -1).toNat*2+0]? =some (.int .i64 (b.rs.getD (i-1) default).d)∧l[off+((i:Int) -1).toNat*2+1]? =some (.int .i64 (b.rs.getD (i-1) default).s):=fun h0=>by
    have h1:=hsub (i-1) O
    have e1:((i:Int) -1).toNat=i-1:=O
    have e2:b.rs.getD (i-1) default=b.rs[i-1]:=by rw [List.getD_eq_getElem?_getD,List.getElem?_eq_getElem O];rfl
    rw [e1,e2]
    exact⟨h1.get 0 Dd,h1.get 1 Dd⟩
   generalize b.rs[i]=r at hr hsi
   simp only [rowsGo] at hr
   generalize b.rs.getD (i-1) default=pv at hpv hr
   by_cases e1:between r.d 1 30=true
   ·have _:=e1
    refine Xz<|Xv<|Xb<|Xm W W<|Ry Y A28 B286<|La Y isAgg286 B286 hrop hsi<|Al W K286 U fun p4=>Rg Y<|Rs Z B286 Y V Ph2<|Rz<|Xb<|Xx W<|Rv 0 W A286 U B3<|Rj W G3 V U<|Cp Z (between_c hJ _ _ _ _)<|Rh Y<|Rg Y<|FF 20 U (by(rw [e1];rfl))<|Zc U (fun h=>nomatch h) (fun _=>?_)
    refine Xg W<|Rv 1 W A286 U B3<|Rj W G3 V U ?_
    by_cases e2:between r.s 1 60=true
    ·have e3:¬(!between r.d 1 30|| !between r.s 1 60)=true:=by simp [e1,e2]
     rw [if_neg e3] at hr
     by_cases h0:0<i
     ·obtain⟨hp1,hp2⟩:=hpv h0
      by_cases e4:r.d≤pv.d
      ·have _:=e4
       refine Cp Z (between_c hJ _ _ _ _)<|Rh Y<|Rg Y<|FF 20 U (by(rw [e2];rfl))<|Zc U (fun h=>nomatch h) (fun _=>?_)
       refine Xv<|Xf fun hok=>Dt 0 Y<|Dj 1 Y5 b_gtr<|D.fixv (t:=31) (v':= .bool true) U (by(exact congrArg Value.bool (by simp [h0])))<|Dt 2 Y<|Dh 0 3 Y A286 U B3<|Db 4 W G3 V U<|Dh 0 5 Y A127 U B34<|Dh 1 6 Y A34 U B28<|Db 7 W G28 V U<|Dt 8 Y<|Dj 9 Y5 (b_sub O O)<|Dw 10 Y A28 B286<|Df C 11 hok U U U A286 U B3 U<|Dc 12 W G3 hrop hp1<|Dj 13 Y5 b_leq<|D.fixv (t:=43) (v':= .bool true) U (by(exact congrArg Value.bool (by simp [e4])))<|Dt 14 Y<|Dr 15 U<|Dr 16 U<|Dr 17 U<|Dr 18 U<|Dr 19 U<|Dr 20 U<|Dr 21 U<|Dr 22 U<|Dr 23 U<|Dr 24 U<|Dr 25 U<|Dp 26 hok (fun _ _ _ A h=>R.pickT C U (A.w U U) (A.x U U) (A.x U U) h)<|Dp 27 hok (fun _ _ _ A h=>R.pickT C U (A.w U U) (A.x U U) (A.x U U) h)<|Da C 28 hok U U<|Dn<|Xc U (fun _=>?_) (fun h=>nomatch h)
       refine Xu W<|Hq W F348 hret ?_
       rw [if_pos ⟨h0, .inl e4⟩] at hr
       rw [hr];rfl
      ·have _:=e4
       refine Cp Z (between_c hJ _ _ _ _)<|Rh Y<|Rg Y<|FF 20 U (by(rw [e2];rfl))<|Zc U (fun h=>nomatch h) (fun _=>?_)
       refine Xv<|Xf fun hok=>Dt 0 Y<|Dj 1 Y5 b_gtr<|D.fixv (t:=31) (v':= .bool true) U (by(exact congrArg Value.bool (by simp [h0])))<|Dt 2 Y<|Dh 0 3 Y A286 U B3<|Db 4 W G3 V U<|Dh 0 5 Y A127 U B34<|Dh 1 6 Y A34 U B28<|Db 7 W G28 V U<|Dt 8 Y<|Dj 9 Y5 (b_sub O O)<|Dw 10 Y A28 B286<|Df C 11 hok U U U A286 U B3 U<|Dc 12 W G3 hrop hp1<|Dj 13 Y5 b_leq<|D.fixv (t:=43) (v':= .bool false) U (by(exact congrArg Value.bool (by simp [e4])))<|Dt 14 Y<|Dh 1 15 Y A286 U B3<|Db 16 W G3 V U<|Dh 0 17 Y A127 U B34<|Dh 1 18 Y A34 U B28<|Db 19 W G28 V U<|Dt 20 Y<|Dj 21 Y5 (b_sub O O)<|Dw 22 Y A28 B286<|Df C 23 hok U U U A286 U B3 U<|Dc 24 W G3 hrop hp2<|Dj 25 Y5 b_gtr<|Dp 26 hok (fun _ _ _ A h=>R.pickF C U (A.w U U) (A.x U U) (A.x U U) h)<|Dp 27 hok (fun _ _ _ A h=>R.pickT C U (A.w U U) (A.x U U) (A.x U U) h)<|Da C 28 hok U U<|Dn<|Xc U (fun h5=>?_) (fun h5=>?_)
       ·have h5:pv.s<r.s:=by simpa using h5
        refine Xu W<|Hq W F348 hret ?_
        rw [if_pos ⟨h0, .inr h5⟩] at hr
        rw [hr];rfl
       ·have h5:¬pv.s<r.s:=by simpa using h5
        rw [if_neg (fun e=>e.2.elim e4 h5)] at hr
        refine Xz<|Xi<|Xi<|Xg W<|Rb Y<|Ro W<|Rz<|X.drop C.1 (own':=_::tail) (List.sublist_cons_self _ _)<|X.weaken ?_ (hnext (i+1) ⟨hi',hr⟩ O)
        exact⟨rfl,rfl,by simp [look],rfl,trivial⟩
     ·have _:=e2
      refine Cp Z (between_c hJ _ _ _ _)<|Rh Y<|Rg Y<|FF 20 U (by(rw [e2];rfl))<|Zc U (fun h=>nomatch h) (fun _=>?_)
      refine Xv<|Xf fun hok=>Dt 0 Y<|Dj 1 Y5 b_gtr<|D.fixv (t:=31) (v':= .bool false) U (by(exact congrArg Value.bool (by simp [h0])))<|Dt 2 Y<|Dr 3 U<|Dr 4 U<|Dr 5 U<|Dr 6 U<|Dr 7 U<|Dr 8 U<|Dr 9 U<|Dr 10 U<|Dr 11 U<|Dr 12 U<|Dr 13 U<|Dr 14 U<|Dr 15 U<|Dr 16 U<|Dr 17 U<|Dr 18 U<|Dr 19 U<|Dr 20 U<|Dr 21 U<|Dr 22 U<|Dr 23 U<|Dr 24 U<|Dr 25 U<|Dr 26 U<|Dp 27 hok (fun _ _ _ A h=>R.pickF C U (A.w U U) (A.x U U) (A.x U U) h)<|Da C 28 hok U U<|Dn<|Xc U (fun h=>nomatch h) (fun _=>?_)
      refine Xz<|Xi<|Xi<|Xg W<|Rb Y<|Ro W<|Rz ?_
      rw [if_neg (fun e=>h0 e.1)] at hr
      refine X.drop C.1 (own':=_::tail) (List.sublist_cons_self _ _)<|X.weaken ?_ (hnext (i+1) ⟨hi',hr⟩ O)
      exact⟨rfl,rfl,by simp [look],rfl,trivial⟩
    ·have e2:between r.s 1 60=false:=by simpa using e2
     have e3:(!between r.d 1 30|| !between r.s 1 60)=true:=by simp [e2]
     rw [if_pos e3] at hr
     refine Cp Z (between_c hJ _ _ _ _)<|Rh Y<|Rg Y<|FT 20 U (by(rw [e2];rfl))<|Zc U (fun _=>?_) (fun h=>nomatch h)
     refine Xu W<|Hq W F348 hret ?_
     rw [hr];rfl
   ·have e1:between r.d 1 30=false:=by simpa using e1
    have e3:(!between r.d 1 30|| !between r.s 1 60)=true:=by simp [e1]
    rw [if_pos e3] at hr
    refine Xz<|Xv<|Xb<|Xm W W<|Ry Y A28 B286<|La Y isAgg286 B286 hrop hsi<|Al W K286 U fun p4=>Rg Y<|Rs Z B286 Y V Ph2<|Rz<|Xb<|Xx W<|Rv 0 W A286 U B3<|Rj W G3 V U<|Cp Z (between_c hJ _ _ _ _)<|Rh Y<|Rg Y<|FT 20 U (by(rw [e1];rfl))<|Zc U (fun _=>?_) (fun h=>nomatch h)
    refine Xz<|Xc U (fun _=>?_) (fun h=>nomatch h)
    refine Xu W<|Hq W F348 hret ?_
    rw [hr];rfl
  ·obtain rfl:i=b.rs.length:=by omega
   simp only [List.drop_length,rowsGo] at hr
   refine Xe U<|Xu W<|Hq W F348 hret ?_
   rw [hr];rfl
end Go.Lg.S
namespace Go.Lg.S
open Go Go.Conc Go.Lg Go.Proofs Go.Lg.B Go.Proofs.Tryz
variable {ro:RO}{b:Bk}{v:Value}
def Env(ro:RO):Prop:= ∃t fq,ro 0=some (.cells [fnv 347,fnv 348,fnv 349,fnv 350,fnv 351,fnv 352].toArray t fq)
theorem Env.mono{ro':RO}(h:Env ro)(hl:ro.le ro'):Env ro':=let⟨t,fq,h⟩:=h;⟨t,fq,hl _ _ h⟩
variable {main:Bool}{J:Goroutine→Mem→Prop}(hJ:Closed prog main J)
include hJ
theorem men1_c{p1:Nat}{s:List UInt8}{x1:Value}(q:Mn)(ro:RO):
  CallV prog J (.func (.func 358) #[] [.pointer (some ⟨p1,0,none⟩)].toArray) [.agg (Mn.cells q).toArray] ro [(p1, .cells [strV s,x1].toArray 254 (0,0))] (fun v ro' pre'=>v= .bool (q.nm==s)∧ro'=ro∧pre'= [(p1, .cells [strV s,x1].toArray 254 (0,0))]):=by
 unfold Mn.cells
 refine CallV.intro (first:= []) (vs:= [_]) (cap:= [_]) hJ Kr fun c cs tail hret=>enter_X (n:=9) func358 U U (Nl U) ?_
 have C:Ctx prog main J (bf 358 .normal):=⟨hJ,by decide⟩
 refine Xu W<|Bx Z fun p2=>Ae W<|Xu W<|Rv 0 W A254 U B9<|Rj W G9 V U<|Rv 0 W A254 U B9<|Rj W G9 V U<|R.str C U U U U b_seql<|Ae W<|Xw func358 ?_
 exact hret _ _ [_] _ (RO.le_refl _) ⟨rfl,rfl,rfl⟩ (by repeat (first|exact Sr|apply Sk|apply Sc))
theorem men_c(hv:BkV ro v b)(hs:b.short):CallP prog J (fnv 350) [v] ro (.int .i64 (b.menH isLab)):=by
 obtain⟨rb,rc,pb,pc,mb,mc,db,dc,sb,sc,rfl,hp,hmc⟩:=hv.all
 have hsl:=hs.ms
 have hm0:=hp.2.2.1
 refine EP 39 hJ func350 W fun c cs tail hret C=>Xu W<|Bx Z fun p1=>Ae W<|Xx W<|Rv 0 W A127 U B34<|Rv 3 W A34 U B30<|Rj W G30 V U<|Rt W A30<|Cp Z (between_c hJ _ _ _ _)<|Rh Y<|Zc U (fun hn=>?_) (fun hn=>?_)
 ·refine Xu W<|Hq W func350 hret ?_
  have hn:between (b.ms.length:Int) 1 4=false:=by simpa using hn
  rw [Bk.menH,if_pos (by simp [hn])];rfl
 ·have hn:between (b.ms.length:Int) 1 4=true:=by simpa using hn
  rw [Bk.menH,if_neg (by simp [hn])] at hret
  refine Xz<|Xx W<|Rv 0 W A127 U B34<|Rv 3 W A34 U B30<|Rj W G30 V U<|Rt W A30<|Ro W<|Rz<|Xb<|X.loopI (ι:=Nat) C.1 (fun i=>i≤b.ms.length∧menGo isLab [] b.ms=menGo isLab ((b.ms.take i).map Mn.nm) (b.ms.drop i))
   (fun i=> [(13, .slice mb b.ms.length mc),(14, .int .i64 (b.ms.length:Int)),(15, .int .i64 (i:Int)),(1, .pointer (some ⟨p1,0,none⟩))])
   (fun _=>⟨ro,(p1, .cells [.int .i64 b.rest, .slice rb b.rs.length rc, .slice pb b.ps.length pc, .slice mb b.ms.length mc, .slice db b.ds.length dc, .slice sb b.ss.length sc].toArray 127 (0,0))::tail⟩) (fun i=>b.ms.length-i) 0 ⟨Nat.zero_le _,by simp⟩ rfl ⟨U,U,U,U,trivial⟩ fun i hi hnext=>?_
  obtain⟨hi,hr⟩:=hi
  refine Xu W<|Ri Z b_lss<|Rz<|Xv<|Xj U (fun hlt=>?_) (fun hlt=>?_)
  ·have hi':i<b.ms.length:=O
   have hlp:=lsM_take hm0 (show i≤b.ms.length by omega)
   obtain⟨p,off,cap,l,t,fq,hsl',hrop,hsub⟩:=hm0.at Mn.len O
   cases hsl'
   have hld:=hsub i hi'
   have hnm:=hsl.2 _ (List.getElem_mem hi')
   have hmt:=map_take (f:=Mn.nm) hi'
   rw [List.drop_eq_getElem_cons hi'] at hr
   generalize b.ms[i]=q at hr hld hnm hmt
   simp only [menGo] at hr
   unfold Mn.cells at hld
   refine Xz<|Xv<|Xb<|Xm W W<|Ry Y A30 B254<|La Y isAgg254 B254 hrop hld<|Al W zeroValue254 U fun p4=>Rg Y<|Rs Z B254 Y V Ph2<|Rz<|Xb<|Xu W<|Rv 0 W A254 U B9<|Rj W G9 V U<|Cp Z (isLab_c hJ q.nm O ro)<|Rh Y<|Ae W<|Xc U (fun h1=>?_) (fun h1=>?_)
   ·have h1:isLab q.nm=false:=by simpa using h1
    refine Xu W<|Hq W func350 hret ?_
    rw [h1] at hr
    rw [hr];rfl
   ·have h1:isLab q.nm=true:=by simpa using h1
    rw [h1] at hr
    simp only [Bool.not_true,Bool.false_eq_true,if_false] at hr
    refine Xu W<|Rv 0 W A127 U B34<|Rv 3 W A34 U B30<|Rj W G30 V U<|Ro W<|R.sliceTo C U U U U A30 B254 O O<|R.makeFunc C U U U U<|R.call C U U U U (pre:= [_]) (tail:=_::tail) U (containsM_c hJ (f:=fun x=>x.nm==q.nm) hlp Zo fun x _=>men1_c hJ x ro) fun w2 ro2 pre2 hl2 hp2=>?_
    obtain⟨rfl,rfl,rfl⟩:=hp2
    rw [any_nm]
    refine Ae W<|Xc U (fun h2=>?_) (fun h2=>?_)
    ·have h2:q.nm∈(b.ms.take i).map Mn.nm:=by simpa using h2
     rw [if_pos h2] at hr
     refine Xu W<|Hq W func350 hret ?_
     rw [hr];rfl
    ·have h2:¬q.nm∈(b.ms.take i).map Mn.nm:=by simpa using h2
     rw [if_neg h2] at hr
     refine Xu W<|Rv 1 W A254 U B3<|Rj W G3 V U<|Cp Z (between_c hJ _ _ _ _)<|Rh Y<|Ae W<|Xc U (fun h3=>?_) (fun h3=>?_)
     ·have h3:between q.d 1 30=false:=by simpa using h3
      refine Xu W<|Hq W func350 hret ?_
      rw [h3] at hr
      rw [hr];rfl
     ·have h3:between q.d 1 30=true:=by simpa using h3
      rw [h3] at hr
      simp only [Bool.not_true,Bool.false_eq_true,if_false] at hr
      rw [←hmt] at hr
      refine Xz<|Xi<|Xi<|Xg W<|Rb Y<|Ro W<|Rz<|X.drop C.1 (own':=_::tail) (List.sublist_cons_self _ _)<|X.weaken ?_ (hnext (i+1) ⟨hi',hr⟩ O)
      exact⟨rfl,rfl,by simp [look],rfl,trivial⟩
  ·obtain rfl:i=b.ms.length:=by omega
   simp only [List.drop_length,menGo] at hr
   refine Xe U<|Xu W<|Hq W func350 hret ?_
   rw [hr];rfl
theorem dives_c(hv:BkV ro v b)(hs:b.short):CallP prog J (fnv 351) [v] ro (.int .i64 b.divesH):=by
 obtain⟨rb,rc,pb,pc,mb,mc,db,dc,sb,sc,rfl,hp,hmc⟩:=hv.all
 have hds:=hs.ds
 have hps:=hs.ps
 refine EP 47 hJ F351 W fun c cs tail hret C=>Xu W<|Bx Z fun p1=>Ae W<|Xx W<|Rv 0 W A127 U B34<|Rv 4 W A34 U B31<|Rj W G31 V U<|Rt W A31<|Cp Z (between_c hJ _ _ _ _)<|Rh Y<|Zc U (fun hn=>?_) (fun hn=>?_)
 ·refine Xu W<|Hq W F351 hret ?_
  have hn:between (b.ds.length:Int) 1 4=false:=by simpa using hn
  rw [Bk.divesH,if_pos (by simp [hn])];rfl
 ·have hn:between (b.ds.length:Int) 1 4=true:=by simpa using hn
  rw [Bk.divesH,if_neg (by simp [hn])] at hret
  refine Xz<|Xx W<|Rv 0 W A127 U B34<|Rv 4 W A34 U B31<|Rj W G31 V U<|Rt W A31<|Ro W<|Rz<|Xb<|X.loopI (ι:=Nat) C.1 (fun i=>i≤b.ds.length∧b.divesGo b.ds=b.divesGo (b.ds.drop i))
   (fun i=> [(14, .slice db b.ds.length dc),(15, .int .i64 (b.ds.length:Int)),(16, .int .i64 (i:Int)),(1, .pointer (some ⟨p1,0,none⟩))])
   (fun _=>⟨ro,(p1, .cells [.int .i64 b.rest, .slice rb b.rs.length rc, .slice pb b.ps.length pc, .slice mb b.ms.length mc, .slice db b.ds.length dc, .slice sb b.ss.length sc].toArray 127 (0,0))::tail⟩) (fun i=>b.ds.length-i) 0 ⟨Nat.zero_le _,by simp⟩ rfl ⟨U,U,U,U,trivial⟩ fun i hi hnext=>?_
  obtain⟨hi,hr⟩:=hi
  refine Xu W<|Ri Z b_lss<|Rz<|Xv<|Xj U (fun hlt=>?_) (fun hlt=>?_)
  ·have hi':i<b.ds.length:=O
   obtain⟨p,off,cap,l,t,fq,hsl',hrop,hsub⟩:=hp.2.2.2.1.at Dv.len O
   cases hsl'
   rw [List.drop_eq_getElem_cons hi'] at hr
   have hsi:=hsub i hi'
   generalize b.ds[i]=q at hr hsi
   simp only [Bk.divesGo] at hr
   by_cases e0:b.place q.p=true
   ·rw [e0] at hr
    simp only [Bool.not_true,Bool.false_eq_true,if_false] at hr
    refine Xz<|Xv<|Xb<|Xu W<|Ry Y A31 B256<|La Y isAgg256 B256 hrop hsi<|Al W K256 U fun p4=>Rs Z B256 Y V Ph4<|Rz<|Xx W<|Rv 0 W A256 U B3<|Rj W G3 V U<|Rv 0 W A127 U B34<|Rv 2 W A34 U B29<|Rj W G29 V U<|Rt W A29<|Cp Z (there_c hJ q.p (b.ps.length:Int) O ro)<|Rg Y<|R.fixv (t:=5) (v':=(.int .i64 0)) U (by(exact congrArg (Value.int .i64) (if_pos e0)))<|Rz<|Xm W W<|Ri Z b_neq<|FF 28 U (by rfl)<|Zc U (fun h=>nomatch h) (fun _=>?_)
    refine Xz<|Xu W<|Rv 1 W A256 U B3<|Rj W G3 V U<|Cp Z (between_c hJ _ _ _ _)<|Rh Y<|Ro W<|R.fix (t:=34) U (fun h1=>?_) (fun h1=>?_)
    ·have h1:between q.b 0 200=false:=by simpa using h1
     refine Rp W<|Rp W<|Rp W<|Rp W<|Pp Z<|Ro W<|Rp W<|Rp W<|Rp W<|Rp W<|Pp Z<|Zc U (fun _=>?_) (fun h=>nomatch h)
     refine Xu W<|Hq W F351 hret ?_
     rw [h1] at hr
     rw [hr];rfl
    ·have h1:between q.b 0 200=true:=by simpa using h1
     rw [h1] at hr
     simp only [Bool.not_true,Bool.false_or] at hr
     refine Rv 2 W A256 U B3<|Rj W G3 V U<|Cp Z (between_c hJ _ _ _ _)<|Rh Y<|Pf Z<|Ro W<|R.fix (t:=40) U (fun h2=>?_) (fun h2=>?_)
     ·have h2:between q.t 1 60=false:=by simpa using h2
      refine Rp W<|Rp W<|Rp W<|Rp W<|Pp Z<|Zc U (fun _=>?_) (fun h=>nomatch h)
      refine Xu W<|Hq W F351 hret ?_
      rw [h2] at hr
      rw [hr];rfl
     ·have h2:between q.t 1 60=true:=by simpa using h2
      rw [h2] at hr
      simp only [Bool.not_true,Bool.false_or] at hr
      refine Rv 3 W A256 U B3<|Rj W G3 V U<|Cp Z (between_c hJ _ _ _ _)<|Rh Y<|Pf Z<|Zc U (fun h3=>?_) (fun h3=>?_)
      ·have h3:between q.m 1 3=false:=by simpa using h3
       refine Xu W<|Hq W F351 hret ?_
       rw [h3] at hr
       rw [hr];rfl
      ·have h3:between q.m 1 3=true:=by simpa using h3
       rw [h3] at hr
       simp only [Bool.not_true,Bool.false_eq_true,if_false] at hr
       refine Xz<|Xi<|Xg W<|Rb Y<|Ro W<|Rz<|X.drop C.1 (own':=_::tail) (List.sublist_cons_self _ _)<|X.weaken ?_ (hnext (i+1) ⟨hi',hr⟩ O)
       exact⟨rfl,rfl,by simp [look],rfl,trivial⟩
   ·have e1:b.place q.p=false:=by simpa using e0
    rw [e1] at hr
    simp only [Bool.not_false,if_true] at hr
    refine Xz<|Xv<|Xb<|Xu W<|Ry Y A31 B256<|La Y isAgg256 B256 hrop hsi<|Al W K256 U fun p4=>Rs Z B256 Y V Ph4<|Rz<|Xx W<|Rv 0 W A256 U B3<|Rj W G3 V U<|Rv 0 W A127 U B34<|Rv 2 W A34 U B29<|Rj W G29 V U<|Rt W A29<|Cp Z (there_c hJ q.p (b.ps.length:Int) O ro)<|Rg Y<|R.fixv (t:=5) (v':=(.int .i64 6)) U (by(exact congrArg (Value.int .i64) (if_neg e0)))<|Rz<|Xm W W<|Ri Z b_neq<|FT 28 U (by rfl)<|Zc U (fun _=>?_) (fun h=>nomatch h)
    refine Xm W W<|Hq W F351 hret ?_
    rw [hr];rfl
  ·obtain rfl:i=b.ds.length:=by omega
   simp only [List.drop_length,Bk.divesGo] at hr
   refine Xe U<|Xu W<|Hq W F351 hret ?_
   rw [hr];rfl
theorem soundings_c(hv:BkV ro v b)(hs:b.short):CallP prog J (fnv 352) [v] ro (.int .i64 b.soundH):=by
 obtain⟨rb,rc,pb,pc,mb,mc,db,dc,sb,sc,rfl,hp,hmc⟩:=hv.all
 have hss:=hs.ss
 have hps:=hs.ps
 refine EP 34 hJ func352 W fun c cs tail hret C=>Xu W<|Bx Z fun p1=>Ae W<|Xx W<|Rv 0 W A127 U B34<|Rv 5 W A34 U B32<|Rj W G32 V U<|Rt W A32<|Ri Z b_gtr<|Zc U (fun hn=>?_) (fun hn=>?_)
 ·refine Xu W<|Hq W func352 hret ?_
  simp only [dT] at hn
  rw [Bk.soundH,if_pos O];rfl
 ·simp only [dF] at hn
  rw [Bk.soundH,if_neg O] at hret
  refine Xz<|Xx W<|Rv 0 W A127 U B34<|Rv 5 W A34 U B32<|Rj W G32 V U<|Rt W A32<|Ro W<|Rz<|Xb<|X.loopI (ι:=Nat) C.1 (fun i=>i≤b.ss.length∧b.soundGo b.ss=b.soundGo (b.ss.drop i))
   (fun i=> [(13, .slice sb b.ss.length sc),(14, .int .i64 (b.ss.length:Int)),(15, .int .i64 (i:Int)),(1, .pointer (some ⟨p1,0,none⟩))])
   (fun _=>⟨ro,(p1, .cells [.int .i64 b.rest, .slice rb b.rs.length rc, .slice pb b.ps.length pc, .slice mb b.ms.length mc, .slice db b.ds.length dc, .slice sb b.ss.length sc].toArray 127 (0,0))::tail⟩) (fun i=>b.ss.length-i) 0 ⟨Nat.zero_le _,by simp⟩ rfl ⟨U,U,U,U,trivial⟩ fun i hi hnext=>?_
  obtain⟨hi,hr⟩:=hi
  refine Xu W<|Ri Z b_lss<|Rz<|Xv<|Xj U (fun hlt=>?_) (fun hlt=>?_)
  ·have hi':i<b.ss.length:=O
   obtain⟨p,off,cap,l,t,fq,hsl',hrop,hsub⟩:=hp.2.2.2.2.1.at Sd.len O
   cases hsl'
   rw [List.drop_eq_getElem_cons hi'] at hr
   have hsi:=hsub i hi'
   generalize b.ss[i]=q at hr hsi
   simp only [Bk.soundGo] at hr
   by_cases e0:b.place q.p=true
   ·rw [e0] at hr
    simp only [Bool.not_true,Bool.false_eq_true,if_false] at hr
    refine Xz<|Xv<|Xb<|Xu W<|Ry Y A32 B36<|La Y G36 B36 hrop hsi<|Al W K36 U fun p4=>Rs Z B36 Y V Ph3<|Rz<|Xx W<|Rv 0 W A36 U B3<|Rj W G3 V U<|Rv 0 W A127 U B34<|Rv 2 W A34 U B29<|Rj W G29 V U<|Rt W A29<|Cp Z (there_c hJ q.p (b.ps.length:Int) O ro)<|Rg Y<|R.fixv (t:=5) (v':=(.int .i64 0)) U (by(exact congrArg (Value.int .i64) (if_pos e0)))<|Rz<|Xm W W<|Ri Z b_neq<|FF 27 U (by rfl)<|Zc U (fun h=>nomatch h) (fun _=>?_)
    refine Xz<|Xu W<|Rv 1 W A36 U B3<|Rj W G3 V U<|Cp Z (between_c hJ _ _ _ _)<|Rh Y<|Zc U (fun h3=>?_) (fun h3=>?_)
    ·have h3:between q.n 0 30=false:=by simpa using h3
     refine Xu W<|Hq W func352 hret ?_
     rw [h3] at hr
     rw [hr];rfl
    ·have h3:between q.n 0 30=true:=by simpa using h3
     rw [h3] at hr
     simp only [Bool.not_true,Bool.false_eq_true,if_false] at hr
     refine Xz<|Xi<|Xg W<|Rb Y<|Ro W<|Rz<|X.drop C.1 (own':=_::tail) (List.sublist_cons_self _ _)<|X.weaken ?_ (hnext (i+1) ⟨hi',hr⟩ O)
     exact⟨rfl,rfl,by simp [look],rfl,trivial⟩
   ·have e1:b.place q.p=false:=by simpa using e0
    rw [e1] at hr
    simp only [Bool.not_false,if_true] at hr
    refine Xz<|Xv<|Xb<|Xu W<|Ry Y A32 B36<|La Y G36 B36 hrop hsi<|Al W K36 U fun p4=>Rs Z B36 Y V Ph3<|Rz<|Xx W<|Rv 0 W A36 U B3<|Rj W G3 V U<|Rv 0 W A127 U B34<|Rv 2 W A34 U B29<|Rj W G29 V U<|Rt W A29<|Cp Z (there_c hJ q.p (b.ps.length:Int) O ro)<|Rg Y<|R.fixv (t:=5) (v':=(.int .i64 6)) U (by(exact congrArg (Value.int .i64) (if_neg e0)))<|Rz<|Xm W W<|Ri Z b_neq<|FT 27 U (by rfl)<|Zc U (fun _=>?_) (fun h=>nomatch h)
    refine Xm W W<|Hq W func352 hret ?_
    rw [hr];rfl
  ·obtain rfl:i=b.ss.length:=by omega
   simp only [List.drop_length,Bk.soundGo] at hr
   refine Xe U<|Xu W<|Hq W func352 hret ?_
   rw [hr];rfl
omit hJ in
def hit(b:Bk):Nat→Int
 |0=>b.restH
 |1=>b.tableH
 |2=>b.placesH
 |3=>b.menH isLab
 |4=>b.divesH
 |_=>b.soundH
omit hJ in
theorem check_hit{i:Nat}(hi:i<6)(hh:hit b i≠0)(h:∀j,j<i→hit b j=0):checkBook isLab b=hit b i:=by
 have h5:i=0∨i=1∨i=2∨i=3∨i=4∨i=5:=O
 unfold checkBook
 rcases h5 with rfl|rfl|rfl|rfl|rfl|rfl
 ·exact if_pos hh
 ·rw [if_neg (fun k=>k (h 0 O))];exact if_pos hh
 ·rw [if_neg (fun k=>k (h 0 O)),if_neg (fun k=>k (h 1 O))];exact if_pos hh
 ·rw [if_neg (fun k=>k (h 0 O)),if_neg (fun k=>k (h 1 O)),if_neg (fun k=>k (h 2 O))];exact if_pos hh
 ·rw [if_neg (fun k=>k (h 0 O)),if_neg (fun k=>k (h 1 O)),if_neg (fun k=>k (h 2 O)),if_neg (fun k=>k (h 3 O))];exact if_pos hh
 ·rw [if_neg (fun k=>k (h 0 O)),if_neg (fun k=>k (h 1 O)),if_neg (fun k=>k (h 2 O)),if_neg (fun k=>k (h 3 O)),if_neg (fun k=>k (h 4 O))];rfl
omit hJ in
theorem check_zero(h:∀j,j<6→hit b j=0):checkBook isLab b=0:=by
 unfold checkBook
 rw [if_neg (fun k=>k (h 0 O)),if_neg (fun k=>k (h 1 O)),if_neg (fun k=>k (h 2 O)),if_neg (fun k=>k (h 3 O)),if_neg (fun k=>k (h 4 O))]
 exact h 5 O
theorem checkBook_c(he:Env ro)(hv:BkV ro v b)(hs:b.short):CallP prog J (fnv 61) [v] ro (.int .i64 (checkBook isLab b)):=by
 have hv0:=hv
 obtain⟨rb,rc,pb,pc,mb,mc,db,dc,sb,sc,rfl,hp,hmc⟩:=hv.all
 obtain⟨te,fe,hen⟩:=he
 refine EP 18 hJ func61 W fun c cs tail hret C=>Xu W<|Bx Z fun p1=>Ae W<|Xx W<|La Y isAgg281 sizeOf281 hen Tk6<|Ro W<|Rz<|Xb<|X.loopI (ι:=Nat) C.1 (fun i=>i≤6∧∀j,j<i→hit b j=0) (fun i=> [(6, .agg [fnv 347,fnv 348,fnv 349,fnv 350,fnv 351,fnv 352].toArray),(7, .int .i64 (i:Int)),(1, .pointer (some ⟨p1,0,none⟩))])
  (fun _=>⟨ro,(p1, .cells [.int .i64 b.rest, .slice rb b.rs.length rc, .slice pb b.ps.length pc, .slice mb b.ms.length mc, .slice db b.ds.length dc, .slice sb b.ss.length sc].toArray 34 (0,0))::tail⟩) (fun i=>6-i) 0 ⟨Nat.zero_le _,fun j hj=>absurd hj (Nat.not_lt_zero _)⟩ rfl ⟨U,U,U,trivial⟩ fun i hi hnext=>?_
 obtain⟨hi,hr⟩:=hi
 refine Xu W<|Ri Z b_lss<|Rz<|Xv<|Xj U (fun hlt=>?_) (fun hlt=>?_)
 ·have hi':i<6:=O
  have h5:i=0∨i=1∨i=2∨i=3∨i=4∨i=5:=O
  have hget: [fnv 347,fnv 348,fnv 349,fnv 350,fnv 351,fnv 352][((i:Int)).toNat*1]? =some (fnv (347+i)):=by
   rcases h5 with rfl|rfl|rfl|rfl|rfl|rfl<;>rfl
  have hcall:CallP prog J (fnv (347+i)) [.agg [.int .i64 b.rest, .slice rb b.rs.length rc, .slice pb b.ps.length pc, .slice mb b.ms.length mc, .slice db b.ds.length dc, .slice sb b.ss.length sc].toArray] ro (.int .i64 (hit b i)):=by
   rcases h5 with rfl|rfl|rfl|rfl|rfl|rfl
   ·exact rest_c hJ hv0
   ·exact table_c hJ hv0 hs
   ·exact places_c hJ hv0 hs
   ·exact men_c hJ hv0 hs
   ·exact dives_c hJ hv0 hs
   ·exact soundings_c hJ hv0 hs
  refine Xz<|Xv<|Xb<|Xu W<|R.index C U U U U runUnderlying281 isAgg133 sizeOf133 O O hget<|Ae W<|Xm W W<|Rq W G34 B34 V Tk6 ?_;refine R.build C U U U zeroValue127 U A127 Kr (Fills.part U U B34 U Ph6 .nil)<|Cp Z (hcall)<|Ae W<|Xm W W<|Ri Z b_neq<|Zc U (fun hh=>?_) (fun hh=>?_)
  ·have hh:hit b i≠0:=by simpa using hh
   refine Xm W W<|Hq W func61 hret ?_
   show Value.int .i64 (hit b i)=_
   congr 1
   exact(check_hit hi' hh hr).symm
  ·have hh:hit b i=0:=by simpa using hh
   refine Xz<|Xi<|Xg W<|Rb Y<|Ro W<|Rz<|X.weaken ?_ (hnext (i+1) ⟨O,fun j hj=>?_⟩ O)
   ·exact⟨rfl,by simp [look],rfl,trivial⟩
   ·by_cases e:j=i
    ·rw [e];exact hh
    ·exact hr j O
 ·obtain rfl:i=6:=by omega
  refine Xe U<|Xu W<|Hq W func61 hret ?_
  rw [check_zero hr];rfl
end Go.Lg.S
namespace Go.Lg.S
open Go Go.Conc Go.Lg Go.Proofs Go.Lg.B Go.Proofs.Tryz
variable {ws:List Int}{i:Nat}{b:Bk}{items:List (List Value)}
abbrev wV(ws:List Int):Value:= .agg (ints ws).toArray
theorem ints_at(h:i<ws.length):(ints ws)[0+i*1]? =some (.int .i64 (ws.getD i 0)):=by
 simp [ints,List.getD_eq_getElem?_getD,h]
theorem put_ints(n:Int)(h:i<ws.length):Put (0+((i:Int)).toNat*1) [.int .i64 n] (ints ws) (ints (ws.set i n)):=by
 have h1:=put_set (ints ws) i (.int .i64 n) (by simpa [ints] using h)
 have e:(ints ws).set i (.int .i64 n)=ints (ws.set i n):=by simp [ints]
 rw [e] at h1
 simpa using h1
theorem right_pad{ws':List Int}(h:∀i,ws.getD i 0=ws'.getD i 0):right b ws=right b ws':=by
 unfold right
 congr 1;funext s;rw [h]
abbrev wOf(c:List Int):Value:=wV (pad 3 c)
def nextV(a1 a2 a3 a4:Nat):Value:= .func (.func 230) #[] [.pointer (some ⟨a1,0,none⟩), .pointer (some ⟨a2,0,none⟩), .pointer (some ⟨a3,0,none⟩), .pointer (some ⟨a4,0,none⟩)].toArray
theorem seg_one{k:Nat}{t:List Int}(h:Seg items k [t] wOf):∃hk:k<items.length,items[k]= [wOf t]:=by
 have h0:items[k]? =some [wOf t]:=by simpa using h 0 Zi
 have hk:=(List.getElem?_eq_some_iff.1 h0).1
 rw [List.getElem?_eq_getElem hk] at h0
 exact⟨hk,Option.some.inj h0⟩
def leafs(b:Bk)(pre:List Int)(i:Nat):List (List Int):=((spread (b.ps.drop i)).map fun s=>pre++s).filter (right b)
theorem leafs_succ{pre:List Int}{q:Rc}(h:b.ps.drop i=q::b.ps.drop (i+1)):leafs b pre i=(B.rz q.lo (q.hi+1-q.lo).toNat).flatMap fun n=>leafs b (pre++ [n]) (i+1):=by
 unfold leafs
 rw [h,spread_map_cons,List.filter_flatMap]
 show List.flatMap _ (B.rz _ _)=_
 congr 1
 funext n
 simp only [List.append_assoc,List.cons_append,List.nil_append]
variable {main:Bool}{J:Goroutine→Mem→Prop}(hJ:Closed prog main J)
include hJ
theorem right1_c{p3:Nat}{ws:List Int}(hw3:ws.length=3)(q:Sd)(hq:0≤q.p∧q.p<3)(ro:RO):
  CallV prog J (.func (.func 299) #[] [.pointer (some ⟨p3,0,none⟩)].toArray) [.agg (Sd.cells q).toArray] ro [(p3, .cells (ints ws).toArray 140 (0,0))] (fun v ro' pre'=>v= .bool ((decide (ws.getD q.p.toNat 0≤q.n)) !=q.bot)∧ro'=ro∧pre'= [(p3, .cells (ints ws).toArray 140 (0,0))]):=by
 unfold Sd.cells
 have hx:=ints_at (ws:=ws) (i:=q.p.toNat) O
 refine CallV.intro (first:= []) (vs:= [_]) (cap:= [_]) hJ Kr fun c cs tail hret=>enter_X (n:=15) func299 U U (Nl U) ?_
 have C:Ctx prog main J (bf 299 .normal):=⟨hJ,by decide⟩
 refine Xu W<|Bx Z fun p2=>Ae W<|Xv<|Xf fun hok=>Dh 0 0 Y A36 U B3<|Db 1 W G3 V U<|Dh 0 2 Y A140 U sizeOf138<|Dp 3 hok (fun _ _ _ A h=>R.indexAddrA C U (A.w U U) (A.x U U) (A.x U U) A138 B3 O O h)<|Db 4 W G3 V hx<|Dh 1 5 Y A36 U B3<|Db 6 W G3 V U<|Dj 7 Y5 b_leq<|Dh 2 8 Y A36 U B4<|Db 9 W G4 V U<|Dp 10 hok (fun _ _ _ A h=>R.neBool C U (A.w U U) (A.x U U) (A.x U U) A4 h)<|Da C 11 hok U U<|Dn<|Xw func299 ?_
 exact hret _ _ [_] _ (RO.le_refl _) ⟨rfl,rfl,rfl⟩ (by repeat (first|exact Sr|apply Sk|apply Sc))
theorem right_c{b:Bk}{v:Value}{ro:RO}(hv:BkV ro v b)(hb:b.good){ws:List Int}(hw3:ws.length=3):CallP prog J (fnv 231) [v,wV ws] ro (.bool (right b ws)):=by
 obtain⟨rb,rc,pb,pc,mb,mc,db,dc,sb,sc,rfl,hp,hmc⟩:=hv.all
 have hss:=hb.ss
 have hns:=hb.ns
 have hnp:=hb.np
 refine EP 11 hJ func231 W fun c cs tail hret C=>Xu W<|Bx Z fun p2=>Bx Z fun p3=>Ae W<|Xu W<|Rv 0 W A127 U B34<|Rv 5 W A34 U B32<|Rj W G32 V U<|R.makeFunc C U U U U<|R.call C U U U U (pre:= [_]) (tail:=_::tail) U (containsS_c hJ (f:=fun q=>(decide (ws.getD q.p.toNat 0≤q.n)) !=q.bot) hp.2.2.2.2.1 O fun q hq=>right1_c hJ hw3 q (by have:=hss q hq;omega) ro) fun w2 ro2 pre2 hl2 hp2=>?_
 obtain⟨rfl,rfl,rfl⟩:=hp2
 refine Rh Y<|Hq W func231 hret ?_
 have e:(!b.ss.any fun q=>(decide (ws.getD q.p.toNat 0≤q.n)) !=q.bot)=right b ws:=by
  unfold right
  rw [List.not_any_eq_all_not]
  congr 1;funext q
  cases decide (ws.getD q.p.toNat 0≤q.n)<;>cases q.bot<;>rfl
 simp only [retVal,e]
theorem next_c{vr vp vm vd vs yv:Value}{ro0:RO}(hv:BkP ro0 b vr vp vm vd vs)(hb:b.good){a1 a2 a3 a4:Nat}{t1 t3 t4:TypeId}{f1 f3 f4:Nat×Nat}(h1:ro0 a1=some (.cells [.int .i64 b.rest,vr,vp,vm,vd,vs].toArray t1 f1))(h3:ro0 a3=some (.cells [yv].toArray t3 f3))
  (h4:ro0 a4=some (.cells [nextV a1 a2 a3 a4].toArray t4 f4)) (I:Nat→RO→List (Nat×Obj)→Prop) (E:RO→List (Nat×Obj)→Prop)
  (hy:∀k (hk:k<items.length) ro1 p1,ro0.le ro1→I k ro1 p1→CallV prog J yv items[k] ro1 p1 fun v ro' p'=>(v= .bool true∧I (k+1) ro' p')∨(v= .bool false∧E ro' p')):
  ∀ (mm i:Nat) (ws:List Int) (ro1:RO) (p1:List (Nat×Obj)) (k:Nat),i+mm=b.ps.length→ro0.le ro1→I k ro1 p1→ws.length=3→(i=b.ps.length→ws.drop b.ps.length=List.replicate (3-b.ps.length) 0)→ws.drop b.ps.length=List.replicate (3-b.ps.length) 0→
   Seg items k (leafs b (ws.take i) i) wOf→
   CallV prog J (nextV a1 a2 a3 a4) [.int .i64 (i:Int)] ro1 ((a2, .cells (ints ws).toArray 140 (0,0))::p1) fun v ro' pre'=>∃ws' p',pre'=(a2, .cells (ints ws').toArray 140 (0,0))::p'∧ws'.length=3∧ws'.take i=ws.take i∧ws'.drop b.ps.length=ws.drop b.ps.length∧((v= .bool true∧I (k+(leafs b (ws.take i) i).length) ro' p')∨(v= .bool false∧E ro' p')):=by
 have hnp:=hb.np
 have hvp:=hv.2.1
 obtain⟨pb,pc,rfl⟩:=hv.2.1.form
 intro mm
 induction mm with
 |zero=>
  intro i ws ro1 p1 k hi hle hI hwl _ hwz hseg
  obtain rfl:i=b.ps.length:=by omega
  have hpp:pad 3 (ws.take b.ps.length)=ws:=pad_take hwl O hwz
  have hse:right b (ws.take b.ps.length)=right b ws:=right_pad fun j=>by rw [←getD_pad _ 3,hpp]
  have hlf:leafs b (ws.take b.ps.length) b.ps.length=if right b ws=true then [ws.take b.ps.length] else []:=by
   unfold leafs
   rw [List.drop_length]
   simp only [spread,List.map_cons,List.map_nil,List.append_nil,List.filter_cons,List.filter_nil,hse]
  have hcl:(ints ws).length=3:=by simpa [ints] using hwl
  have hsc:=right_c hJ (v:= .agg [.int .i64 b.rest,vr, .slice pb b.ps.length pc,vm,vd,vs].toArray) (ro:=ro1) ⟨_,_,_,_,_,rfl,hv.mono hle⟩ hb hwl
  rw [hlf] at hseg⊢
  by_cases hsn:right b ws=true
  ·rw [if_pos hsn] at hseg⊢
   obtain⟨hk,hki⟩:=seg_one hseg
   have hyk:=hy k hk ro1 p1 hle hI
   rw [hki] at hyk
   simp only [wOf,hpp] at hyk
   refine CallV.intro (first:= []) (vs:= [_]) (cap:= [_,_,_,_]) hJ Kr fun c cs tail hret=>enter_X (n:=50) F230 U U (Nl U) ?_
   have C:Ctx prog main J (bf 230 .normal):=⟨hJ,by decide⟩
   refine Xo W W<|Xx W<|Ro W<|R.fieldAddr C U U U A127 U B34 U<|R.fieldAddr C U U U A34 U B29 U<|Lo Y G29 (hle _ _ h1) U<|Rt W A29<|Ri Z b_eql<|Zc U (fun he=>?_) (fun he=>?_)
   ·refine Xu W<|La Y isAgg127 B127 (hle _ _ h1) Tk6<|Rq W G140 B140 V (sub_all hcl)<|Cp Z (hsc)<|Rh Y<|FF 17 U (by(rw [hsn];rfl))<|Ro W<|Lo Y isAgg364 (hle _ _ h3) U<|Rq W G140 B140 V (sub_all hcl)<|R.perm C.1 List.perm_middle.symm<|R.call C U U U U (pre:=p1) (tail:=_::tail) U hyk fun v ro' pre' hle' hp=>R.perm C.1 List.perm_middle<|Pf Z<|Ae W<|Xw F230<|hret _ _ (_::pre') _ hle' ⟨ws,pre',rfl,hwl,rfl,rfl, ?_⟩ (by exact List.Sublist.refl _)
    rcases hp with⟨rfl,h⟩|⟨rfl,h⟩
    ·exact .inl ⟨rfl,h⟩
    ·exact .inr ⟨rfl,h⟩
   ·simp at he
  ·rw [if_neg hsn] at hseg⊢
   have hsn:right b ws=false:=by simpa using hsn
   refine CallV.intro (first:= []) (vs:= [_]) (cap:= [_,_,_,_]) hJ Kr fun c cs tail hret=>enter_X (n:=50) F230 U U (Nl U) ?_
   have C:Ctx prog main J (bf 230 .normal):=⟨hJ,by decide⟩
   refine Xo W W<|Xx W<|Ro W<|R.fieldAddr C U U U A127 U B34 U<|R.fieldAddr C U U U A34 U B29 U<|Lo Y G29 (hle _ _ h1) U<|Rt W A29<|Ri Z b_eql<|Zc U (fun he=>?_) (fun he=>?_)
   ·refine Xu W<|La Y isAgg127 B127 (hle _ _ h1) Tk6<|Rq W G140 B140 V (sub_all hcl)<|Cp Z (hsc)<|Rh Y<|FT 17 U (by(rw [hsn];rfl))<|Ro W<|Rp W<|Rp W<|Rp W<|Pp Z<|Ae W<|Xw F230 ?_
    exact hret _ _ (_::p1) _ (RO.le_refl _) ⟨ws,p1,rfl,hwl,rfl,rfl, .inl ⟨rfl,hI⟩⟩ (by exact List.Sublist.refl _)
   ·simp at he
 |succ mm ih=>
  intro i ws ro1 p1 k hi hle hI hwl _ hwz hseg
  have hi':i<b.ps.length:=O
  obtain⟨p,off,cap,l,t,fq,e,hrop,hsub⟩:=hvp.at (fun _=>rfl) O
  cases e
  have hld:=hsub i hi'
  have hf:=hb.ps _ (List.getElem_mem hi')
  have hdr:b.ps.drop i=b.ps[i]::b.ps.drop (i+1):=List.drop_eq_getElem_cons hi'
  generalize b.ps[i]=q at hf hld hdr
  have hlo:l[off+i*2+0]? =some (.int .i64 q.lo):=hld.get 0 Dd
  have hhi:l[off+i*2+1]? =some (.int .i64 q.hi):=hld.get 1 Dd
  rw [leafs_succ hdr] at hseg⊢
  refine CallV.intro (first:= []) (vs:= [_]) (cap:= [_,_,_,_]) hJ Kr fun c cs tail hret=>enter_X (n:=50) F230 U U (Nl U) ?_
  have C:Ctx prog main J (bf 230 .normal):=⟨hJ,by decide⟩
  refine Xo W W<|Xx W<|Ro W<|R.fieldAddr C U U U A127 U B34 U<|R.fieldAddr C U U U A34 U B29 U<|Lo Y G29 (hle _ _ h1) U<|Rt W A29<|Ri Z b_eql<|Zc U (fun he=>?_) (fun he=>?_)
  ·simp at he;omega
  ·refine Xz<|Xx W<|R.fieldAddr C U U U A127 U B34 U<|R.fieldAddr C U U U A34 U B29 U<|Lo Y G29 (hle _ _ h1) U<|Ro W<|Ry Y A29 B45<|R.fieldAddr C U U U A45 U B3 U<|Lo Y G3 (hle _ _ hrop) hlo<|Ae W<|Xb ?_
   refine X.loopI (ι:=Int×Nat×List Int×List (Nat×Obj)×RO×Nat) C.1 (fun s=>s.1+s.2.1=q.hi+1∧1≤s.1∧s.2.2.1.length=3∧s.2.2.1.take i=ws.take i∧s.2.2.1.drop b.ps.length=ws.drop b.ps.length∧ro1.le s.2.2.2.2.1∧I s.2.2.2.2.2 s.2.2.2.2.1 s.2.2.2.1∧
     Seg items s.2.2.2.2.2 ((B.rz s.1 s.2.1).flatMap fun n=>leafs b (ws.take i++ [n]) (i+1)) wOf∧
     s.2.2.2.2.2+((B.rz s.1 s.2.1).flatMap fun n=>leafs b (ws.take i++ [n]) (i+1)).length=k+((B.rz q.lo (q.hi+1-q.lo).toNat).flatMap fun n=>leafs b (ws.take i++ [n]) (i+1)).length)
    (fun s=> [(7, .int .i64 s.1),(0, .int .i64 (i:Int)),(1, .pointer (some ⟨a1,0,none⟩)),(2, .pointer (some ⟨a2,0,none⟩)),(3, .pointer (some ⟨a3,0,none⟩)),(4, .pointer (some ⟨a4,0,none⟩))])
    (fun s=>⟨s.2.2.2.2.1,(a2, .cells (ints s.2.2.1).toArray 140 (0,0))::(s.2.2.2.1++tail)⟩) (fun s=>s.2.1) (q.lo,(q.hi+1-q.lo).toNat,ws,p1,ro1,k)
    ⟨by simp only;omega,hf.1,hwl,rfl,rfl,RO.le_refl _,hI,hseg,rfl⟩ rfl ⟨U,U,U,U,U,U,trivial⟩ fun s hst hnext=>?_
   obtain⟨n,m2,w2,q2,roc,kc⟩:=s
   obtain⟨g1,g0,gl,gt,gd,gle,gI,gseg,glen⟩:=hst
   simp only at g1 g0 gl gt gd gle gI gseg glen hnext⊢
   refine Xx W<|Ro W<|R.fieldAddr C U U U A127 U B34 U<|R.fieldAddr C U U U A34 U B29 U<|Lo Y G29 (gle _ _ (hle _ _ h1)) U<|Ro W<|Ry Y A29 B45<|R.fieldAddr C U U U A45 U B3 U<|Lo Y G3 (gle _ _ (hle _ _ hrop)) hhi<|Ri Z b_leq<|Zj U (fun hlt=>?_) (fun hlt=>?_)
   ·obtain⟨m',rfl⟩:∃m',m2=m'+1:=⟨m2-1,O⟩
    simp only [B.rz,List.flatMap_cons] at gseg glen
    obtain⟨hs1,hs2⟩:=gseg.split
    rw [List.length_append] at glen
    have htk:(w2.set i n).take (i+1)=ws.take i++ [n]:=by rw [take_set n O,gt]
    have hdz:(w2.set i n).drop b.ps.length=ws.drop b.ps.length:=by rw [List.drop_set_of_lt O,gd]
    have hln:(w2.set i n).length=3:=by simpa using gl
    have hrec:=ih (i+1) (w2.set i n) roc q2 kc O (RO.le_trans hle gle) gI hln (fun _=>by rw [hdz,hwz]) (by rw [hdz,hwz]) (by rw [htk];exact hs1)
    rw [htk] at hrec
    refine Xz<|Xv<|Xb<|Xm W W<|Ro W<|Rv 0 W A140 U sizeOf138<|R.indexAddrA C U U U U A138 B3 O O<|Rs Z B3 Y V (put_ints (i:=i) n O)<|Rz<|Xu W<|Lo Y G188 (gle _ _ (hle _ _ h4)) U<|Ro W<|Rb Y<|R.call C U U U U (pre:=_::q2) (tail:=tail) U hrec fun v ro' pre' hle' hp=>?_
    obtain⟨ws',q',rfl,hl3,ht3,hd3,hp⟩:=hp
    rcases hp with⟨rfl,hI2⟩|⟨rfl,hE⟩
    ·
     refine Rh Y<|FF 49 U U<|Zc U (fun h=>nomatch h) (fun _=>?_)
     refine Xz<|Xi<|Xg W<|Ro W<|Rb Y<|Ae W ?_
     have ht4:ws'.take i=ws.take i:=by
      have:=congrArg (List.take i) ht3
      rw [take_take_succ] at this
      rw [this,List.take_append_of_le_length Zo,List.take_take,Nat.min_self]
     refine X.weaken ?_ (hnext (n+1,m',ws',q',ro',kc+(leafs b (ws.take i++ [n]) (i+1)).length) ⟨?_, ?_,hl3,ht4,by simp only;rw [hd3,hdz],RO.le_trans gle hle',hI2,hs2, ?_⟩ (Nat.lt_succ_self _))
     ·exact⟨by simp [look],rfl,rfl,rfl,rfl,rfl,trivial⟩
     ·simp only;omega
     ·simp only;omega
     ·simp only;omega
    ·
     refine Rh Y<|FT 49 U U<|Zc U (fun _=>?_) (fun h=>nomatch h)
     refine Xo W W<|Xw F230<|hret _ _ (_::q') _ (RO.le_trans gle hle') ⟨ws',q',rfl,hl3, ?_,by rw [hd3,hdz], .inr ⟨rfl,hE⟩⟩ (by exact List.Sublist.refl _)
     have:=congrArg (List.take i) ht3
     rw [take_take_succ] at this
     rw [this,List.take_append_of_le_length Zo,List.take_take,Nat.min_self]
   ·obtain rfl:m2=0:=by omega
    simp only [B.rz,List.flatMap_nil,List.length_nil,Nat.add_zero] at glen
    refine Xe U<|Xo W W<|Xw F230 ?_
    exact hret _ _ (_::q2) _ gle ⟨w2,q2,rfl,gl,gt,gd, .inl ⟨rfl,by rw [←glen];exact gI⟩⟩ (by exact List.Sublist.refl _)
end Go.Lg.S
namespace Go.Lg.H
open Go Go.Conc Go.Lg Go.Proofs Go.Lg.B Go.Proofs.Tryz
variable {ro ro':RO}{v:Value}{L:List Pc}{b:Bk}
abbrev Zp:=Value×Pc
def zp(z:Zp):List Value:= [strV z.2.nm, .int .i64 z.2.arm, .int .i64 z.2.r.lo, .int .i64 z.2.r.hi,z.1]
def LsP(ro:RO)(v:Value)(L:List Pc):Prop:= ∃zs:List Zp,Ls zp 5 ro v zs∧zs.map (·.2)=L∧∀z∈zs,LsI ro z.1 z.2.on∧capOk z.1
theorem LsP.mono(h:LsP ro v L)(hl:ro.le ro'):LsP ro' v L:=let⟨zs,h1,h2,h3⟩:=h;⟨zs,h1.mono hl,h2,fun z hz=>⟨(h3 z hz).1.mono hl,(h3 z hz).2⟩⟩
theorem LsP.form(h:LsP ro v L):∃base cap,v= .slice base L.length cap:=by
 obtain⟨zs,h1,rfl,_⟩:=h
 rw [List.length_map];exact h1.form
def BkP(ro:RO)(b:Bk)(vp vo vh:Value):Prop:=LsP ro vp b.ps∧LsI ro vo b.out∧Ls Hl.cells 2 ro vh b.hs∧capOk vp∧capOk vo
theorem BkP.mono{vp vo vh:Value}(h:BkP ro b vp vo vh)(hl:ro.le ro'):BkP ro' b vp vo vh:=⟨h.1.mono hl,h.2.1.mono hl,h.2.2.1.mono hl,h.2.2.2⟩
def BkV(ro:RO)(v:Value)(b:Bk):Prop:= ∃vp vo vh,v= .agg [.int .i64 b.lim, .int .i64 b.bal.lo, .int .i64 b.bal.hi,vp,vo,vh].toArray∧BkP ro b vp vo vh
theorem BkV.mono(h:BkV ro v b)(hl:ro.le ro'):BkV ro' v b:=let⟨vp,vo,vh,e,h1⟩:=h;⟨vp,vo,vh,e,h1.mono hl⟩
structure Bk.short(b:Bk):Prop where
 ps:b.ps.length≤1000∧∀p∈b.ps,p.nm.length≤1000∧p.on.length≤1000
 out:b.out.length≤1000
 hs:b.hs.length≤1000
end Go.Lg.H
namespace Go.Lg.H
open Go Go.Conc Go.Lg Go.Proofs Go.Lg.B Go.Proofs.Tryz
theorem any_nm{L:List Pc}{s:List UInt8}:(L.any fun q=>q.nm==s)=decide (s∈L.map Pc.nm):=by
 rw [Bool.eq_iff_iff,List.any_eq_true,decide_eq_true_eq,List.mem_map]
 constructor
 ·rintro⟨q,hq,e⟩
  exact⟨q,hq,by simpa using e⟩
 ·rintro⟨q,hq,rfl⟩
  exact⟨q,hq,by simp⟩
end Go.Lg.H
namespace Go.Lg.H
open Go Go.Conc Go.Lg Go.Proofs Go.Lg.B Go.Proofs.Tryz
def Env(ro:RO):Prop:= ∃t fq,ro 2=some (.cells [fnv 365,fnv 366,fnv 367,fnv 368].toArray t fq)
theorem Env.mono{ro ro':RO}(h:Env ro)(hl:ro.le ro'):Env ro':=let⟨t,fq,e⟩:=h;⟨t,fq,hl _ _ e⟩
variable {main:Bool}{J:Goroutine→Mem→Prop}(hJ:Closed prog main J)
include hJ
omit hJ in
def hit(b:Bk):Nat→Int
 |0=>b.hullH
 |1=>b.piecesH
 |2=>b.outH
 |_=>b.heelsH
omit hJ in
theorem check_zero{b:Bk}(h:∀j,j<4→hit b j=0):checkBook b=0:=by
 unfold checkBook
 rw [if_neg (fun k=>k (h 0 O)),if_neg (fun k=>k (h 1 O)),if_neg (fun k=>k (h 2 O))]
 exact h 3 O
end Go.Lg.H
namespace Go.Lg.S
open Go Go.Conc Go.Lg Go.Proofs Go.Lg.B Go.Proofs.Tryz
variable {b:Bk}{c:List Int}{vd vm vp vr vs:Value}{ro:RO}
theorem cases_leafs(b:Bk):cases b=leafs b (([0,0,0]:List Int).take 0) 0:=by simp [cases,leafs]
theorem zeros_drop{n:Nat}(h:1≤n∧n≤3):([0,0,0]:List Int).drop n=List.replicate (3-n) 0:=by
 have:n=1∨n=2∨n=3:=O
 rcases this with rfl|rfl|rfl<;>rfl
theorem case_len(h:c∈cases b):c.length=b.ps.length:=(mem_spread.1 (mem_cases.1 h).1).1
def hw(c:List Int):List Value:=ints ((pad 3 c).take 3)
theorem hw_len(c:List Int):(hw c).length=3:=by simp [hw,ints,pad];omega
theorem hw_eq(hb:b.good)(h:c∈cases b):hw c=ints (pad 3 c):=by
 have h1:=case_len h
 have h2:=hb.np
 rw [hw,List.take_of_length_le (by rw [pad_len O];omega)]
theorem hw_lit(hb:b.good)(h:c∈cases b):∃w1 w2 w3:Int,pad 3 c= [w1,w2,w3]∧ints (pad 3 c)= [.int .i64 w1, .int .i64 w2, .int .i64 w3]:=by
 have h1:=case_len h
 have h2:=hb.np
 have h3:(pad 3 c).length=3:=pad_len O
 match e:pad 3 c,h3 with
 | [w1,w2,w3],_=>exact⟨w1,w2,w3,rfl,rfl⟩
abbrev LsW(ro:RO)(v:Value)(l:List (List Int)):Prop:=Ls hw 3 ro v l
theorem cases_le(hb:b.good):(cases b).length≤27:=by
 have h1:=spread_le fun r hr=>(hb.ps r hr).2.2.2
 have h2:3^b.ps.length≤3^3:=Nat.pow_le_pow_right O hb.np.2
 have h3:=List.length_filter_le (right b) (spread b.ps)
 unfold cases;omega
variable {main:Bool}{J:Goroutine→Mem→Prop}(hJ:Closed prog main J)
include hJ
theorem cases_it(hv:BkP ro b vr vp vm vd vs)(hb:b.good):Iter prog J (.func (.func 160) [.agg [.int .i64 b.rest,vr,vp,vm,vd,vs].toArray].toArray #[]) ((cases b).map fun c=> [wOf c]) ro:=by
 intro yv I E hyf hmono hy ro0 p0 hle hI0
 have hnp:=hb.np
 have hall:=Seg.all (cases b) wOf
 have hcl:=cases_leafs b
 refine CallV.intro (first:= [_]) (vs:= [yv]) (cap:= []) hJ Kr fun c cs tail hret=>enter_X (n:=9) func160 U U (Nl U) ?_
 have C:Ctx prog main J (bf 160 .normal):=⟨hJ,by decide⟩
 refine Xu W<|Bx Z fun p2=>R.box C U U U (fnV.cells hyf) fun p3=>Rz<|Xu W<|Al W K140 U fun p4=>Rz<|Xu W<|Al W zeroValue188 U fun p5=>Rz<|Xu W<|R.makeFunc C U U U U<|Rs Z sizeOf188 Y V (.here .nil)<|Rz<|X.persist C.1 fun r1 l1 h5=>X.perm C.1 (List.perm_middle (l₁:= [_,_])).symm<|X.persist C.1 fun r2 l2 h3=>X.persist C.1 fun r3 l3 h2=>?_
 have h5:=l3 _ _ (l2 _ _ h5)
 have h3:=l3 _ _ h3
 have k3:=RO.le_trans l1 (RO.le_trans l2 l3)
 have kr:=RO.le_trans hle k3
 have hnx:=next_c hJ (hv.mono kr) hb h2 h3 h5 I E (fun k hk ro1 p1 h=>hy k hk ro1 p1 (RO.le_trans kr h)) b.ps.length 0 [0,0,0] r3 p0 0 O (RO.le_refl _) (hmono _ _ _ _ k3 hI0) rfl (fun _=>zeros_drop hnp) (zeros_drop hnp) (by rw [←hcl];exact hall)
 rw [←hcl] at hnx
 refine Xg W<|Lo Y G188 h5 U<|R.call C U U U U (pre:=_::p0) (tail:=tail) U hnx fun v ro' pre' hle' hp=>?_
 obtain⟨ws',q',rfl,_,_,_,hp⟩:=hp
 refine Rz<|X.fall C U U func160 U (by exact .nil)<|hret _ _ q' _ (RO.le_trans k3 hle') ⟨rfl, ?_⟩ (List.sublist_cons_self _ _)
 rcases hp with⟨_,h⟩|⟨_,h⟩
 ·exact .inl (by rw [List.length_map, ←Nat.zero_add (cases b).length];exact h)
 ·exact .inr h
abbrev iterV(b:Bk)(vr vp vm vd vs:Value):Value:= .func (.func 160) [.agg [.int .i64 b.rest,vr,vp,vm,vd,vs].toArray].toArray #[]
theorem appendSeq_c(hv:BkP ro b vr vp vm vd vs)(hb:b.good):CallR prog J (fnv 229) [.slice none 0 0,iterV b vr vp vm vd vs] ro (fun w ro'=>LsW ro' w (cases b)):=by
 have hcl:=cases_le hb
 refine ER 13 hJ func229 W fun c cs tail hret C=>Xu W<|Bx Z fun p2=>Ae W<|Xx W<|Ro W<|Rz<|Xb<|X.rangeFunc C (items:=(cases b).map fun c=> [wOf c]) (ro0:=ro)
  (fun k ro' q=>∃v' own0,Buf 140 3 tail v' (((cases b).take k).flatMap hw) own0∧q=(p2, .cells [v'].toArray 128 (0,0))::own0)
  (fun x ro' q=>False)
  rfl rfl (cases_it hJ hv hb) (RO.le_refl _) rfl (fun x hx=>by obtain⟨a,_,rfl⟩:=List.mem_map.1 hx;rfl) ⟨.slice none 0 0,tail, .nil,rfl⟩ (fun _ _ _ _ _ h=>h) ?_ ?_ ?_
 ·rintro kk hk l cs H H1 ro1 q hle1 ⟨v0,own0,hbuf,rfl⟩ C hbegin hdone hjump
  have hk':kk<(cases b).length:=by simpa using hk
  rw [List.getElem_map]
  simp only [roundSlots]
  have hmem:=List.getElem_mem hk'
  have htk:(cases b).take (kk+1)=(cases b).take kk++ [(cases b)[kk]]:=List.take_succ_eq_append_getElem hk'
  generalize(cases b)[kk]=co at hmem htk
  have htc:=hw_eq hb hmem
  obtain⟨w1,w2,w3,m1,m3⟩:=hw_lit hb hmem
  rw [wOf,wV,m3]
  refine Xg W<|Al W K140 U fun p5=>Rs Z B140 Y V Ph3<|Rz<|hbegin _ _ (_::_::own0) ?_
  have hfl:(((cases b).take kk).flatMap hw).length=kk*3:=by rw [flatMap_len hw_len];simp;omega
  refine Xb<|Xg W<|Rj W isAgg128 V U<|Rq W G140 B140 V Tk3<|R.buildSlice C (vs:=_) U U (show pvals _ _=some (numbered 0 [_]) from rfl) U A128 B140 K140 Dd (Cat.one U U) fun p10=>R.append2 (kk:=3) C [_,_] U U U U A128 A128 (fun _=>nofun) (show prog.info? 140=some Tryz.t140 by kernel_rfl) U U U Dd Dd (hbuf.app H1) U U (by(try simp only [List.length_append,List.length_cons,List.length_nil]);omega) fun v' own' hb'=>?_
  obtain⟨own1,rfl,hb1⟩:=hb'.unapp
  refine R.store C U U U U B128 hb'.cells1 U hb'.ones1 V (.here .nil)<|Rz<|Xi<|X.drop C.1 (own':=_::(own1++H1)) (List.sublist_cons_self _ _)<|hdone _ _ (_::own1) (RO.le_refl _) ⟨v',own1, ?_,rfl⟩
  rw [htk,List.flatMap_append,List.flatMap_cons,List.flatMap_nil,List.append_nil,htc,m3]
  exact hb1
 ·rintro r ro' q' hl ⟨v',own0,hbuf,rfl⟩
  have hall:(cases b).take ((cases b).map fun c=> [wOf c]).length=cases b:=by simp
  rw [hall] at hbuf
  refine Xi<|Xu W<|Rj W isAgg128 V U<|Ae W<|X.finishA [_,_] C.1 hw_len Dd hbuf fun ro2 hl2 hls=>X.retM C U U func229 U (.cons V (.nil)) (by exact(.tmp U .nil))<|Hr hret (RO.le_trans hl hl2) ?_
  exact hls
 ·rintro r x ro' q' hl hf
  exact hf.elim
theorem collect_c(hv:BkP ro b vr vp vm vd vs)(hb:b.good):CallR prog J (fnv 159) [iterV b vr vp vm vd vs] ro (fun w ro'=>LsW ro' w (cases b)):=by
 refine ER 5 hJ func159 W fun c cs tail hret C=>Xo W W<|Xm W W<|R.callR C U U U U (appendSeq_c hJ hv hb) fun v1 ro1 hl1 hp1=>Ae W<|Xw func159<|Hr hret hl1 ?_
 exact hp1
omit hJ in
def noOpen:List Value:= [.int .i64 0, .slice none 0 0, .slice none 0 0, .slice none 0 0, .slice none 0 0, .slice none 0 0, .slice none 0 0]
def OpenP(b:Bk)(h:Int)(vr vp vm vd vs w:Value)(ro':RO):Prop:=
 (openH b h≠0∧w= .tuple [.agg noOpen.toArray, .int .i64 (openH b h)].toArray)∨
 (openH b h=0∧∃vl,LsW ro' vl (cases b)∧w= .tuple [.agg [.int .i64 b.rest,vr,vp,vm,vd,vs,vl].toArray, .int .i64 0].toArray)
theorem open_c{fv:Value}(he:Env ro)(hv:BkP ro b vr vp vm vd vs)(hs:b.short){h:Int}(hf:checkBook isLab b=0→CallP prog J fv [.agg [.int .i64 b.rest,vr,vp,vm,vd,vs].toArray] ro (.int .i64 h)):
  CallR prog J (fnv 63) [.agg [.int .i64 b.rest,vr,vp,vm,vd,vs].toArray,fv] ro (OpenP b h vr vp vm vd vs):=by
 have hvv:BkV ro (.agg [.int .i64 b.rest,vr,vp,vm,vd,vs].toArray) b:=⟨_,_,_,_,_,rfl,hv⟩
 obtain⟨_,_,rfl⟩:=hv.1.form
 obtain⟨_,_,rfl⟩:=hv.2.1.form
 obtain⟨_,_,rfl⟩:=hv.2.2.1.form
 obtain⟨_,_,rfl⟩:=hv.2.2.2.1.form
 obtain⟨_,_,rfl⟩:=hv.2.2.2.2.1.form
 refine ER 37 hJ func63 W fun c cs tail hret C=>Xu W<|Bx Z fun p2=>Al W K130 U fun p4=>Ae W<|Xx W<|Rq W G34 B34 V Tk6<|Cp Z (checkBook_c hJ he hvv hs)<|Ae W<|Xm W W<|Ri Z b_neq<|Zc U (fun hh=>?_) (fun hh=>?_)
 ·have hh:checkBook isLab b≠0:=by simpa using hh
  have e:openH b h=checkBook isLab b:=by rw [openH,if_pos hh]
  refine Xu W ?_;refine R.build C U U U K130 U A130 Kr .nil<|Ro W<|Rs Z B130 Y V Ph7<|Ae W<|X.ret C U U func63 U (by exact(.agg U G130 B130 V (.take Tk6) (.tmp U .nil)))<|Hr hret (RO.le_refl _) ?_
  exact .inl ⟨by rw [e];exact hh,by rw [e];rfl⟩
 ·have hh:checkBook isLab b=0:=by simpa using hh
  have hb:=good_of hh
  have hcl:=cases_le hb
  have hff:=hf hh
  refine Xz<|Xu W<|Rq W G34 B34 V Tk6 ?_;refine R.build C U U U zeroValue127 U A127 Kr (Fills.part U U B34 U Ph6 .nil) ?_;refine R.build C U U U K130 U A130 Kr (Fills.part U U B127 U Ph6 .nil)<|Al W K130 U fun p7=>Rs Z B130 Y V Ph7<|Rz<|Xx W<|Ro W<|Rv 0 W A130 U B127<|Rq W isAgg127 B127 V Tk6<|Cp Z (hff)<|Ae W<|Xm W W<|Ri Z b_neq<|Zc U (fun h1=>?_) (fun h1=>?_)
  ·have h1:h≠0:=by simpa using h1
   have e:openH b h=h:=by rw [openH,if_neg (fun e=>e hh),if_pos h1]
   refine Xu W ?_;refine R.build C U U U K130 U A130 Kr .nil<|Ro W<|Rs Z B130 Y V Ph7<|Ae W<|X.ret C U U func63 U (by exact(.agg U G130 B130 V (.take Tk6) (.tmp U .nil)))<|Hr hret (RO.le_refl _) ?_
   exact .inl ⟨by rw [e];exact h1,by rw [e];rfl⟩
  ·have h1:h=0:=by simpa using h1
   refine Xz<|Xx W<|Rv 0 W A130 U B127<|Rq W isAgg127 B127 V Tk6<|R.makeFunc C U U U U<|R.callR C U U U U (collect_c hJ hv hb) fun v2 ro2 hl2 hp2=>?_
   obtain⟨lb,lc,rfl⟩:=hp2.form
   refine Rv 6 W A130 U B128<|Rs Z B128 Y V (.skip (.skip (.skip (.skip (.skip (.skip (.here .nil)))))))<|Rz<|Xu W<|Rv 6 W A130 U B128<|Rj W isAgg128 V U<|Rt W A128<|Ri Z b_eql<|Zc U (fun h2=>?_) (fun h2=>?_)
   ·have h2:cases b= []:=by simpa using h2
    have e:openH b h=9:=by rw [openH,if_neg (fun e=>e hh),if_neg (fun e=>e h1),if_pos h2]
    refine Xu W ?_;refine R.build C U U U K130 U A130 Kr .nil<|Rs Z B130 Y V Ph7<|Ae W<|X.ret C U U func63 U (by exact(.agg U G130 B130 V (.take Tk6) (.tmp U .nil)))<|Hr hret hl2 ?_
    exact .inl ⟨by rw [e];decide,by rw [e];rfl⟩
   ·have h2:cases b≠ []:=by simpa using h2
    have e:openH b h=0:=by rw [openH,if_neg (fun e=>e hh),if_neg (fun e=>e h1),if_neg h2]
    refine Xz<|Xu W<|Rq W G130 B130 V (.take Tk6)<|Rs Z B130 Y V Ph7<|Ae W<|X.ret C U U func63 U (by exact(.agg U G130 B130 V (.take Tk6) (.tmp U .nil)))<|Hr hret hl2 ?_
    exact .inr ⟨e,_,hp2,rfl⟩
end Go.Lg.S
namespace Go.Lg.S
open Go Go.Conc Go.Lg Go.Proofs Go.Lg.B Go.Proofs.Tryz
variable {b:Bk}{k:Int}{v vd vl vm vp vr vs:Value}{ro:RO}
theorem placeH_zero(h:placeH b k=0):0≤k∧k<b.ps.length:=by
 unfold placeH at h
 split at h
 ·rename_i h1
  have:=between_iff.1 h1;omega
 ·cases h
variable {main:Bool}{J:Goroutine→Mem→Prop}(hJ:Closed prog main J)
include hJ
theorem stay_c(hv:BkV ro v b)(hn:b.rs.length≤1000)(n:Int):CallP prog J (fnv 69) [v, .int .i64 n] ro (.int .i64 (stayOf b n)):=by
 obtain⟨rb,rc,pb,pc,mb,mc,db,dc,sb,sc,rfl,hp,hmc⟩:=hv.all
 refine EP 22 hJ func69 W fun c cs tail hret C=>Xu W<|Bx Z fun p2=>Ae W<|Xx W<|Rv 0 W A127 U B34<|Rv 1 W A34 U B28<|Rj W G28 V U<|Rt W A28<|Ro W<|Rz<|Xb<|X.drop C.1 (own':=tail) Vs<|X.loopI (ι:=Nat) C.1 (fun i=>i≤b.rs.length∧stayOf b n=stayGo n (b.rs.drop i))
  (fun i=> [(9, .slice rb b.rs.length rc),(10, .int .i64 (b.rs.length:Int)),(11, .int .i64 (i:Int)),(1, .int .i64 n)])
  (fun _=>⟨ro,tail⟩) (fun i=>b.rs.length-i) 0 ⟨Nat.zero_le _,by simp [stayOf]⟩ rfl ⟨U,U,U,U,trivial⟩ fun i hi hnext=>?_
 obtain⟨hi,hr⟩:=hi
 refine Xu W<|Ri Z b_lss<|Rz<|Xv<|Xj U (fun hlt=>?_) (fun hlt=>?_)
 ·have hi':i<b.rs.length:=O
  obtain⟨p,off,cap,l,t,fq,hsl',hrop,hsub⟩:=hp.1.at Rw.len O
  cases hsl'
  rw [List.drop_eq_getElem_cons hi'] at hr
  have hsi:=hsub i hi'
  generalize b.rs[i]=r at hr hsi
  simp only [stayGo] at hr
  refine Xz<|Xv<|Xb<|Xu W<|Ry Y A28 B286<|La Y isAgg286 B286 hrop hsi<|Al W K286 U fun p6=>Rs Z B286 Y V Ph2<|Rz<|Xm W W<|Rv 0 W A286 U B3<|Rj W G3 V U<|Ri Z b_leq<|Zc U (fun h1=>?_) (fun h1=>?_)
  ·have h1:n≤r.d:=by simpa using h1
   refine Xu W<|Rv 1 W A286 U B3<|Rj W G3 V U<|Hq W func69 hret ?_
   rw [if_pos h1] at hr
   rw [hr];rfl
  ·have h1:¬n≤r.d:=by simpa using h1
   rw [if_neg h1] at hr
   refine Xz<|Xi<|Xg W<|Rb Y<|Ro W<|Rz<|X.drop C.1 (own':=tail) (List.sublist_cons_self _ _)<|X.weaken ?_ (hnext (i+1) ⟨hi',hr⟩ O)
   exact⟨rfl,rfl,by simp [look],rfl,trivial⟩
 ·obtain rfl:i=b.rs.length:=by omega
  simp only [List.drop_length,stayGo] at hr
  refine Xe U<|Xu W<|Hq W func69 hret ?_
  rw [hr];rfl
theorem numbers_c{fv:Value}(hb:b.good)(hl:LsW ro vl (cases b)){f:List Int→Int}(hf:∀t∈cases b,CallP prog J fv [wOf t] ro (.int .i64 (f t))):
  CallR prog J (fnv 67) [.agg [.int .i64 b.rest,vr,vp,vm,vd,vs,vl].toArray,fv] ro (fun w ro'=>LsI ro' w (numbers ((cases b).map f))):=by
 obtain⟨lb,lc,rfl⟩:=hl.form
 have hcl:=cases_le hb
 refine ER 26 hJ func67 W fun c cs tail hret C=>Xu W<|Bx Z fun p2=>Ae W<|Xo W W<|Xx W<|Rv 6 W A130 U B128<|Rj W isAgg128 V U<|Rt W A128<|Ro W<|Rz<|Xb<|X.drop C.1 (own':=tail) Vs<|X.loopI (ι:=Nat×Value×List (Nat×Obj)) C.1 (fun s=>s.1≤(cases b).length∧Buf 3 1 tail s.2.1 ((((cases b).map f).take s.1).flatMap ic) s.2.2)
  (fun s=> [(1,fv),(5,s.2.1),(9, .slice lb (cases b).length lc),(10, .int .i64 ((cases b).length:Int)),(11, .int .i64 (s.1:Int))])
  (fun s=>⟨ro,s.2.2⟩) (fun s=>(cases b).length-s.1) (0, .slice none 0 0,tail) ⟨Nat.zero_le _, .nil⟩ rfl ⟨U,U,U,U,U,trivial⟩ fun s hs' hnext=>?_
 obtain⟨i,v0,own0⟩:=s
 obtain⟨hi,hbuf⟩:=hs'
 simp only at hi hbuf hnext⊢
 refine Xu W<|Ri Z b_lss<|Rz<|Xv<|Xj U (fun hlt=>?_) (fun hlt=>?_)
 ·have hi':i<(cases b).length:=O
  obtain⟨pp,off,cap,l,t,fq,hsl,hrop,hsub⟩:=hl.at hw_len O
  cases hsl
  have hmem:=List.getElem_mem hi'
  have hsi:=hsub i hi'
  have hta:((cases b).map f).take (i+1)=((cases b).map f).take i++ [f (cases b)[i]]:=by rw [List.take_succ_eq_append_getElem (by simpa using hi'),List.getElem_map]
  have hfl:=flat_len (((cases b).map f).take i)
  rw [List.length_take,List.length_map] at hfl
  generalize(cases b)[i]=co at hmem hsi hta
  obtain⟨w1,w2,w3,m1,m3⟩:=hw_lit hb hmem
  have hfc:=hf co hmem
  rw [hw_eq hb hmem,m3] at hsi
  rw [wOf,wV,m3] at hfc
  refine Xz<|Xv<|Xb<|Xu W<|Ry Y A128 B140<|La Y G140 B140 hrop hsi<|Al W K140 U fun p7=>Rs Z B140 Y V Ph3<|Rz<|Xg W<|Oo W W<|Rq W G140 B140 V Tk3<|Cp Z (hfc)<|R.buildSlice C (vs:=_) U U (show pvals _ _=some (numbered 0 [_]) from rfl) U A58 B3 K3 Dd (Cat.one U U) fun p19=>R.append2 (kk:=1) C [_] U U U U A58 A58 (fun _=>nofun) (show prog.info? 3=some Tryz.t3 by kernel_rfl) U U U Dd Dd hbuf U U (by(try simp only [List.length_append,List.length_cons,List.length_nil]);omega) fun v' own' hb'=>Ae W<|Xi<|Xg W<|Rb Y<|Ro W<|Rz<|X.drop C.1 (own':=own') (List.sublist_cons_self _ _)<|X.weaken ?_ (hnext (i+1,v',own') ⟨hi', ?_⟩ (by simp only;omega))
  ·exact⟨rfl,rfl,rfl,rfl,by simp [look],trivial⟩
  ·rw [hta,List.flatMap_append];exact hb'
 ·obtain rfl:i=(cases b).length:=by omega
  have hall:((cases b).map f).take (cases b).length=(cases b).map f:=by rw [List.take_of_length_le];simp
  rw [hall] at hbuf
  have hol:((cases b).map f).length=(cases b).length:=by simp
  generalize(cases b).map f=L at hbuf hol hret
  have hbuf2:Buf 3 1 ([]++tail) v0 (L.flatMap ic) own0:=hbuf
  obtain⟨own1,rfl,hb1⟩:=hbuf2.unapp
  have hX:=BufX.of hb1
  refine Xe U<|Xm W W<|R.call C U U U U U (sortX_c hJ O hX) fun w1 ro1 own2 hl1 hp1=>?_
  obtain⟨rfl,rfl,hX2⟩:=hp1
  refine Rz<|Xm W W<|R.call C U U U U U (compactX_c hJ (by rw [List.length_mergeSort];omega) hX2) fun w2 ro2 own3 hl2 hp2=>?_
  obtain⟨rfl,hX3⟩:=hp2
  refine Ae W<|hX3.fin C.1 fun ro3 hl3 hls=>Xw func67<|Hr hret hl3 ?_
  exact hls
theorem ofPlace_c(k:Int)(ro:RO):CallR prog J (fnv 66) [.int .i64 k] ro (fun w ro'=>∃p,∃t fq,ro' p=some (.cells [.int .i64 k].toArray t fq)∧w= .func (.func 164) #[] [.pointer (some ⟨p,0,none⟩)].toArray):=by
 refine ER 4 hJ func66 W fun c cs tail hret C=>Xu W<|Bx Z fun p1=>Ae W<|Xv<|X.persist C.1 fun ro1 hl1 hps=>Xg W<|R.makeFunc C U U U U<|Ae W<|Xw func66<|Hr hret hl1 ?_
 exact⟨_,_,_,hps,rfl⟩
theorem ofPlace1_c(hv:BkV ro v b)(hn:b.ps.length≤1000){p:Nat}{t:TypeId}{fq:Nat×Nat}(hp:ro p=some (.cells [.int .i64 k].toArray t fq)):CallP prog J (.func (.func 164) #[] [.pointer (some ⟨p,0,none⟩)].toArray) [v] ro (.int .i64 (placeH b k)):=by
 obtain⟨rb,rc,pb,pc,mb,mc,db,dc,sb,sc,rfl,hbp,hmc⟩:=hv.all
 refine CallP.introC hJ Kr fun c cs tail hret=>enter_X (n:=10) func164 U U (Nl U) ?_
 have C:Ctx prog main J (bf 164 .normal):=⟨hJ,by decide⟩
 refine Xu W<|Bx Z fun p2=>Ae W<|Xu W<|Lo Y G3 hp U<|Rv 0 W A127 U B34<|Rv 2 W A34 U B29<|Rj W G29 V U<|Rt W A29<|Cp Z (there_c hJ k (b.ps.length:Int) O ro)<|Hq W func164 hret ?_
 rfl
theorem stays1_c(hb:b.good){w0:List Int}(hmem:w0∈cases b)(hbp:BkP ro b vr vp vm vd vs){p1 p2:Nat}{t1 t2:TypeId}{f1 f2:Nat×Nat}(h1:ro p1=some (.cells [.int .i64 b.rest,vr,vp,vm,vd,vs,vl].toArray t1 f1))(h2:ro p2=some (.cells [.int .i64 k].toArray t2 f2))(hkn:0≤k∧k<3):
  CallP prog J (.func (.func 68) #[] [.pointer (some ⟨p1,0,none⟩), .pointer (some ⟨p2,0,none⟩)].toArray) [wOf w0] ro (.int .i64 (stayOf b (w0.getD k.toNat 0))):=by
 have hl3:(pad 3 w0).length=3:=by
  have h1:=case_len hmem
  have h2:=hb.np
  exact pad_len O
 have hx:=ints_at (ws:=pad 3 w0) (i:=k.toNat) O
 rw [getD_pad] at hx
 have hnr:=hb.nr
 refine CallP.introC hJ Kr fun c cs tail hret=>enter_X (n:=12) func68 U U (Nl U) ?_
 have C:Ctx prog main J (bf 68 .normal):=⟨hJ,by decide⟩
 refine Xu W<|Bx Z fun p3=>Ae W<|Xv<|Xf fun hok=>Df C 0 hok U U U A130 U B127 U<|Dl 1 hok (fun _ _ A h=>R.loadAggRo C U (A.w U U) (A.x U U) isAgg127 B127 h1 Tk6 h)<|Dc 2 W G3 h2 U<|Dh 0 3 Y A140 U sizeOf138<|Dp 4 hok (fun _ _ _ A h=>R.indexAddrA C U (A.w U U) (A.x U U) (A.x U U) A138 B3 O O h)<|Db 5 W G3 V hx<|De 6 (some 11) [false,false,false] hok (fun _ _ A hk=>?_)
 refine R.callP C U (A.w U U) (A.x U U) (A.s U U) (stay_c hJ ⟨_,_,_,_,_,rfl,hbp⟩ O (w0.getD k.toNat 0)) (hk _ _ ⟨QFs.nil, ?_⟩)
 refine Da C 7 hok U U<|Dn<|Xw func68<|Hp hret ?_
 rfl
omit hJ in
def staysR(b:Bk)(k:Int):Rc×Int:=if openH b (placeH b k)≠0 then(⟨0,0⟩,openH b (placeH b k)) else(⟨lo (staysL b k),hi (staysL b k)⟩,0)
theorem stays_c(he:Env ro)(hv:BkV ro v b)(hs:b.short)(k:Int):CallR prog J (fnv 13) [v, .int .i64 k] ro (fun w _=>w= .tuple [(staysR b k).1.val, .int .i64 (staysR b k).2].toArray):=by
 have hv0:=hv
 obtain⟨rb,rc,pb,pc,mb,mc,db,dc,sb,sc,rfl,hp,hmc⟩:=hv.all
 refine ER 33 hJ func13 W fun c cs tail hret C=>Xu W<|Bx Z fun p2=>Bx Z fun p3=>Al W K45 U fun p4=>Ae W<|Xv<|X.perm C.1 (List.Perm.swap _ _ _)<|X.persist C.1 fun ro0 hl0 hpk=>X.afterI (ι:=Nat×RO×List Value×Int) (fun s=>ro0.le s.2.1∧((openH b (placeH b k)≠0∧s.2.2.1=noOpen∧s.2.2.2=openH b (placeH b k))∨(openH b (placeH b k)=0∧s.2.2.2=0∧∃vl,LsW s.2.1 vl (cases b)∧s.2.2.1= [.int .i64 b.rest, .slice rb b.rs.length rc, .slice pb b.ps.length pc, .slice mb b.ms.length mc, .slice db b.ds.length dc, .slice sb b.ss.length sc,vl]))) (fun s=> [(7, .int .i64 s.2.2.2),(6, .pointer (some ⟨s.1,0,none⟩)),(2, .pointer (some ⟨p2,0,none⟩)),(3, .pointer (some ⟨p3,0,none⟩)),(4, .pointer (some ⟨p4,0,none⟩))])
  (fun s=>⟨s.2.1,(s.1, .cells s.2.2.1.toArray 130 (0,0))::(p4, .cells [.int .i64 0, .int .i64 0].toArray 45 (0,0))::(p2, .cells [.int .i64 b.rest, .slice rb b.rs.length rc, .slice pb b.ps.length pc, .slice mb b.ms.length mc, .slice db b.ds.length dc, .slice sb b.ss.length sc].toArray 34 (0,0))::tail⟩) (fun s hsx=>?_) (fun hcont=>?_)
 rotate_left
 ·have _:=hl0
  refine Xf fun hok=>D5 C 0 hok U U G34 B34 V Tk6<|Dc 1 W G3 hpk U<|D.eP2 (i:=2) (i':=7) (dst:=(some 12)) (dst':=(some 6)) [false,true] [true,true] hok U U Kr Kr Kr (fun _ _ A hk=>?_) (fun _ _ A hk=>?_)
  ·
   refine R.callR C U (A.w U U) (A.x U U) (A.s U U) (ofPlace_c hJ k ro0) fun v1 ro1 hl1 hq1=>hk _ _ ⟨(QFs.cons (QF.of U (fun _ _ A h=>R.loadAgg C U (A.w U U) (A.x U U) G34 B34 V Tk6 h)) QFs.nil), ?_⟩
   refine D.eP2 (i:=3) (i':=7) (dst:=(some 13)) (dst':=(some 6)) [false] [true] hok U U Kr Kr Kr (fun _ _ A hk=>?_) (fun _ _ A hk=>?_)
   ·
    refine R.callR C U (A.w U U) (A.x U U) (A.s U U) ((open_c hJ (he.mono (RO.le_trans hl0 hl1)) (hp.mono (RO.le_trans hl0 hl1)) hs (h:=placeH b k) (fv:=v1) fun _=>by obtain⟨_,_,_,hp0,rfl⟩:=hq1;exact ofPlace1_c hJ ⟨_,_,_,_,_,rfl,hp.mono (RO.le_trans hl0 hl1)⟩ hs.ps hp0)) fun v2 ro2 hl2 hq2=>hk _ _ ⟨QFs.nil, ?_⟩
    rcases hq2 with⟨h0,rfl⟩|⟨h0,vl,hls,rfl⟩
    ·
     unfold noOpen
     refine Dt 4 Y<|Dp 5 hok (fun _ _ _ A h=>R.ext C U (A.w U U) (A.x U U) U h)<|Dp 6 hok (fun _ _ _ A h=>R.ext C U (A.w U U) (A.x U U) U h)<|De 7 (some 6) [] hok (fun _ _ A hk=>?_)
     refine R.alloc C U (A.w U U) K130 U fun p6=>hk _ _ ⟨QFs.nil, ?_⟩
     refine De 8 none [] hok (fun _ _ A hk=>?_)
     refine R.store C U (A.w U U) (A.x U U) (A.x U U) B130 U U U V Ph7 (hk undef _ ⟨QFs.nil, ?_⟩)
     refine Da C 9 hok U U<|Dn<|X.weaken ?_ (hcont (p6,ro2,_,_) ⟨RO.le_trans hl1 hl2, .inl ⟨h0,rfl,rfl⟩⟩)
     exact⟨U,U,U,U,U,trivial⟩
    ·
     obtain⟨lb,lc,rfl⟩:=hls.form
     refine Dt 4 Y<|Dp 5 hok (fun _ _ _ A h=>R.ext C U (A.w U U) (A.x U U) U h)<|Dp 6 hok (fun _ _ _ A h=>R.ext C U (A.w U U) (A.x U U) U h)<|De 7 (some 6) [] hok (fun _ _ A hk=>?_)
     refine R.alloc C U (A.w U U) K130 U fun p6=>hk _ _ ⟨QFs.nil, ?_⟩
     refine De 8 none [] hok (fun _ _ A hk=>?_)
     refine R.store C U (A.w U U) (A.x U U) (A.x U U) B130 U U U V Ph7 (hk undef _ ⟨QFs.nil, ?_⟩)
     refine Da C 9 hok U U<|Dn<|X.weaken ?_ (hcont (p6,ro2,_,_) ⟨RO.le_trans hl1 hl2, .inr ⟨h0,rfl,_,hls,rfl⟩⟩)
     exact⟨U,U,U,U,U,trivial⟩
   ·
    refine R.alloc C U (A.w U U) K130 U fun p6=>hk _ _ ⟨(QFs.cons (QF.of U (fun _ _ A h=>R.loadAgg C U (A.w U U) (A.x U U) G34 B34 V Tk6 h)) QFs.nil), ?_⟩
    refine De 3 (some 13) [false] hok (fun _ _ A hk=>?_)
    refine R.callR C U (A.w U U) (A.x U U) (A.s U U) ((open_c hJ (he.mono (RO.le_trans hl0 hl1)) (hp.mono (RO.le_trans hl0 hl1)) hs (h:=placeH b k) (fv:=v1) fun _=>by obtain⟨_,_,_,hp0,rfl⟩:=hq1;exact ofPlace1_c hJ ⟨_,_,_,_,_,rfl,hp.mono (RO.le_trans hl0 hl1)⟩ hs.ps hp0)) fun v2 ro2 hl2 hq2=>hk _ _ ⟨QFs.nil, ?_⟩
    rcases hq2 with⟨h0,rfl⟩|⟨h0,vl,hls,rfl⟩
    ·
     unfold noOpen
     refine Dt 4 Y<|Dp 5 hok (fun _ _ _ A h=>R.ext C U (A.w U U) (A.x U U) U h)<|Dp 6 hok (fun _ _ _ A h=>R.ext C U (A.w U U) (A.x U U) U h)<|De 8 none [] hok (fun _ _ A hk=>?_)
     refine R.store C U (A.w U U) (A.x U U) (A.x U U) B130 U U U V Ph7 (hk undef _ ⟨QFs.nil, ?_⟩)
     refine Da C 9 hok U U<|Dn<|X.weaken ?_ (hcont (p6,ro2,_,_) ⟨RO.le_trans hl1 hl2, .inl ⟨h0,rfl,rfl⟩⟩)
     exact⟨U,U,U,U,U,trivial⟩
    ·
     obtain⟨lb,lc,rfl⟩:=hls.form
     refine Dt 4 Y<|Dp 5 hok (fun _ _ _ A h=>R.ext C U (A.w U U) (A.x U U) U h)<|Dp 6 hok (fun _ _ _ A h=>R.ext C U (A.w U U) (A.x U U) U h)<|De 8 none [] hok (fun _ _ A hk=>?_)
     refine R.store C U (A.w U U) (A.x U U) (A.x U U) B130 U U U V Ph7 (hk undef _ ⟨QFs.nil, ?_⟩)
     refine Da C 9 hok U U<|Dn<|X.weaken ?_ (hcont (p6,ro2,_,_) ⟨RO.le_trans hl1 hl2, .inr ⟨h0,rfl,_,hls,rfl⟩⟩)
     exact⟨U,U,U,U,U,trivial⟩
  ·
   refine R.alloc C U (A.w U U) K130 U fun p6=>hk _ _ ⟨(QFs.cons (QF.of U (fun _ _ A h=>R.loadOneRo C U (A.w U U) (A.x U U) G3 hpk U h)) (QFs.cons (QF.of U (fun _ _ A h=>R.loadAgg C U (A.w U U) (A.x U U) G34 B34 V Tk6 h)) QFs.nil)), ?_⟩
   refine De 2 (some 12) [false,true] hok (fun _ _ A hk=>?_)
   refine R.callR C U (A.w U U) (A.x U U) (A.s U U) (ofPlace_c hJ k ro0) fun v1 ro1 hl1 hq1=>hk _ _ ⟨(QFs.cons (QF.of U (fun _ _ A h=>R.loadAgg C U (A.w U U) (A.x U U) G34 B34 V Tk6 h)) QFs.nil), ?_⟩
   refine De 3 (some 13) [false] hok (fun _ _ A hk=>?_)
   refine R.callR C U (A.w U U) (A.x U U) (A.s U U) ((open_c hJ (he.mono (RO.le_trans hl0 hl1)) (hp.mono (RO.le_trans hl0 hl1)) hs (h:=placeH b k) (fv:=v1) fun _=>by obtain⟨_,_,_,hp0,rfl⟩:=hq1;exact ofPlace1_c hJ ⟨_,_,_,_,_,rfl,hp.mono (RO.le_trans hl0 hl1)⟩ hs.ps hp0)) fun v2 ro2 hl2 hq2=>hk _ _ ⟨QFs.nil, ?_⟩
   rcases hq2 with⟨h0,rfl⟩|⟨h0,vl,hls,rfl⟩
   ·
    unfold noOpen
    refine Dt 4 Y<|Dp 5 hok (fun _ _ _ A h=>R.ext C U (A.w U U) (A.x U U) U h)<|Dp 6 hok (fun _ _ _ A h=>R.ext C U (A.w U U) (A.x U U) U h)<|De 8 none [] hok (fun _ _ A hk=>?_)
    refine R.store C U (A.w U U) (A.x U U) (A.x U U) B130 U U U V Ph7 (hk undef _ ⟨QFs.nil, ?_⟩)
    refine Da C 9 hok U U<|Dn<|X.weaken ?_ (hcont (p6,ro2,_,_) ⟨RO.le_trans hl1 hl2, .inl ⟨h0,rfl,rfl⟩⟩)
    exact⟨U,U,U,U,U,trivial⟩
   ·
    obtain⟨lb,lc,rfl⟩:=hls.form
    refine Dt 4 Y<|Dp 5 hok (fun _ _ _ A h=>R.ext C U (A.w U U) (A.x U U) U h)<|Dp 6 hok (fun _ _ _ A h=>R.ext C U (A.w U U) (A.x U U) U h)<|De 8 none [] hok (fun _ _ A hk=>?_)
    refine R.store C U (A.w U U) (A.x U U) (A.x U U) B130 U U U V Ph7 (hk undef _ ⟨QFs.nil, ?_⟩)
    refine Da C 9 hok U U<|Dn<|X.weaken ?_ (hcont (p6,ro2,_,_) ⟨RO.le_trans hl1 hl2, .inr ⟨h0,rfl,_,hls,rfl⟩⟩)
    exact⟨U,U,U,U,U,trivial⟩
 obtain⟨p6,ro2,L,hh⟩:=s
 obtain⟨hl2,hsx⟩:=hsx
 simp only at hl2 hsx⊢
 have k2:=RO.le_trans hl0 hl2
 rcases hsx with⟨h0,rfl,rfl⟩|⟨h0,rfl,vl,hls,rfl⟩
 ·
  unfold noOpen
  refine Xx W<|Ro W<|Ri Z b_neq<|Zc U (fun hq=>?_) (fun hq=>?_)
  ·refine Xu W ?_;refine R.build C U U U K45 U A45 Kr .nil<|Ro W<|Rs Z B45 Y V Ph2<|Ae W<|X.ret C U U func13 U (by exact(.agg U G45 B45 V Tk2 (.tmp U .nil)))<|Hr hret k2 ?_
   rw [staysR,if_pos h0];rfl
  ·simp at hq;contradiction
 ·
  obtain⟨hch,hp0,hne⟩:=openH_good h0
  have hb:=good_of hch
  have hkb:=placeH_zero hp0
  have hnp:=hb.np
  have hls0:=hls
  obtain⟨lb,lc,rfl⟩:=hls.form
  refine Xx W<|Ro W<|Ri Z b_neq<|Zc U (fun hq=>?_) (fun hq=>?_)
  ·simp at hq
  ·refine Xz<|Xu W<|Rq W G130 B130 V (.take Tk6)<|R.makeFunc C U U U U<|R.persist C.1 fun ro3 hl3 hpx=>R.callR C U U U U (numbers_c hJ hb (hls0.mono hl3) (f:=fun t=>stayOf b (t.getD k.toNat 0)) (fun t ht=>stays1_c hJ hb ht (hp.mono (RO.le_trans k2 hl3)) hpx ((hl3 _ _ (hl2 _ _ hpk))) O)) fun v4 ro4 hl4 hq4=>?_
   have k4:=RO.le_trans (RO.le_trans k2 hl3) hl4
   have hln:0<(numbers ((cases b).map fun t=>stayOf b (t.getD k.toNat 0))).length:=List.length_pos_iff.2 (staysL_ne (i:=k) hne)
   have hll:(numbers ((cases b).map fun t=>stayOf b (t.getD k.toNat 0))).length≤1000:=by
    have:=asc_len (lo:=0) (m:=61) (numbers_asc ((cases b).map fun t=>stayOf b (t.getD k.toNat 0))) fun x hx=>by
     obtain⟨w,_,rfl⟩:=List.mem_map.1 (numbers_mem.1 hx)
     have:=stayGo_in (n:=w.getD k.toNat 0) hb.rs
     unfold stayOf
     omega
    omega
   have hres:staysR b k=(⟨lo (numbers ((cases b).map fun t=>stayOf b (t.getD k.toNat 0))),hi (numbers ((cases b).map fun t=>stayOf b (t.getD k.toNat 0)))⟩,0):=by rw [staysR,if_neg (fun e=>e h0)];rfl
   generalize numbers ((cases b).map fun t=>stayOf b (t.getD k.toNat 0))=Lx at hq4 hln hll hres
   obtain⟨pp,off,cap,l,t,fq,rfl,hrop,hsub⟩:=hq4.at ic_len hln
   have hx0:l[off+(0:Int).toNat*1]? =some (.int .i64 (lo Lx)):=by
    have:=ic_at hsub hln
    unfold lo
    rw [List.getD_eq_getElem?_getD,List.getElem?_eq_getElem hln]
    exact this
   have hx1:l[off+(((Lx.length:Int)) -1).toNat*1]? =some (.int .i64 (hi Lx)):=by
    have:=ic_at hsub (show Lx.length-1<Lx.length by omega)
    unfold hi
    rw [List.getD_eq_getElem?_getD,List.getElem?_eq_getElem (show Lx.length-1<Lx.length by omega),show(((Lx.length:Int)) -1).toNat=Lx.length-1 by omega]
    exact this
   refine Ae W<|Xv<|Xf fun hok=>Dt 0 Y<|Dw 1 Y A58 B3<|Dc 2 W G3 hrop hx0<|Dt 3 Y<|Dt 4 Y<|Ds C 5 hok U U A58<|Dj 6 Y5 (b_sub O O)<|Dw 7 Y A58 B3<|Dc 8 W G3 hrop hx1 ?_;refine Dp 9 hok (fun _ _ _ A h=>R.build C U (A.w U U) (A.p U U) K45 U A45 Kr (Fills.part U U B3 U (.here .nil) (Fills.part U U B3 U (.skip (.here .nil)) .nil)) h)<|De 10 none [false,false] hok (fun _ _ A hk=>?_)
   refine R.store C U (A.w U U) (A.x U U) (A.x U U) B45 U U U V Ph2 (hk undef _ ⟨QFs.nil, ?_⟩)
   refine Da C 11 hok U U<|Dn<|X.ret C U U func13 U (by exact(.agg U G45 B45 V Tk2 (.tmp U .nil)))<|Hr hret k4 ?_
   rw [hres];rfl
end Go.Lg.S
namespace Go.Lg.S
open Go Go.Conc Go.Lg Go.Proofs Go.Lg.B Go.Proofs.Tryz
variable {v:Value}{xs:List Rw}{ro:RO}{b:Bk}
def noBk:Value:= .agg [.int .i64 0, .slice none 0 0, .slice none 0 0, .slice none 0 0, .slice none 0 0, .slice none 0 0].toArray
def NewV(ro':RO)(b:Bk)(h:Int)(w:Value):Prop:=(h≠0∧w= .tuple [noBk, .int .i64 h].toArray)∨(h=0∧∃v,BkV ro' v b∧w= .tuple [v, .int .i64 0].toArray)
theorem rc_len(r:Rc):(Rc.cells r).length=2:=rfl
variable {main:Bool}{J:Goroutine→Mem→Prop}(hJ:Closed prog main J)
include hJ
omit hJ in
theorem onesW(xs:List Rw):ones (xs.flatMap Rw.cells)=true:=ones_flat (fun _=>rfl) xs
theorem cloneW_c(hls:Ls Rw.cells 2 ro v xs)(hn:xs.length≤1000000):CallV prog J (fnv 161) [v] ro [] (fun v' ro' pre'=>ro'=ro∧Buf 286 2 [] v' (xs.flatMap Rw.cells) pre'):=by
 have hls0:=hls
 obtain⟨base,cap,rfl,hbase⟩:=hls
 refine CallV.intro (first:= []) (cap:= []) hJ Kr fun c cs tail hret=>?_
 have hfl:=flatMap_len (enc:=Rw.cells) (k:=2) (fun _=>rfl) xs
 refine enter_X (n:=8) func161 U U (Nl U) ?_
 have C:Ctx prog main J (bf 161 .normal):=⟨hJ,by decide⟩
 refine Xo W W<|Xx W<|Ro W<|R.eqNil C U U U U A28<|Zc U (fun hz=>?_) (fun hz=>?_)
 ·have hx:xs= []:=by
   rcases hbase with h|⟨_,_,_,_,_,h,_⟩
   ·exact h
   ·rw [h] at hz;cases hz
  subst hx
  refine Xo W W<|Xw func161 ?_
  exact hret _ _ [] _ (RO.le_refl _) ⟨rfl, .nil⟩ (.refl _)
 ·refine Xz<|Xu W<|R.buildSlice C (vs:=_) U U (show pvals _ _=some (numbered 0 []) from rfl) U A28 B286 K286 Dd (.nil) fun p5=>Ro W<|R.append (kk:=2) C U U U U A28 A28 (fun _=>nofun) (show prog.info? 286=some Tryz.t286 by kernel_rfl) U U U Dd Dd (Buf.blk (cells:= []) (spare:= []) (len:=0) (cap:=0) U U (Nat.le_refl _)) (hls0.rd Rw.len) (onesW xs) (by simp only [List.length_nil];omega) fun v' own' hb'=>Ae W<|Xw func161 ?_
  obtain⟨own0,rfl,hb0⟩:=Buf.unapp (tail:= []) (H:=tail) hb'
  exact hret _ _ own0 _ (RO.le_refl _) ⟨rfl,hb0⟩ (.refl _)
theorem cloneWR_c(hls:Ls Rw.cells 2 ro v xs)(hn:xs.length≤1000000):CallR prog J (fnv 161) [v] ro (fun v' ro'=>Ls Rw.cells 2 ro' v' xs∧capOk v'):=toR hJ (fun _=>rfl) Dd (cloneW_c hJ hls hn)
omit hJ in
theorem onesP(xs:List Rc):ones (xs.flatMap Rc.cells)=true:=ones_flat (fun _=>rfl) xs
theorem cloneP_c{xs:List Rc}(hls:Ls Rc.cells 2 ro v xs)(hn:xs.length≤1000000):CallV prog J (fnv 76) [v] ro [] (fun v' ro' pre'=>ro'=ro∧Buf 45 2 [] v' (xs.flatMap Rc.cells) pre'):=by
 have hls0:=hls
 obtain⟨base,cap,rfl,hbase⟩:=hls
 refine CallV.intro (first:= []) (cap:= []) hJ Kr fun c cs tail hret=>?_
 have hfl:=flatMap_len (enc:=Rc.cells) (k:=2) (fun _=>rfl) xs
 refine enter_X (n:=8) func76 U U (Nl U) ?_
 have C:Ctx prog main J (bf 76 .normal):=⟨hJ,by decide⟩
 refine Xo W W<|Xx W<|Ro W<|R.eqNil C U U U U A29<|Zc U (fun hz=>?_) (fun hz=>?_)
 ·have hx:xs= []:=by
   rcases hbase with h|⟨_,_,_,_,_,h,_⟩
   ·exact h
   ·rw [h] at hz;cases hz
  subst hx
  refine Xo W W<|Xw func76 ?_
  exact hret _ _ [] _ (RO.le_refl _) ⟨rfl, .nil⟩ (.refl _)
 ·refine Xz<|Xu W<|R.buildSlice C (vs:=_) U U (show pvals _ _=some (numbered 0 []) from rfl) U A29 B45 K45 Dd (.nil) fun p5=>Ro W<|R.append (kk:=2) C U U U U A29 A29 (fun _=>nofun) (show prog.info? 45=some Tryz.t45 by kernel_rfl) U U U Dd Dd (Buf.blk (cells:= []) (spare:= []) (len:=0) (cap:=0) U U (Nat.le_refl _)) (hls0.rd rc_len) (onesP xs) (by simp only [List.length_nil];omega) fun v' own' hb'=>Ae W<|Xw func76 ?_
  obtain⟨own0,rfl,hb0⟩:=Buf.unapp (tail:= []) (H:=tail) hb'
  exact hret _ _ own0 _ (RO.le_refl _) ⟨rfl,hb0⟩ (.refl _)
theorem clonePR_c{xs:List Rc}(hls:Ls Rc.cells 2 ro v xs)(hn:xs.length≤1000000):CallR prog J (fnv 76) [v] ro (fun v' ro'=>Ls Rc.cells 2 ro' v' xs∧capOk v'):=toR hJ (fun _=>rfl) Dd (cloneP_c hJ hls hn)
omit hJ in
theorem onesM(xs:List Mn):ones (xs.flatMap Mn.cells)=true:=ones_flat (fun _=>rfl) xs
theorem cloneM_c{xs:List Mn}(hls:Ls Mn.cells 2 ro v xs)(hn:xs.length≤1000000):CallV prog J (fnv 162) [v] ro [] (fun v' ro' pre'=>ro'=ro∧Buf 254 2 [] v' (xs.flatMap Mn.cells) pre'):=by
 have hls0:=hls
 obtain⟨base,cap,rfl,hbase⟩:=hls
 refine CallV.intro (first:= []) (cap:= []) hJ Kr fun c cs tail hret=>?_
 have hfl:=flatMap_len (enc:=Mn.cells) (k:=2) (fun _=>rfl) xs
 refine enter_X (n:=8) func162 U U (Nl U) ?_
 have C:Ctx prog main J (bf 162 .normal):=⟨hJ,by decide⟩
 refine Xo W W<|Xx W<|Ro W<|R.eqNil C U U U U A30<|Zc U (fun hz=>?_) (fun hz=>?_)
 ·have hx:xs= []:=by
   rcases hbase with h|⟨_,_,_,_,_,h,_⟩
   ·exact h
   ·rw [h] at hz;cases hz
  subst hx
  refine Xo W W<|Xw func162 ?_
  exact hret _ _ [] _ (RO.le_refl _) ⟨rfl, .nil⟩ (.refl _)
 ·refine Xz<|Xu W<|R.buildSlice C (vs:=_) U U (show pvals _ _=some (numbered 0 []) from rfl) U A30 B254 zeroValue254 Dd (.nil) fun p5=>Ro W<|R.append (kk:=2) C U U U U A30 A30 (fun _=>nofun) (show prog.info? 254=some Tryz.t254 by kernel_rfl) U U U Dd Dd (Buf.blk (cells:= []) (spare:= []) (len:=0) (cap:=0) U U (Nat.le_refl _)) (hls0.rd Mn.len) (onesM xs) (by simp only [List.length_nil];omega) fun v' own' hb'=>Ae W<|Xw func162 ?_
  obtain⟨own0,rfl,hb0⟩:=Buf.unapp (tail:= []) (H:=tail) hb'
  exact hret _ _ own0 _ (RO.le_refl _) ⟨rfl,hb0⟩ (.refl _)
theorem cloneMR_c{xs:List Mn}(hls:Ls Mn.cells 2 ro v xs)(hn:xs.length≤1000000):CallR prog J (fnv 162) [v] ro (fun v' ro'=>Ls Mn.cells 2 ro' v' xs∧capOk v'):=toR hJ (fun _=>rfl) Dd (cloneM_c hJ hls hn)
omit hJ in
theorem onesD(xs:List Dv):ones (xs.flatMap Dv.cells)=true:=ones_flat (fun _=>rfl) xs
theorem cloneD_c{xs:List Dv}(hls:Ls Dv.cells 4 ro v xs)(hn:xs.length≤1000000):CallV prog J (fnv 163) [v] ro [] (fun v' ro' pre'=>ro'=ro∧Buf 256 4 [] v' (xs.flatMap Dv.cells) pre'):=by
 have hls0:=hls
 obtain⟨base,cap,rfl,hbase⟩:=hls
 refine CallV.intro (first:= []) (cap:= []) hJ Kr fun c cs tail hret=>?_
 have hfl:=flatMap_len (enc:=Dv.cells) (k:=4) (fun _=>rfl) xs
 refine enter_X (n:=8) func163 U U (Nl U) ?_
 have C:Ctx prog main J (bf 163 .normal):=⟨hJ,by decide⟩
 refine Xo W W<|Xx W<|Ro W<|R.eqNil C U U U U A31<|Zc U (fun hz=>?_) (fun hz=>?_)
 ·have hx:xs= []:=by
   rcases hbase with h|⟨_,_,_,_,_,h,_⟩
   ·exact h
   ·rw [h] at hz;cases hz
  subst hx
  refine Xo W W<|Xw func163 ?_
  exact hret _ _ [] _ (RO.le_refl _) ⟨rfl, .nil⟩ (.refl _)
 ·refine Xz<|Xu W<|R.buildSlice C (vs:=_) U U (show pvals _ _=some (numbered 0 []) from rfl) U A31 B256 K256 Dd (.nil) fun p5=>Ro W<|R.append (kk:=4) C U U U U A31 A31 (fun _=>nofun) (show prog.info? 256=some Tryz.t256 by kernel_rfl) U U U Dd Dd (Buf.blk (cells:= []) (spare:= []) (len:=0) (cap:=0) U U (Nat.le_refl _)) (hls0.rd Dv.len) (onesD xs) (by simp only [List.length_nil];omega) fun v' own' hb'=>Ae W<|Xw func163 ?_
  obtain⟨own0,rfl,hb0⟩:=Buf.unapp (tail:= []) (H:=tail) hb'
  exact hret _ _ own0 _ (RO.le_refl _) ⟨rfl,hb0⟩ (.refl _)
theorem cloneDR_c{xs:List Dv}(hls:Ls Dv.cells 4 ro v xs)(hn:xs.length≤1000000):CallR prog J (fnv 163) [v] ro (fun v' ro'=>Ls Dv.cells 4 ro' v' xs∧capOk v'):=toR hJ (fun _=>rfl) Dd (cloneD_c hJ hls hn)
omit hJ in
theorem onesS(xs:List Sd):ones (xs.flatMap Sd.cells)=true:=ones_flat (fun _=>rfl) xs
theorem cloneS_c{xs:List Sd}(hls:Ls Sd.cells 3 ro v xs)(hn:xs.length≤1000000):CallV prog J (fnv 62) [v] ro [] (fun v' ro' pre'=>ro'=ro∧Buf 36 3 [] v' (xs.flatMap Sd.cells) pre'):=by
 have hls0:=hls
 obtain⟨base,cap,rfl,hbase⟩:=hls
 refine CallV.intro (first:= []) (cap:= []) hJ Kr fun c cs tail hret=>?_
 have hfl:=flatMap_len (enc:=Sd.cells) (k:=3) (fun _=>rfl) xs
 refine enter_X (n:=8) func62 U U (Nl U) ?_
 have C:Ctx prog main J (bf 62 .normal):=⟨hJ,by decide⟩
 refine Xo W W<|Xx W<|Ro W<|R.eqNil C U U U U A32<|Zc U (fun hz=>?_) (fun hz=>?_)
 ·have hx:xs= []:=by
   rcases hbase with h|⟨_,_,_,_,_,h,_⟩
   ·exact h
   ·rw [h] at hz;cases hz
  subst hx
  refine Xo W W<|Xw func62 ?_
  exact hret _ _ [] _ (RO.le_refl _) ⟨rfl, .nil⟩ (.refl _)
 ·refine Xz<|Xu W<|R.buildSlice C (vs:=_) U U (show pvals _ _=some (numbered 0 []) from rfl) U A32 B36 K36 Dd (.nil) fun p5=>Ro W<|R.append (kk:=3) C U U U U A32 A32 (fun _=>nofun) (show prog.info? 36=some Tryz.t36 by kernel_rfl) U U U Dd Dd (Buf.blk (cells:= []) (spare:= []) (len:=0) (cap:=0) U U (Nat.le_refl _)) (hls0.rd Sd.len) (onesS xs) (by simp only [List.length_nil];omega) fun v' own' hb'=>Ae W<|Xw func62 ?_
  obtain⟨own0,rfl,hb0⟩:=Buf.unapp (tail:= []) (H:=tail) hb'
  exact hret _ _ own0 _ (RO.le_refl _) ⟨rfl,hb0⟩ (.refl _)
theorem cloneSR_c{xs:List Sd}(hls:Ls Sd.cells 3 ro v xs)(hn:xs.length≤1000000):CallR prog J (fnv 62) [v] ro (fun v' ro'=>Ls Sd.cells 3 ro' v' xs∧capOk v'):=toR hJ (fun _=>rfl) Dd (cloneS_c hJ hls hn)
theorem copied_c(hv:BkV ro v b)(hs:b.short):CallR prog J (fnv 65) [v] ro (fun w ro'=>BkV ro' w b):=by
 obtain⟨rb,rc,pb,pc,mb,mc,db,dc,sb,sc,rfl,hp,hmc⟩:=hv.all
 have h1:=hs.rs
 have h2:=hs.ps
 have h3:=hs.ms.1
 have h4:=hs.ds
 have h5:=hs.ss
 refine ER 24 hJ func65 W fun c cs tail hret C=>Xu W<|Bx Z fun p1=>Al W K34 U fun p2=>Rz<|Xv<|Xf fun hok=>Dh 1 0 Y A34 U B28<|Db 1 W G28 V U<|Dh 2 3 Y A34 U B29<|Db 4 W G29 V U<|Dh 3 6 Y A34 U B30<|Db 7 W G30 V U<|De 2 (some 5) [true,true,false] hok (fun _ _ A hk=>?_)
 refine R.callR C U (A.w U U) (A.x U U) (A.s U U) (cloneWR_c hJ hp.1 O) fun v5 ro5 hl5 hq5=>hk _ _ ⟨(QFs.cons (QF.of U (fun _ _ A h=>R.loadOne C U (A.w U U) (A.x U U) G30 V U h)) (QFs.cons (QF.of U (fun _ _ A h=>R.loadOne C U (A.w U U) (A.x U U) G29 V U h)) QFs.nil)), ?_⟩
 refine Dh 1 9 Y A34 U B28<|De 5 (some 8) [true,false] hok (fun _ _ A hk=>?_)
 obtain⟨hls5,hco5⟩:=hq5
 obtain⟨b5,c5,rfl⟩:=hls5.form
 refine R.callR C U (A.w U U) (A.x U U) (A.s U U) (clonePR_c hJ (hp.2.1.mono hl5) O) fun v8 ro8 hl8 hq8=>hk _ _ ⟨(QFs.cons (QF.of U (fun _ _ A h=>R.loadOne C U (A.w U U) (A.x U U) G30 V U h)) QFs.nil), ?_⟩
 refine De 8 (some 11) [false] hok (fun _ _ A hk=>?_)
 obtain⟨hls8,hco8⟩:=hq8
 obtain⟨b8,c8,rfl⟩:=hls8.form
 have k8:=RO.le_trans hl5 hl8
 refine R.callR C U (A.w U U) (A.x U U) (A.s U U) (cloneMR_c hJ (hp.2.2.1.mono k8) O) fun v11 ro11 hl11 hq11=>hk _ _ ⟨QFs.nil, ?_⟩
 refine De 10 none [] hok (fun _ _ A hk=>?_)
 obtain⟨hls11,hco11⟩:=hq11
 obtain⟨b11,c11,rfl⟩:=hls11.form
 have k11:=RO.le_trans k8 hl11
 refine R.store C U (A.w U U) (A.x U U) (A.x U U) B28 U U U V (.skip (.here .nil)) (hk undef _ ⟨QFs.nil, ?_⟩)
 refine Dh 2 11 Y A34 U B29<|De 12 none [] hok (fun _ _ A hk=>?_)
 refine R.store C U (A.w U U) (A.x U U) (A.x U U) B29 U U U V (.skip (.skip (.here .nil))) (hk undef _ ⟨QFs.nil, ?_⟩)
 refine Dh 3 13 Y A34 U B30<|De 14 none [] hok (fun _ _ A hk=>?_)
 refine R.store C U (A.w U U) (A.x U U) (A.x U U) B30 U U U V (.skip (.skip (.skip (.here .nil)))) (hk undef _ ⟨QFs.nil, ?_⟩)
 refine Dn<|Xv<|Xf fun hok=>Dh 4 0 Y A34 U B31<|Db 1 W G31 V U<|Dh 5 3 Y A34 U B32<|Db 4 W G32 V U<|De 2 (some 17) [true,false] hok (fun _ _ A hk=>?_)
 refine R.callR C U (A.w U U) (A.x U U) (A.s U U) (cloneDR_c hJ (hp.2.2.2.1.mono k11) O) fun v17 ro17 hl17 hq17=>hk _ _ ⟨(QFs.cons (QF.of U (fun _ _ A h=>R.loadOne C U (A.w U U) (A.x U U) G32 V U h)) QFs.nil), ?_⟩
 refine Dh 4 6 Y A34 U B31<|De 5 (some 20) [false] hok (fun _ _ A hk=>?_)
 obtain⟨hls17,hco17⟩:=hq17
 obtain⟨b17,c17,rfl⟩:=hls17.form
 have k17:=RO.le_trans k11 hl17
 refine R.callR C U (A.w U U) (A.x U U) (A.s U U) (cloneSR_c hJ (hp.2.2.2.2.1.mono k17) O) fun v20 ro20 hl20 hq20=>hk _ _ ⟨QFs.nil, ?_⟩
 refine De 7 none [] hok (fun _ _ A hk=>?_)
 obtain⟨hls20,hco20⟩:=hq20
 obtain⟨b20,c20,rfl⟩:=hls20.form
 have k20:=RO.le_trans k17 hl20
 refine R.store C U (A.w U U) (A.x U U) (A.x U U) B31 U U U V (.skip (.skip (.skip (.skip (.here .nil))))) (hk undef _ ⟨QFs.nil, ?_⟩)
 refine Dh 5 8 Y A34 U B32<|De 9 none [] hok (fun _ _ A hk=>?_)
 refine R.store C U (A.w U U) (A.x U U) (A.x U U) B32 U U U V (.skip (.skip (.skip (.skip (.skip (.here .nil)))))) (hk undef _ ⟨QFs.nil, ?_⟩)
 refine Dn<|Xu W<|Rq W G34 B34 V Tk6<|Rs Z B34 Y V Ph6<|Rz<|X.ret C U U func65 U (by exact(.agg U G34 B34 V Tk6 .nil))<|Hr hret k20 ?_
 exact⟨_,_,_,_,_,rfl,hls5.mono (RO.le_trans hl8 (RO.le_trans hl11 (RO.le_trans hl17 hl20))),hls8.mono (RO.le_trans hl11 (RO.le_trans hl17 hl20)),hls11.mono (RO.le_trans hl17 hl20),hls17.mono hl20,hls20,hco11⟩
theorem nothing_c(v:Value)(l:List Value)(hl:v= .agg l.toArray)(ro:RO):CallP prog J (fnv 64) [v] ro (.int .i64 0):=by
 subst hl
 refine EP 3 hJ func64 W fun c cs tail hret C=>Xu W<|Bx Z fun p1=>Ae W<|Xu W<|Hq W func64 hret ?_
 rfl
theorem sound_c(he:Env ro)(hv:BkV ro v b)(hs:b.short)(x:Sd):CallR prog J (fnv 12) [v, .agg [.int .i64 x.p, .int .i64 x.n, .bool x.bot].toArray] ro (fun w ro'=>NewV ro' (b.more x) (soundedH b x) w):=by
 have hvv:=hv
 obtain⟨rb,rc,pb,pc,mb,mc,db,dc,sb,sc,rfl,hp,hmc⟩:=hv.all
 refine ER 33 hJ func12 W fun c cs tail hret C=>Xu W<|Bx Z fun p2=>Bx Z fun p3=>Al W K34 U fun p4=>Ae W<|Xx W<|Rq W G34 B34 V Tk6<|Cp Z (checkBook_c hJ he hvv hs)<|Ae W<|Xm W W<|Ri Z b_neq<|Zc U (fun hq=>?_) (fun hq=>?_)
 ·have hq:checkBook isLab b≠0:=by simpa using hq
  refine Xu W ?_;refine R.build C U U U K34 U A34 Kr .nil<|Ro W<|Rs Z B34 Y V Ph6<|Ae W<|X.ret C U U func12 U (by exact(.agg U G34 B34 V Tk6 (.tmp U .nil)))<|Hr hret (RO.le_refl _) ?_
  exact .inl ⟨by rw [soundedH,if_pos hq];exact hq,by rw [soundedH,if_pos hq];rfl⟩
 ·have hq:checkBook isLab b=0:=by simpa using hq
  have hb:=good_of hq
  have hns:=hb.ns
  have hfl:=flatMap_len Sd.len b.ss
  have hfin:soundedH b x=openH (b.more x) 0:=by rw [soundedH,if_neg (fun e=>e hq)]
  have hcat:b.ss.flatMap Sd.cells++ [.int .i64 x.p, .int .i64 x.n, .bool x.bot]=(b.ss++ [x]).flatMap Sd.cells:=by simp [Sd.cells]
  have hsh:(b.more x).short:=⟨hs.rs,hs.ps,hs.ms,hs.ds,by show(b.ss++ [x]).length≤1000;simp;omega⟩
  rw [hfin] at hret
  refine Xz<|Xv<|X.afterI (ι:=RO×Option Addr×Nat) (fun s=>ro.le s.1∧Ls Sd.cells 3 s.1 (.slice s.2.1 (b.more x).ss.length s.2.2) (b.ss++ [x])) (fun s=> [(2, .pointer (some ⟨p2,0,none⟩)),(4, .pointer (some ⟨p4,0,none⟩))])
   (fun s=>⟨s.1,(p4, .cells [.int .i64 0, .slice none 0 0, .slice none 0 0, .slice none 0 0, .slice none 0 0, .slice none 0 0].toArray 34 (0,0))::(p3, .cells [.int .i64 x.p, .int .i64 x.n, .bool x.bot].toArray 36 (0,0))::(p2, .cells [.int .i64 b.rest, .slice rb b.rs.length rc, .slice pb b.ps.length pc, .slice mb b.ms.length mc, .slice db b.ds.length dc, .slice s.2.1 (b.more x).ss.length s.2.2].toArray 34 (0,0))::tail⟩) (fun s hsx=>?_) (fun hcont=>?_)
  rotate_left
  ·have _:=hns
   refine Xf fun hok=>Dh 5 0 Y A34 U B32<|Dl 1 hok (fun _ _ A h=>R.loadOne C U (A.w U U) (A.x U U) G32 Vm U h)<|Dl 3 hok (fun _ _ A h=>R.loadAgg C U (A.w U U) (A.x U U) G36 B36 Vm Tk3 h)<|D.eP2 (i:=2) (i':=4) (dst:=(some 17)) (dst':=(some 19)) [true,false] [false,true] hok U U Kr Kr Kr (fun _ _ A hk=>?_) (fun _ _ A hk=>?_)
   ·
    refine R.call C U (A.w U U) (A.x U U) (A.s U U) (pre:= []) U (cloneS_c hJ hp.2.2.2.2.1 O) fun vW roW preW hleW hqW=>hk _ _ ⟨(QFs.cons (QF.of U (fun _ _ A h=>R.loadAgg C U (A.w U U) (A.x U U) G36 B36 Vm Tk3 h)) QFs.nil), ?_⟩
    refine De 4 (some 19) [false] hok (fun _ _ A hk=>?_)
    refine R.buildSlice C (vs:=_) U (A.w U U) (show pvals _ _=some (numbered 0 [_]) from(A.p U U)) U A32 B36 K36 Dd (Cat.one U U) fun p19=>hk _ _ ⟨QFs.nil, ?_⟩
    refine De 5 (some 20) [] hok (fun _ _ A hk=>?_)
    obtain⟨hroW,hbW⟩:=hqW
    subst hroW
    refine R.append1 (kk:=3) C U (A.w U U) (A.x U U) (A.x U U) A32 A32 (fun _=>nofun) (show prog.info? 36=some Tryz.t36 by kernel_rfl) U U U Dd Dd (hbW.app _) U U (by(try simp only [List.length_append,List.length_cons,List.length_nil]);omega) fun v' own' hb'=>hk _ _ ⟨QFs.nil, ?_⟩
    refine Dh 5 6 Y A34 U B32<|De 7 none [] hok (fun _ _ A hk=>?_)
    obtain⟨own1,rfl,hb1⟩:=hb'.unapp
    replace hb1:Buf 36 3 [] v' ((b.ss++ [x]).flatMap Sd.cells) own1:=by rw [←hcat];exact hb1
    obtain⟨bs1,cap1,hv1⟩:=hb1.form Dd
    have hl1:((b.ss++ [x]).flatMap Sd.cells).length/3=(b.more x).ss.length:=by rw [flatMap_len Sd.len,Nat.mul_div_cancel _ Dd];rfl
    rw [hl1] at hv1
    subst hv1
    refine R.store C U (A.w U U) (A.x U U) (A.x U U) B32 U U U (by repeat (first|exact Uh|apply Ut|apply Upd.app)) (.skip (.skip (.skip (.skip (.skip (.here .nil)))))) (hk undef _ ⟨QFs.nil, ?_⟩)
    refine Dn<|X.finish C.1 Sd.len Dd (hb1.app _) fun ro3 hl3 hls3=>X.weaken ?_ (hcont (ro3,bs1,cap1) ⟨hl3,hls3⟩)
    exact⟨U,U,trivial⟩
   ·
    refine R.buildSlice C (vs:=_) U (A.w U U) (show pvals _ _=some (numbered 0 [_]) from(A.p U U)) U A32 B36 K36 Dd (Cat.one U U) fun p19=>hk _ _ ⟨(QFs.cons (QF.of U (fun _ _ A h=>R.loadOne C U (A.w U U) (A.x U U) G32 Vm U h)) QFs.nil), ?_⟩
    refine De 2 (some 17) [false] hok (fun _ _ A hk=>?_)
    refine R.call C U (A.w U U) (A.x U U) (A.s U U) (pre:= []) U (cloneS_c hJ hp.2.2.2.2.1 O) fun vW roW preW hleW hqW=>hk _ _ ⟨QFs.nil, ?_⟩
    refine De 5 (some 20) [] hok (fun _ _ A hk=>?_)
    obtain⟨hroW,hbW⟩:=hqW
    subst hroW
    refine R.perm C.1 List.perm_middle<|R.append1 (kk:=3) C U (A.w U U) (A.x U U) (A.x U U) A32 A32 (fun _=>nofun) (show prog.info? 36=some Tryz.t36 by kernel_rfl) U U U Dd Dd (hbW.app _) U U (by(try simp only [List.length_append,List.length_cons,List.length_nil]);omega) fun v' own' hb'=>hk _ _ ⟨QFs.nil, ?_⟩
    refine Dh 5 6 Y A34 U B32<|De 7 none [] hok (fun _ _ A hk=>?_)
    obtain⟨own1,rfl,hb1⟩:=hb'.unapp
    replace hb1:Buf 36 3 [] v' ((b.ss++ [x]).flatMap Sd.cells) own1:=by rw [←hcat];exact hb1
    obtain⟨bs1,cap1,hv1⟩:=hb1.form Dd
    have hl1:((b.ss++ [x]).flatMap Sd.cells).length/3=(b.more x).ss.length:=by rw [flatMap_len Sd.len,Nat.mul_div_cancel _ Dd];rfl
    rw [hl1] at hv1
    subst hv1
    refine R.store C U (A.w U U) (A.x U U) (A.x U U) B32 U U U (by repeat (first|exact Uh|apply Ut|apply Upd.app)) (.skip (.skip (.skip (.skip (.skip (.here .nil)))))) (hk undef _ ⟨QFs.nil, ?_⟩)
    refine Dn<|X.finish C.1 Sd.len Dd (hb1.app _) fun ro3 hl3 hls3=>X.weaken ?_ (hcont (ro3,bs1,cap1) ⟨hl3,hls3⟩)
    exact⟨U,U,trivial⟩
  obtain⟨ro3,bs1,cap1⟩:=s
  obtain⟨hl3,hls3⟩:=hsx
  simp only at hl3 hls3⊢
  have hp3:=hp.mono hl3
  have hpm:BkP ro3 (b.more x) (.slice rb b.rs.length rc) (.slice pb b.ps.length pc) (.slice mb b.ms.length mc) (.slice db b.ds.length dc) (.slice bs1 (b.more x).ss.length cap1):=⟨hp3.1,hp3.2.1,hp3.2.2.1,hp3.2.2.2.1,hls3,hp3.2.2.2.2.2⟩
  refine Xx W<|Rq W G34 B34 V Tk6<|R.callR C U U U U ((open_c (b:=b.more x) hJ (he.mono hl3) hpm hsh (h:=0) fun _=>nothing_c hJ _ _ U ro3)) fun v4 ro4 hl4 hq4=>?_
  have k4:=RO.le_trans hl3 hl4
  rcases hq4 with⟨h0,rfl⟩|⟨h0,vl,hls,rfl⟩
  ·
   unfold noOpen
   refine Ro W<|Re Z<|Re Z<|Al W K130 U fun p7=>Rs Z B130 Y V Ph7<|Ae W<|Xm W W<|Ri Z b_neq<|Zc U (fun hz=>?_) (fun hz=>?_)
   ·refine Xu W ?_;refine R.build C U U U K34 U A34 Kr .nil<|Ro W<|Rs Z B34 Y V Ph6<|Ae W<|X.ret C U U func12 U (by exact(.agg U G34 B34 V Tk6 (.tmp U .nil)))<|Hr hret k4 ?_
    exact .inl ⟨h0,rfl⟩
   ·simp at hz;contradiction
  ·
   obtain⟨lb,lc,rfl⟩:=hls.form
   refine Ro W<|Re Z<|Re Z<|Al W K130 U fun p7=>Rs Z B130 Y V Ph7<|Ae W<|Xm W W<|Ri Z b_neq<|Zc U (fun hz=>?_) (fun hz=>?_)
   ·simp at hz
   ·refine Xz<|Xu W<|Rq W G34 B34 V Tk6<|R.callR C U U U U ((copied_c (b:=b.more x) hJ ⟨_,_,_,_,_,rfl,hpm.mono hl4⟩ hsh)) fun v5 ro5 hl5 hq5=>?_
    obtain⟨rb2,rc2,pb2,pc2,mb2,mc2,db2,dc2,sb2,sc2,rfl,hp2,hmc2⟩:=hq5.all
    refine Rs Z B34 Y V Ph6<|Ae W<|X.ret C U U func12 U (by exact(.agg U G34 B34 V Tk6 (.tmp U .nil)))<|Hr hret (RO.le_trans k4 hl5) ?_
    exact .inr ⟨h0,_,⟨_,_,_,_,_,rfl,hp2⟩,rfl⟩
end Go.Lg.S
namespace Go.Lg.S
open Go Go.Conc Go.Lg Go.Proofs Go.Lg.B Go.Proofs.Tryz
variable {b:Bk}{v:Value}{ro:RO}
def bigM(m:Mn):Bool:=decide (100<m.nm.length)
def great(b:Bk):Bool:=decide (20<b.rs.length)||decide (20<b.ps.length)||decide (20<b.ms.length)||decide (20<b.ds.length)||decide (20<b.ss.length)||b.ms.any bigM
theorem short_of(h:great b=false):b.short:=by
 simp only [great,Bool.or_eq_false_iff,decide_eq_false_iff_not,List.any_eq_false,bigM,decide_eq_true_eq] at h
 obtain⟨⟨⟨⟨⟨h1,h2⟩,h3⟩,h4⟩,h5⟩,h6⟩:=h
 exact⟨O,O,⟨O,fun p hp=>by have:=h6 p hp;omega⟩,O,O⟩
theorem isReach_two(x:Rc)(l m many:Int):isReach x l m many=(B.isReach x l m && decide (x.hi-x.lo<many)):=rfl
def Bk.rowsH(b:Bk):Int:=if b.restH≠0 then b.restH else b.tableH
def Bk.placeMenH(lab:List UInt8→Bool)(b:Bk):Int:=if b.placesH≠0 then b.placesH else b.menH lab
theorem check_two(lab:List UInt8→Bool)(b:Bk):checkBook lab b=if b.rowsH≠0 then b.rowsH else if b.placeMenH lab≠0 then b.placeMenH lab else if b.divesH≠0 then b.divesH else b.soundH:=by
 unfold checkBook Bk.rowsH Bk.placeMenH
 by_cases h1:b.restH=0
 ·by_cases h2:b.placesH=0
  ·simp [h1,h2]
  ·simp [h1,h2]
 ·simp [h1]
variable {main:Bool}{J:Goroutine→Mem→Prop}(hJ:Closed prog main J)
include hJ
theorem greatR_c(hv:BkV ro v b):CallP prog J (fnv 40) [v] ro (.bool (great b)):=by
 obtain⟨rb,rc,pb,pc,mb,mc,db,dc,sb,sc,rfl,hp,hmc⟩:=hv.all
 refine EP 47 hJ F40 W fun c cs tail hret C=>Xu W<|Bx Z fun p1=>Ae W<|Xx W<|Rv 1 W A34 U B28<|Rj W G28 V U<|Rt W A28<|Ri Z b_gtr<|Ro W<|R.fix (t:=8) U (fun a1=>?_) (fun a1=>?_)
 ·have a1:20<b.rs.length:=by simp at a1;omega
  refine Rp W<|Rp W<|Rp W<|Rp W<|Pp Z<|Ro W<|Rp W<|Rp W<|Rp W<|Rp W<|Pp Z<|Ro W<|Rp W<|Rp W<|Rp W<|Rp W<|Pp Z<|Ro W<|Rp W<|Rp W<|Rp W<|Rp W<|Pp Z<|Zc U (fun _=>?_) (fun h=>nomatch h)
  refine Xu W<|Hq W F40 hret ?_
  simp [great,a1,retVal]
 ·have a1:¬20<b.rs.length:=by simp at a1;omega
  refine Rv 2 W A34 U B29<|Rj W G29 V U<|Rt W A29<|Ri Z b_gtr<|Pf Z<|Ro W<|R.fix (t:=14) U (fun a2=>?_) (fun a2=>?_)
  ·have a2:20<b.ps.length:=by simp at a2;omega
   refine Rp W<|Rp W<|Rp W<|Rp W<|Pp Z<|Ro W<|Rp W<|Rp W<|Rp W<|Rp W<|Pp Z<|Ro W<|Rp W<|Rp W<|Rp W<|Rp W<|Pp Z<|Zc U (fun _=>?_) (fun h=>nomatch h)
   refine Xu W<|Hq W F40 hret ?_
   simp [great,a2,retVal]
  ·have a2:¬20<b.ps.length:=by simp at a2;omega
   refine Rv 3 W A34 U B30<|Rj W G30 V U<|Rt W A30<|Ri Z b_gtr<|Pf Z<|Ro W<|R.fix (t:=20) U (fun a3=>?_) (fun a3=>?_)
   ·have a3:20<b.ms.length:=by simp at a3;omega
    refine Rp W<|Rp W<|Rp W<|Rp W<|Pp Z<|Ro W<|Rp W<|Rp W<|Rp W<|Rp W<|Pp Z<|Zc U (fun _=>?_) (fun h=>nomatch h)
    refine Xu W<|Hq W F40 hret ?_
    simp [great,a3,retVal]
   ·have a3:¬20<b.ms.length:=by simp at a3;omega
    refine Rv 4 W A34 U B31<|Rj W G31 V U<|Rt W A31<|Ri Z b_gtr<|Pf Z<|Ro W<|R.fix (t:=26) U (fun a4=>?_) (fun a4=>?_)
    ·have a4:20<b.ds.length:=by simp at a4;omega
     refine Rp W<|Rp W<|Rp W<|Rp W<|Pp Z<|Zc U (fun _=>?_) (fun h=>nomatch h)
     refine Xu W<|Hq W F40 hret ?_
     simp [great,a4,retVal]
    ·have a4:¬20<b.ds.length:=by simp at a4;omega
     refine Rv 5 W A34 U B32<|Rj W G32 V U<|Rt W A32<|Ri Z b_gtr<|Pf Z<|Zc U (fun a5=>?_) (fun a5=>?_)
     ·have a5:20<b.ss.length:=by simp at a5;omega
      refine Xu W<|Hq W F40 hret ?_
      simp [great,a5,retVal]
     ·have a5:¬20<b.ss.length:=by simp at a5;omega
      have hg:great b=b.ms.any bigM:=by simp [great,a1,a2,a3,a4,a5]
      rw [hg] at hret
      refine Xz<|Xx W<|Ae W<|Xb<|X.loopI (ι:=Nat) C.1 (fun i=>i≤b.ms.length∧b.ms.any bigM=(b.ms.drop i).any bigM)
       (fun i=> [(3, .int .i64 (i:Int)),(1, .pointer (some ⟨p1,0,none⟩))])
       (fun _=>⟨ro,(p1, .cells [.int .i64 b.rest, .slice rb b.rs.length rc, .slice pb b.ps.length pc, .slice mb b.ms.length mc, .slice db b.ds.length dc, .slice sb b.ss.length sc].toArray 34 (0,0))::tail⟩) (fun i=>b.ms.length-i) 0 ⟨Nat.zero_le _,rfl⟩ rfl ⟨U,U,trivial⟩ fun i hi hnext=>?_
      obtain⟨hi,hr⟩:=hi
      refine Xx W<|Ro W<|Rv 3 W A34 U B30<|Rj W G30 V U<|Rt W A30<|Ri Z b_lss<|Zj U (fun hlt=>?_) (fun hlt=>?_)
      ·have hi':i<b.ms.length:=O
       obtain⟨p,off,cap,l,t,fq,hsl',hrop,hsub⟩:=hp.2.2.1.at Mn.len O
       cases hsl'
       have hld:=hsub i hi'
       rw [List.drop_eq_getElem_cons hi',List.any_cons] at hr
       generalize b.ms[i]=q at hr hld
       have hx0:l[off+i*2+0]? =some (strV q.nm):=hld.get 0 Dd
       refine Xz<|Xv<|Xb<|Xu W<|Rv 3 W A34 U B30<|Rj W G30 V U<|Ro W<|Ry Y A30 B254<|R.fieldAddr C U U U A254 U B9 U<|Lo Y G9 hrop hx0<|R.sLen C U U U A9<|Ri Z b_gtr<|Zc U (fun c1=>?_) (fun c1=>?_)
       ·have c1:100<q.nm.length:=by simp at c1;omega
        have hb:bigM q=true:=by simp [bigM,c1]
        rw [hb,Bool.true_or] at hr
        refine Xu W<|Hq W F40 hret ?_
        rw [hr];rfl
       ·have c1:¬100<q.nm.length:=by simp at c1;omega
        have hb:bigM q=false:=by simp [bigM,c1]
        rw [hb,Bool.false_or] at hr
        refine Xz<|Xi<|Xg W<|Ro W<|Rb Y<|Ae W<|X.weaken ?_ (hnext (i+1) ⟨hi',hr⟩ O)
        exact⟨by simp [look],rfl,trivial⟩
      ·obtain rfl:i=b.ms.length:=by omega
       rw [List.drop_length,List.any_nil] at hr
       refine Xe U<|Xu W<|Hq W F40 hret ?_
       rw [hr];rfl
theorem rowsR_c(hv:BkV ro v b)(hs:b.short):CallP prog J (fnv 128) [v] ro (.int .i64 b.rowsH):=by
 obtain⟨rb,rc,pb,pc,mb,mc,db,dc,sb,sc,rfl,hp,hmc⟩:=hv.all
 have hrs:=hs.rs
 refine EP 62 hJ F128 W fun c cs tail hret C=>Xu W<|Bx Z fun p1=>Ae W<|Xx W<|Rv 0 W A34 U B3<|Rj W G3 V U<|Cp Z (betweenR_c hJ _ _ _ _)<|Rh Y<|Zc U (fun h1=>?_) (fun h1=>?_)
 ·have h1:between b.rest 0 60=false:=by simpa using h1
  refine Xu W<|Hq W F128 hret ?_
  simp [Bk.rowsH,Bk.restH,h1,retVal]
 ·have h1:between b.rest 0 60=true:=by simpa using h1
  have hR:b.rowsH=b.tableH:=by simp [Bk.rowsH,Bk.restH,h1]
  rw [hR] at hret
  refine Xz<|Xx W<|Rv 1 W A34 U B28<|Rj W G28 V U<|Rt W A28<|Cp Z (betweenR_c hJ _ _ _ _)<|Rh Y<|Zc U (fun hn=>?_) (fun hn=>?_)
  ·have hn:between (b.rs.length:Int) 1 4=false:=by simpa using hn
   refine Xu W<|Hq W F128 hret ?_
   rw [Bk.tableH,if_pos (by simp [hn])];rfl
  ·have hn:between (b.rs.length:Int) 1 4=true:=by simpa using hn
   rw [Bk.tableH,if_neg (by simp [hn])] at hret
   refine Xz<|Xx W<|Ae W<|Xb<|X.loopI (ι:=Nat) C.1 (fun i=>i≤b.rs.length∧rowsGo b.rs 0 b.rs=rowsGo b.rs i (b.rs.drop i))
    (fun i=> [(3, .int .i64 (i:Int)),(1, .pointer (some ⟨p1,0,none⟩))])
    (fun _=>⟨ro,(p1, .cells [.int .i64 b.rest, .slice rb b.rs.length rc, .slice pb b.ps.length pc, .slice mb b.ms.length mc, .slice db b.ds.length dc, .slice sb b.ss.length sc].toArray 34 (0,0))::tail⟩) (fun i=>b.rs.length-i) 0 ⟨Nat.zero_le _,by simp⟩ rfl ⟨U,U,trivial⟩ fun i hi hnext=>?_
   obtain⟨hi,hr⟩:=hi
   refine Xx W<|Ro W<|Rv 1 W A34 U B28<|Rj W G28 V U<|Rt W A28<|Ri Z b_lss<|Zj U (fun hlt=>?_) (fun hlt=>?_)
   ·have hi':i<b.rs.length:=O
    obtain⟨p,off,cap,l,t,fq,hsl',hrop,hsub⟩:=hp.1.at Rw.len O
    cases hsl'
    rw [List.drop_eq_getElem_cons hi'] at hr
    have hsi:=hsub i hi'
    have hpv:0<i→l[off+((i:Int) -1).toNat*2+0]? =some (.int .i64 (b.rs.getD (i-1) default).d)∧l[off+((i:Int) -1).toNat*2+1]? =some (.int .i64 (b.rs.getD (i-1) default).s):=fun h0=>by
     have h1:=hsub (i-1) O
     have e1:((i:Int) -1).toNat=i-1:=O
     have e2:b.rs.getD (i-1) default=b.rs[i-1]:=by rw [List.getD_eq_getElem?_getD,List.getElem?_eq_getElem O];rfl
     rw [e1,e2]
     exact⟨h1.get 0 Dd,h1.get 1 Dd⟩
    generalize b.rs[i]=r at hr hsi
    simp only [rowsGo] at hr
    generalize b.rs.getD (i-1) default=pv at hpv hr
    refine Xz<|Xv<|Xb<|Xu W<|Rv 1 W A34 U B28<|Rj W G28 V U<|Ro W<|Ry Y A28 B286<|La Y isAgg286 B286 hrop hsi<|Al W K286 U fun p4=>Rs Z B286 Y V Ph2<|Rz<|Xx W<|Rv 0 W A286 U B3<|Rj W G3 V U<|Cp Z (betweenR_c hJ _ _ _ _)<|Rh Y<|Ro W<|R.fix (t:=30) U (fun e1=>?_) (fun e1=>?_)
    ·have e1:between r.d 1 30=false:=by simpa using e1
     rw [if_pos (by simp [e1])] at hr
     refine Rp W<|Rp W<|Rp W<|Rp W<|Pp Z<|Zc U (fun _=>?_) (fun h=>nomatch h)
     refine Xu W<|Hq W F128 hret ?_
     rw [hr];rfl
    ·have e1:between r.d 1 30=true:=by simpa using e1
     refine Rv 1 W A286 U B3<|Rj W G3 V U<|Cp Z (betweenR_c hJ _ _ _ _)<|Rh Y<|Pf Z<|Zc U (fun e2=>?_) (fun e2=>?_)
     ·have e2:between r.s 1 60=false:=by simpa using e2
      rw [if_pos (by simp [e2])] at hr
      refine Xu W<|Hq W F128 hret ?_
      rw [hr];rfl
     ·have e2:between r.s 1 60=true:=by simpa using e2
      rw [if_neg (by simp [e1,e2])] at hr
      by_cases h0:0<i
      ·obtain⟨hp1,hp2⟩:=hpv h0
       by_cases e4:r.d≤pv.d
       ·have _:=e4
        refine Xz<|Xv<|Xf fun hok=>Dt 0 Y<|Dj 1 Y5 b_gtr<|D.fixv (t:=37) (v':= .bool true) U (by(exact congrArg Value.bool (by simp [h0])))<|Dt 2 Y<|Dh 0 3 Y A286 U B3<|Db 4 W G3 V U<|Dh 1 5 Y A34 U B28<|Db 6 W G28 V U<|Dt 7 Y<|Dj 8 Y5 (b_sub O O)<|Dw 9 Y A28 B286<|Df C 10 hok U U U A286 U B3 U<|Dc 11 W G3 hrop hp1<|Dj 12 Y5 b_leq<|D.fixv (t:=48) (v':= .bool true) U (by(exact congrArg Value.bool (by simp [e4])))<|Dt 13 Y<|Dr 14 U<|Dr 15 U<|Dr 16 U<|Dr 17 U<|Dr 18 U<|Dr 19 U<|Dr 20 U<|Dr 21 U<|Dr 22 U<|Dr 23 U<|Dp 24 hok (fun _ _ _ A h=>R.pickT C U (A.w U U) (A.x U U) (A.x U U) h)<|Dp 25 hok (fun _ _ _ A h=>R.pickT C U (A.w U U) (A.x U U) (A.x U U) h)<|Dn<|Xc U (fun _=>?_) (fun h=>nomatch h)
        refine Xu W<|Hq W F128 hret ?_
        rw [if_pos ⟨h0, .inl e4⟩] at hr
        rw [hr];rfl
       ·have _:=e4
        refine Xz<|Xv<|Xf fun hok=>Dt 0 Y<|Dj 1 Y5 b_gtr<|D.fixv (t:=37) (v':= .bool true) U (by(exact congrArg Value.bool (by simp [h0])))<|Dt 2 Y<|Dh 0 3 Y A286 U B3<|Db 4 W G3 V U<|Dh 1 5 Y A34 U B28<|Db 6 W G28 V U<|Dt 7 Y<|Dj 8 Y5 (b_sub O O)<|Dw 9 Y A28 B286<|Df C 10 hok U U U A286 U B3 U<|Dc 11 W G3 hrop hp1<|Dj 12 Y5 b_leq<|D.fixv (t:=48) (v':= .bool false) U (by(exact congrArg Value.bool (by simp [e4])))<|Dt 13 Y<|Dh 1 14 Y A286 U B3<|Db 15 W G3 V U<|Dh 1 16 Y A34 U B28<|Db 17 W G28 V U<|Dt 18 Y<|Dj 19 Y5 (b_sub O O)<|Dw 20 Y A28 B286<|Df C 21 hok U U U A286 U B3 U<|Dc 22 W G3 hrop hp2<|Dj 23 Y5 b_gtr<|Dp 24 hok (fun _ _ _ A h=>R.pickF C U (A.w U U) (A.x U U) (A.x U U) h)<|Dp 25 hok (fun _ _ _ A h=>R.pickT C U (A.w U U) (A.x U U) (A.x U U) h)<|Dn<|Xc U (fun h5=>?_) (fun h5=>?_)
        ·have h5:pv.s<r.s:=by simpa using h5
         refine Xu W<|Hq W F128 hret ?_
         rw [if_pos ⟨h0, .inr h5⟩] at hr
         rw [hr];rfl
        ·have h5:¬pv.s<r.s:=by simpa using h5
         rw [if_neg (fun e=>e.2.elim e4 h5)] at hr
         refine Xz<|Xi<|Xg W<|Ro W<|Rb Y<|Ae W<|X.drop C.1 (own':=_::tail) (List.sublist_cons_self _ _)<|X.weaken ?_ (hnext (i+1) ⟨hi',hr⟩ O)
         exact⟨by simp [look],rfl,trivial⟩
      ·have _:=e2
       refine Xz<|Xv<|Xf fun hok=>Dt 0 Y<|Dj 1 Y5 b_gtr<|D.fixv (t:=37) (v':= .bool false) U (by(exact congrArg Value.bool (by simp [h0])))<|Dt 2 Y<|Dr 3 U<|Dr 4 U<|Dr 5 U<|Dr 6 U<|Dr 7 U<|Dr 8 U<|Dr 9 U<|Dr 10 U<|Dr 11 U<|Dr 12 U<|Dr 13 U<|Dr 14 U<|Dr 15 U<|Dr 16 U<|Dr 17 U<|Dr 18 U<|Dr 19 U<|Dr 20 U<|Dr 21 U<|Dr 22 U<|Dr 23 U<|Dr 24 U<|Dp 25 hok (fun _ _ _ A h=>R.pickF C U (A.w U U) (A.x U U) (A.x U U) h)<|Dn<|Xc U (fun h=>nomatch h) (fun _=>?_)
       refine Xz<|Xi<|Xg W<|Ro W<|Rb Y<|Ae W ?_
       rw [if_neg (fun e=>h0 e.1)] at hr
       refine X.drop C.1 (own':=_::tail) (List.sublist_cons_self _ _)<|X.weaken ?_ (hnext (i+1) ⟨hi',hr⟩ O)
       exact⟨by simp [look],rfl,trivial⟩
   ·obtain rfl:i=b.rs.length:=by omega
    simp only [List.drop_length,rowsGo] at hr
    refine Xe U<|Xu W<|Hq W F128 hret ?_
    rw [hr];rfl
theorem menR_c(hv:BkV ro v b)(hs:b.short):CallP prog J (fnv 129) [v] ro (.int .i64 (b.placeMenH isLabel)):=by
 obtain⟨rb,rc,pb,pc,mb,mc,db,dc,sb,sc,rfl,hp,hmc⟩:=hv.all
 have hsl:=hs.ms
 have hps:=hs.ps
 refine EP 81 hJ F129 W fun c cs tail hret C=>Xu W<|Bx Z fun p1=>Ae W<|Xx W<|Rv 2 W A34 U B29<|Rj W G29 V U<|Rt W A29<|Cp Z (betweenR_c hJ _ _ _ _)<|Rh Y<|Zc U (fun hn=>?_) (fun hn=>?_)
 ·refine Xu W<|Hq W F129 hret ?_
  have hn:between (b.ps.length:Int) 1 3=false:=by simpa using hn
  simp [Bk.placeMenH,Bk.placesH,hn,retVal]
 ·have hn:between (b.ps.length:Int) 1 3=true:=by simpa using hn
  refine Xz<|Xx W<|Ae W<|Xb<|X.loopI (ι:=Nat) C.1 (fun i=>i≤b.ps.length∧(b.ps.any fun x=> !isReach x 1 30 3)=(b.ps.drop i).any fun x=> !isReach x 1 30 3)
   (fun i=> [(3, .int .i64 (i:Int)),(1, .pointer (some ⟨p1,0,none⟩))])
   (fun _=>⟨ro,(p1, .cells [.int .i64 b.rest, .slice rb b.rs.length rc, .slice pb b.ps.length pc, .slice mb b.ms.length mc, .slice db b.ds.length dc, .slice sb b.ss.length sc].toArray 34 (0,0))::tail⟩) (fun i=>b.ps.length-i) 0 ⟨Nat.zero_le _,rfl⟩ rfl ⟨U,U,trivial⟩ fun i hi hnext=>?_
  obtain⟨hi,hr⟩:=hi
  refine Xx W<|Ro W<|Rv 2 W A34 U B29<|Rj W G29 V U<|Rt W A29<|Ri Z b_lss<|Zj U (fun hlt=>?_) (fun hlt=>?_)
  ·have hi':i<b.ps.length:=O
   obtain⟨p,off,cap,l,t,fq,hsl',hrop,hsub⟩:=hp.2.1.at (fun _=>rfl) O
   cases hsl'
   rw [List.drop_eq_getElem_cons hi',List.any_cons] at hr
   have hsi:=hsub i hi'
   generalize b.ps[i]=q at hr hsi
   rw [isReach_two] at hr
   refine Xz<|Xv<|Xb<|Xu W<|Rv 2 W A34 U B29<|Rj W G29 V U<|Ro W<|Ry Y A29 B45<|La Y G45 B45 hrop hsi<|Al W K45 U fun p4=>Rs Z B45 Y V Ph2<|Rz<|Xu W<|Rq W G45 B45 V Tk2<|Cp Z (insideR_c hJ q _ _ _)<|Rh Y<|Ro W<|R.fix (t:=27) U (fun e1=>?_) (fun e1=>?_)
   ·have e1:B.isReach q 1 30=false:=by simpa using e1
    rw [e1] at hr
    refine Rp W<|Rp W<|Rp W<|Rp W<|Rp W<|Rp W<|Pp Z<|Zc U (fun _=>?_) (fun h=>nomatch h)
    refine Xu W<|Hq W F129 hret ?_
    simp [Bk.placeMenH,Bk.placesH,hn,hr,retVal]
   ·have e1:B.isReach q 1 30=true:=by simpa using e1
    have hbd:1≤q.lo∧q.lo≤q.hi∧q.hi≤30:=by simpa [B.isReach,and_assoc] using e1
    refine Rv 1 W A45 U B3<|Rj W G3 V U<|Rv 0 W A45 U B3<|Rj W G3 V U<|Ri Z (b_sub O O)<|Ri Z b_geq<|Pf Z<|Zc U (fun e2=>?_) (fun e2=>?_)
    ·have e2:¬q.hi-q.lo<3:=by simpa using e2
     rw [decide_eq_false e2,Bool.and_false] at hr
     refine Xu W<|Hq W F129 hret ?_
     simp [Bk.placeMenH,Bk.placesH,hn,hr,retVal]
    ·have e2:q.hi-q.lo<3:=by simpa using e2
     rw [e1,decide_eq_true e2] at hr
     simp only [Bool.and_self,Bool.not_true,Bool.false_or] at hr
     refine Xz<|Xi<|Xg W<|Ro W<|Rb Y<|Ae W<|X.drop C.1 (own':=_::tail) (List.sublist_cons_self _ _)<|X.weaken ?_ (hnext (i+1) ⟨hi',hr⟩ O)
     exact⟨by simp [look],rfl,trivial⟩
  ·obtain rfl:i=b.ps.length:=by omega
   rw [List.drop_length,List.any_nil] at hr
   have hR:b.placeMenH isLabel=b.menH isLabel:=by
    have:b.placesH=0:=by rw [Bk.placesH,if_neg (by simp [hn]),if_neg (by rw [hr];decide)]
    rw [Bk.placeMenH,if_neg (fun e=>e this)]
   rw [hR] at hret
   refine Xe U<|Xx W<|Rv 3 W A34 U B30<|Rj W G30 V U<|Rt W A30<|Cp Z (betweenR_c hJ _ _ _ _)<|Rh Y<|Zc U (fun hn2=>?_) (fun hn2=>?_)
   ·refine Xu W<|Hq W F129 hret ?_
    have hn2:between (b.ms.length:Int) 1 4=false:=by simpa using hn2
    rw [Bk.menH,if_pos (by simp [hn2])];rfl
   ·have hn2:between (b.ms.length:Int) 1 4=true:=by simpa using hn2
    rw [Bk.menH,if_neg (by simp [hn2])] at hret
    refine Xz<|Xx W<|Ae W<|Xb<|X.loopI (ι:=Nat) C.1 (fun i=>i≤b.ms.length∧menGo isLabel [] b.ms=menGo isLabel ((b.ms.take i).map Mn.nm) (b.ms.drop i))
     (fun i=> [(5, .int .i64 (i:Int)),(1, .pointer (some ⟨p1,0,none⟩))])
     (fun _=>⟨ro,(p1, .cells [.int .i64 b.rest, .slice rb b.rs.length rc, .slice pb b.ps.length pc, .slice mb b.ms.length mc, .slice db b.ds.length dc, .slice sb b.ss.length sc].toArray 34 (0,0))::tail⟩) (fun i=>b.ms.length-i) 0 ⟨Nat.zero_le _,by simp⟩ rfl ⟨U,U,trivial⟩ fun i hi hnext=>?_
    obtain⟨hi,hr⟩:=hi
    refine Xx W<|Ro W<|Rv 3 W A34 U B30<|Rj W G30 V U<|Rt W A30<|Ri Z b_lss<|Zj U (fun hlt=>?_) (fun hlt=>?_)
    ·have hi':i<b.ms.length:=O
     obtain⟨p,off,cap,l,t,fq,hsl',hrop,hsub⟩:=hp.2.2.1.at Mn.len O
     cases hsl'
     have hnames:∀j (hj:j<b.ms.length),l[off+j*2+0]? =some (strV b.ms[j].nm):=fun j hj=>(hsub j hj).get 0 Dd
     have hld:=hsub i hi'
     have hnm:=hsl.2 _ (List.getElem_mem hi')
     have hmt:=map_take (f:=Mn.nm) hi'
     rw [List.drop_eq_getElem_cons hi'] at hr
     generalize b.ms[i]=q at hr hld hnm hmt
     simp only [menGo] at hr
     have hx0:l[off+i*2+0]? =some (strV q.nm):=hld.get 0 Dd
     have hx1:l[off+i*2+1]? =some (.int .i64 q.d):=hld.get 1 Dd
     refine Xz<|Xv<|Xb<|Xx W<|Rv 3 W A34 U B30<|Rj W G30 V U<|Ro W<|Ry Y A30 B254<|R.fieldAddr C U U U A254 U B9 U<|Lo Y G9 hrop hx0<|Cp Z (isLabelR_c hJ q.nm O ro)<|Rh Y<|Zc U (fun h1=>?_) (fun h1=>?_)
     ·have h1:isLabel q.nm=false:=by simpa using h1
      refine Xu W<|Hq W F129 hret ?_
      rw [h1] at hr
      rw [hr];rfl
     ·have h1:isLabel q.nm=true:=by simpa using h1
      rw [h1] at hr
      simp only [Bool.not_true,Bool.false_eq_true,if_false] at hr
      refine Xz<|Xx W<|Ae W<|Xb<|X.loopI (ι:=Nat) C.1 (fun j=>j≤i∧q.nm∉ (b.ms.take j).map Mn.nm)
       (fun j=> [(6, .int .i64 (j:Int)),(5, .int .i64 (i:Int)),(1, .pointer (some ⟨p1,0,none⟩))])
       (fun _=>⟨ro,(p1, .cells [.int .i64 b.rest, .slice rb b.rs.length rc, .slice pb b.ps.length pc, .slice (some ⟨p,off,none⟩) b.ms.length mc, .slice db b.ds.length dc, .slice sb b.ss.length sc].toArray 34 (0,0))::tail⟩) (fun j=>i-j) 0 ⟨Nat.zero_le _,by simp⟩ rfl ⟨U,U,U,trivial⟩ fun j hj hnext2=>?_
      obtain⟨hj,hno⟩:=hj
      refine Xx W<|Oo W W<|Ri Z b_lss<|Zj U (fun hlt2=>?_) (fun hlt2=>?_)
      ·have hj':j<b.ms.length:=O
       have hnj:=hnames j hj'
       have htj:=map_take (f:=Mn.nm) hj'
       have hmj:(b.ms[j]).nm∈(b.ms.take i).map Mn.nm:=List.mem_map.2 ⟨b.ms[j],by rw [List.mem_take_iff_getElem];exact⟨j,O,rfl⟩,rfl⟩
       generalize b.ms[j]=y at hnj htj hmj
       refine Xz<|Xv<|Xb<|Xv<|Xf fun hok=>Dh 3 0 Y A34 U B30<|Db 1 W G30 V U<|Dt 2 Y<|Dw 3 Y A30 B254<|Df C 4 hok U U U A254 U B9 U<|Dc 5 W G9 hrop hnj<|Dh 3 6 Y A34 U B30<|Db 7 W G30 V U<|Dt 8 Y<|Dw 9 Y A30 B254<|Df C 10 hok U U U A254 U B9 U<|Dc 11 W G9 hrop hx0<|Dp 12 hok (fun _ _ _ A h=>R.str C U (A.w U U) (A.x U U) (A.x U U) b_seql h)<|Dn<|Xc U (fun g1=>?_) (fun g1=>?_)
       ·have g1:y.nm=q.nm:=by simpa using g1
        rw [if_pos (by rw [←g1];exact hmj)] at hr
        refine Xu W<|Hq W F129 hret ?_
        rw [hr];rfl
       ·have g1:y.nm≠q.nm:=by simpa using g1
        refine Xz<|Xi<|Xg W<|Ro W<|Rb Y<|Ae W<|X.weaken ?_ (hnext2 (j+1) ⟨O, ?_⟩ O)
        ·exact⟨by simp [look],rfl,rfl,trivial⟩
        ·rw [htj,List.mem_append,List.mem_singleton]
         exact fun h=>h.elim hno (fun e=>g1 e.symm)
      ·obtain rfl:j=i:=by omega
       rw [if_neg hno] at hr
       refine Xe U<|Xu W<|Rv 3 W A34 U B30<|Rj W G30 V U<|Ro W<|Ry Y A30 B254<|R.fieldAddr C U U U A254 U B3 U<|Lo Y G3 hrop hx1<|Cp Z (betweenR_c hJ _ _ _ _)<|Rh Y<|Zc U (fun h3=>?_) (fun h3=>?_)
       ·have h3:between q.d 1 30=false:=by simpa using h3
        refine Xu W<|Hq W F129 hret ?_
        rw [h3] at hr
        rw [hr];rfl
       ·have h3:between q.d 1 30=true:=by simpa using h3
        rw [h3] at hr
        simp only [Bool.not_true,Bool.false_eq_true,if_false] at hr
        rw [←hmt] at hr
        refine Xz<|Xi<|Xg W<|Ro W<|Rb Y<|Ae W<|X.weaken ?_ (hnext (j+1) ⟨hi',hr⟩ O)
        exact⟨by simp [look],rfl,trivial⟩
    ·obtain rfl:i=b.ms.length:=by omega
     simp only [List.drop_length,menGo] at hr
     refine Xe U<|Xu W<|Hq W F129 hret ?_
     rw [hr];rfl
end Go.Lg.S
namespace Go.Lg.B
open Go Go.Conc Go.Lg Go.Proofs Go.Proofs.Tryz
section
abbrev U16:={n:Int//0≤n∧n≤65535}
def uc(n:U16):List Value:= [.int .u16 n.1]
end
section
variable {d:Bk}{k:Ks}{g:Int}
structure RealOk(d:Bk)(k:Ks):Prop where
 ch:checkBook d=0
 cs:((k.ks,k.ws):Tn)∈cases d
theorem RealOk.ne(h:RealOk d k):cases d≠ []:=fun e=>by have:=h.cs;rw [e] at this;cases this
theorem RealOk.weights(h:RealOk d k)(i:Int):(weightsOf d i).contains (nth k.ws i)=true:=by
 rw [List.contains_iff_mem];exact weightsOf_mem.2 ⟨_,h.cs,rfl⟩
theorem RealOk.sure(h:RealOk d k){p:Int}(hm:may d g p=1):lifts d k.ks g (nth k.ws p)=true:=by
 rw [may,how_one (List.length_pos_iff.2 h.ne),filter_all,List.all_eq_true] at hm
 exact hm _ h.cs
theorem RealOk.most(h:RealOk d k)(hg:0≤g∧g<d.gs.length):lifts d k.ks g (Go.Lg.B.most d g)=true:=by
 obtain⟨a1,a2,a3⟩:=most_law (good_of h.ch) hg.1 hg.2
 have:=(a3 _ a1 a2).2 (Int.le_refl _)
 unfold allLift at this
 rw [List.all_eq_true] at this
 exact this (k.ks,k.ws) h.cs
theorem RealOk.weak(h:RealOk d k){n x:Int}(hx:x∈gives d k.ks g n):(Go.Lg.B.weak d g n).contains x=true:=by
 have hm:x∈Go.Lg.B.weak d g n:=weak_mem.2 ⟨(k.ks,k.ws),h.cs,hx⟩
 exact List.contains_iff_mem.2 hm
end
section
def grow(all:List (List Int))(r:Rc):List (List Int):=all.flatMap fun x=>r.nums.map fun n=>x++ [n]
theorem grow_spread:∀ (rs:List Rc) (all:List (List Int)),rs.foldl grow all=all.flatMap fun x=>(spread rs).map (x++ ·)
 | [],all=>by simp [spread]
 |r::rs,all=>by
  rw [List.foldl_cons,grow_spread rs,grow,List.flatMap_assoc]
  congr 1;funext x
  simp only [spread,List.flatMap_map,List.map_flatMap,List.map_map]
  congr 1;funext n;congr 1;funext l;simp
theorem grow_all(rs:List Rc):rs.foldl grow [[]]=spread rs:=by rw [grow_spread];simp
theorem grow_to(rs:List Rc){i:Nat}(h:i<rs.length):spread (rs.take (i+1))=grow (spread (rs.take i)) rs[i]:=by
 rw [←grow_all, ←grow_all,List.take_succ_eq_append_getElem h,List.foldl_append];rfl
theorem grow_take(l:List (List Int))(r:Rc){k:Nat}(h:k<l.length):grow (l.take (k+1)) r=grow (l.take k) r++r.nums.map fun n=>l[k]++ [n]:=by
 unfold grow;rw [List.take_succ_eq_append_getElem h,List.flatMap_append];simp
theorem grow_le(l:List (List Int)){r:Rc}(h:r.hi-r.lo<3):(grow l r).length≤3*l.length:=by
 unfold grow
 induction l with
 |nil=>simp
 |cons x l ih=>
  have:r.nums.length≤3:=by rw [Rc.nums,rz_len];omega
  rw [List.flatMap_cons,List.length_append,List.length_map,List.length_cons];omega
theorem rz_to(lo:Int):∀m,rz lo (m+1)=rz lo m++ [lo+m]
 |0=>by simp [rz]
 |m+1=>by
  rw [rz,rz_to (lo+1) m,rz,List.cons_append,show lo+1+(m:Int)=lo+((m+1:Nat):Int) by omega]
end
end Go.Lg.B
namespace Go.Lg.S
open Go Go.Conc Go.Lg Go.Proofs Go.Lg.B Go.Proofs.Tryz
variable {b:Bk}{v:Value}{ro:RO}
variable {main:Bool}{J:Goroutine→Mem→Prop}(hJ:Closed prog main J)
include hJ
theorem isPlaceR_c(hv:BkV ro v b)(hn:b.ps.length≤1000)(n:Int):CallP prog J (fnv 130) [v, .int .i64 n] ro (.bool (b.place n)):=by
 obtain⟨rb,rc,pb,pc,mb,mc,db,dc,sb,sc,rfl,hp,hmc⟩:=hv.all
 refine EP 11 hJ func130 W fun c cs tail hret C=>Xu W<|Bx Z fun p2=>Ae W<|Xm W W<|Rv 2 W A34 U B29<|Rj W G29 V U<|Rt W A29<|Ri Z (b_sub O O)<|Cp Z (betweenR_c hJ _ _ _ _)<|Hq W func130 hret ?_
 rfl
theorem checkBookR_c(hv:BkV ro v b)(hs:b.short):CallP prog J (fnv 41) [v] ro (.int .i64 (checkBook isLabel b)):=by
 have hv0:=hv
 obtain⟨rb,rc,pb,pc,mb,mc,db,dc,sb,sc,rfl,hp,hmc⟩:=hv.all
 have hds:=hs.ds
 have hps:=hs.ps
 have hss:=hs.ss
 rw [check_two]
 refine EP 84 hJ F41 W fun c cs tail hret C=>Xu W<|Bx Z fun p1=>Ae W<|Xx W<|Rq W G34 B34 V Tk6<|Cp Z (rowsR_c hJ hv0 hs)<|Ae W<|Xm W W<|Ri Z b_neq<|Zc U (fun hq=>?_) (fun hq=>?_)
 ·have hq:b.rowsH≠0:=by simpa using hq
  refine Xm W W<|Hq W F41 hret ?_
  rw [if_pos hq];rfl
 ·have hq:b.rowsH=0:=by simpa using hq
  rw [if_neg (fun e=>e hq)] at hret
  refine Xz<|Xx W<|Rq W G34 B34 V Tk6<|Cp Z (menR_c hJ hv0 hs)<|Ae W<|Xm W W<|Ri Z b_neq<|Zc U (fun hq2=>?_) (fun hq2=>?_)
  ·have hq2:b.placeMenH isLabel≠0:=by simpa using hq2
   refine Xm W W<|Hq W F41 hret ?_
   rw [if_pos hq2];rfl
  ·have hq2:b.placeMenH isLabel=0:=by simpa using hq2
   rw [if_neg (fun e=>e hq2)] at hret
   refine Xz<|Xx W<|Rv 4 W A34 U B31<|Rj W G31 V U<|Rt W A31<|Cp Z (betweenR_c hJ _ _ _ _)<|Rh Y<|Zc U (fun hn=>?_) (fun hn=>?_)
   ·have hn:between (b.ds.length:Int) 1 4=false:=by simpa using hn
    have hd:b.divesH=2:=by rw [Bk.divesH,if_pos (by simp [hn])]
    refine Xu W<|Hq W F41 hret ?_
    rw [hd];rfl
   ·have hn:between (b.ds.length:Int) 1 4=true:=by simpa using hn
    have hd:b.divesH=b.divesGo b.ds:=by rw [Bk.divesH,if_neg (by simp [hn])]
    rw [hd] at hret
    refine Xz<|Xx W<|Ae W<|Xb<|X.loopI (ι:=Nat) C.1 (fun i=>i≤b.ds.length∧b.divesGo b.ds=b.divesGo (b.ds.drop i))
     (fun i=> [(5, .int .i64 (i:Int)),(1, .pointer (some ⟨p1,0,none⟩))])
     (fun _=>⟨ro,(p1, .cells [.int .i64 b.rest, .slice rb b.rs.length rc, .slice pb b.ps.length pc, .slice mb b.ms.length mc, .slice db b.ds.length dc, .slice sb b.ss.length sc].toArray 34 (0,0))::tail⟩) (fun i=>b.ds.length-i) 0 ⟨Nat.zero_le _,by simp⟩ rfl ⟨U,U,trivial⟩ fun i hi hnext=>?_
    obtain⟨hi,hr⟩:=hi
    refine Xx W<|Ro W<|Rv 4 W A34 U B31<|Rj W G31 V U<|Rt W A31<|Ri Z b_lss<|Zj U (fun hlt=>?_) (fun hlt=>?_)
    ·have hi':i<b.ds.length:=O
     obtain⟨p,off,cap,l,t,fq,hsl',hrop,hsub⟩:=hp.2.2.2.1.at Dv.len O
     cases hsl'
     rw [List.drop_eq_getElem_cons hi'] at hr
     have hsi:=hsub i hi'
     generalize b.ds[i]=q at hr hsi
     simp only [Bk.divesGo] at hr
     refine Xz<|Xv<|Xb<|Xu W<|Rv 4 W A34 U B31<|Rj W G31 V U<|Ro W<|Ry Y A31 B256<|La Y isAgg256 B256 hrop hsi<|Al W K256 U fun p6=>Rs Z B256 Y V Ph4<|Rz<|Xx W<|Rq W G34 B34 V Tk6<|Rv 0 W A256 U B3<|Rj W G3 V U<|Cp Z (isPlaceR_c hJ hv0 hps q.p)<|Rh Y<|Zc U (fun e0=>?_) (fun e0=>?_)
     ·have e0:b.place q.p=false:=by simpa using e0
      rw [e0] at hr
      refine Xu W<|Hq W F41 hret ?_
      have hr:b.divesGo b.ds=6:=by simpa using hr
      rw [if_pos (by rw [hr];decide),hr];rfl
     ·have e0:b.place q.p=true:=by simpa using e0
      rw [e0] at hr
      simp only [Bool.not_true,Bool.false_eq_true,if_false] at hr
      refine Xz<|Xu W<|Rv 1 W A256 U B3<|Rj W G3 V U<|Cp Z (betweenR_c hJ _ _ _ _)<|Rh Y<|Ro W<|R.fix (t:=44) U (fun h1=>?_) (fun h1=>?_)
      ·have h1:between q.b 0 200=false:=by simpa using h1
       rw [h1] at hr
       refine Rp W<|Rp W<|Rp W<|Rp W<|Pp Z<|Ro W<|Rp W<|Rp W<|Rp W<|Rp W<|Pp Z<|Zc U (fun _=>?_) (fun h=>nomatch h)
       refine Xu W<|Hq W F41 hret ?_
       have hr:b.divesGo b.ds=1:=by simpa using hr
       rw [if_pos (by rw [hr];decide),hr];rfl
      ·have h1:between q.b 0 200=true:=by simpa using h1
       rw [h1] at hr
       simp only [Bool.not_true,Bool.false_or] at hr
       refine Rv 2 W A256 U B3<|Rj W G3 V U<|Cp Z (betweenR_c hJ _ _ _ _)<|Rh Y<|Pf Z<|Ro W<|R.fix (t:=50) U (fun h2=>?_) (fun h2=>?_)
       ·have h2:between q.t 1 60=false:=by simpa using h2
        rw [h2] at hr
        refine Rp W<|Rp W<|Rp W<|Rp W<|Pp Z<|Zc U (fun _=>?_) (fun h=>nomatch h)
        refine Xu W<|Hq W F41 hret ?_
        have hr:b.divesGo b.ds=1:=by simpa using hr
        rw [if_pos (by rw [hr];decide),hr];rfl
       ·have h2:between q.t 1 60=true:=by simpa using h2
        rw [h2] at hr
        simp only [Bool.not_true,Bool.false_or] at hr
        refine Rv 3 W A256 U B3<|Rj W G3 V U<|Cp Z (betweenR_c hJ _ _ _ _)<|Rh Y<|Pf Z<|Zc U (fun h3=>?_) (fun h3=>?_)
        ·have h3:between q.m 1 3=false:=by simpa using h3
         rw [h3] at hr
         refine Xu W<|Hq W F41 hret ?_
         have hr:b.divesGo b.ds=1:=by simpa using hr
         rw [if_pos (by rw [hr];decide),hr];rfl
        ·have h3:between q.m 1 3=true:=by simpa using h3
         rw [h3] at hr
         simp only [Bool.not_true,Bool.false_eq_true,if_false] at hr
         refine Xz<|Xi<|Xg W<|Ro W<|Rb Y<|Ae W<|X.drop C.1 (own':=_::tail) (List.sublist_cons_self _ _)<|X.weaken ?_ (hnext (i+1) ⟨hi',hr⟩ O)
         exact⟨by simp [look],rfl,trivial⟩
    ·obtain rfl:i=b.ds.length:=by omega
     simp only [List.drop_length,Bk.divesGo] at hr
     rw [if_neg (fun e=>e hr)] at hret
     refine Xe U<|Xx W<|Rv 5 W A34 U B32<|Rj W G32 V U<|Rt W A32<|Ri Z b_gtr<|Zj U (fun hn3=>?_) (fun hn3=>?_)
     ·refine Xu W<|Hq W F41 hret ?_
      rw [Bk.soundH,if_pos O];rfl
     ·rw [Bk.soundH,if_neg O] at hret
      refine Xz<|Xx W<|Ae W<|Xb<|X.loopI (ι:=Nat) C.1 (fun i=>i≤b.ss.length∧b.soundGo b.ss=b.soundGo (b.ss.drop i))
       (fun i=> [(7, .int .i64 (i:Int)),(1, .pointer (some ⟨p1,0,none⟩))])
       (fun _=>⟨ro,(p1, .cells [.int .i64 b.rest, .slice rb b.rs.length rc, .slice pb b.ps.length pc, .slice mb b.ms.length mc, .slice db b.ds.length dc, .slice sb b.ss.length sc].toArray 34 (0,0))::tail⟩) (fun i=>b.ss.length-i) 0 ⟨Nat.zero_le _,by simp⟩ rfl ⟨U,U,trivial⟩ fun i hi hnext=>?_
      obtain⟨hi,hr⟩:=hi
      refine Xx W<|Ro W<|Rv 5 W A34 U B32<|Rj W G32 V U<|Rt W A32<|Ri Z b_lss<|Zj U (fun hlt=>?_) (fun hlt=>?_)
      ·have hi':i<b.ss.length:=O
       obtain⟨p,off,cap,l,t,fq,hsl',hrop,hsub⟩:=hp.2.2.2.2.1.at Sd.len O
       cases hsl'
       rw [List.drop_eq_getElem_cons hi'] at hr
       have hsi:=hsub i hi'
       generalize b.ss[i]=q at hr hsi
       simp only [Bk.soundGo] at hr
       have hx0:l[off+i*3+0]? =some (.int .i64 q.p):=hsi.get 0 Dd
       have hx1:l[off+i*3+1]? =some (.int .i64 q.n):=hsi.get 1 Dd
       refine Xz<|Xv<|Xb<|Xv<|Xv<|Xf fun hok=>D5 C 0 hok U U G34 B34 V Tk6<|Dh 5 1 Y A34 U B32<|Db 2 W G32 V U<|Dt 3 Y<|Dw 4 Y A32 B36<|Df C 5 hok U U U A36 U B3 U<|Dc 6 W G3 hrop hx0<|De 7 (some 74) [false,false,false] hok (fun _ _ A hk=>?_)
       refine R.callP C U (A.w U U) (A.x U U) (A.s U U) (isPlaceR_c hJ hv0 hps q.p) (hk _ _ ⟨QFs.nil, ?_⟩)
       refine Dp 8 hok (fun _ _ _ A h=>R.not C U (A.w U U) (A.x U U) h)<|Dn<|Xc U (fun e0=>?_) (fun e0=>?_)
       ·have e0:b.place q.p=false:=by simpa using e0
        rw [e0] at hr
        refine Xu W<|Hq W F41 hret ?_
        rw [hr];rfl
       ·have e0:b.place q.p=true:=by simpa using e0
        rw [e0] at hr
        simp only [Bool.not_true,Bool.false_eq_true,if_false] at hr
        refine Xz<|Xu W<|Rv 5 W A34 U B32<|Rj W G32 V U<|Ro W<|Ry Y A32 B36<|R.fieldAddr C U U U A36 U B3 U<|Lo Y G3 hrop hx1<|Cp Z (betweenR_c hJ _ _ _ _)<|Rh Y<|Zc U (fun h3=>?_) (fun h3=>?_)
        ·have h3:between q.n 0 30=false:=by simpa using h3
         refine Xu W<|Hq W F41 hret ?_
         rw [h3] at hr
         rw [hr];rfl
        ·have h3:between q.n 0 30=true:=by simpa using h3
         rw [h3] at hr
         simp only [Bool.not_true,Bool.false_eq_true,if_false] at hr
         refine Xz<|Xi<|Xg W<|Ro W<|Rb Y<|Ae W<|X.weaken ?_ (hnext (i+1) ⟨hi',hr⟩ O)
         exact⟨by simp [look],rfl,trivial⟩
      ·obtain rfl:i=b.ss.length:=by omega
       simp only [List.drop_length,Bk.soundGo] at hr
       refine Xe U<|Xu W<|Hq W F41 hret ?_
       rw [hr];rfl
omit hJ in
def fit(b:Bk):Bool:= !great b && (checkBook isLabel b==0)
omit hJ in
theorem fit_true(h:fit b=true):great b=false∧checkBook isLabel b=0:=by simpa [fit] using h
theorem fitR_c(hv:BkV ro v b):CallP prog J (fnv 9) [v] ro (.bool (fit b)):=by
 have hv0:=hv
 obtain⟨rb,rc,pb,pc,mb,mc,db,dc,sb,sc,rfl,hp,hmc⟩:=hv.all
 by_cases hg:great b=true
 ·have _:=hg
  refine EP 11 hJ func9 W fun c cs tail hret C=>Xu W<|Bx Z fun p1=>Ae W<|Xu W<|Rq W G34 B34 V Tk6<|Cp Z (greatR_c hJ hv0)<|Rh Y<|FF 5 U (by(rw [hg];rfl))<|Ro W<|Rp W<|Rp W<|Rp W<|Pf Z<|Hq W func9 hret ?_
  simp [fit,hg,retVal]
 ·have hg:great b=false:=by simpa using hg
  refine EP 11 hJ func9 W fun c cs tail hret C=>Xu W<|Bx Z fun p1=>Ae W<|Xu W<|Rq W G34 B34 V Tk6<|Cp Z (greatR_c hJ hv0)<|Rh Y<|FT 5 U (by(rw [hg];rfl))<|Ro W<|Rq W G34 B34 V Tk6<|Cp Z (checkBookR_c hJ hv0 (short_of hg))<|Ri Z b_eql<|Pp Z<|Hq W func9 hret ?_
  simp [fit,hg,retVal]
theorem soundedR_c(hv:BkV ro v b)(hb:b.good){w:Value}{ws:List Int}(hw:LsI ro w ws)(hwl:ws.length=b.ps.length):CallP prog J (fnv 42) [v,w] ro (.bool (right b ws)):=by
 obtain⟨rb,rc,pb,pc,mb,mc,db,dc,sb,sc,rfl,hp,hmc⟩:=hv.all
 have hns:=hb.ns
 have hnp:=hb.np
 have hss:=hb.ss
 obtain⟨wp,wo,wcap,wl,wt,wfq,rfl,hwro,hwsub⟩:=hw.at ic_len O
 refine EP 30 hJ func42 W fun c cs tail hret C=>Xu W<|Bx Z fun p2=>Ae W<|Xx W<|Ae W<|Xb<|X.loopI (ι:=Nat) C.1 (fun i=>i≤b.ss.length∧right b ws=(b.ss.drop i).all fun s=>decide (ws.getD s.p.toNat 0≤s.n)==s.bot)
  (fun i=> [(5, .int .i64 (i:Int)),(2, .pointer (some ⟨p2,0,none⟩)),(1, .slice (some ⟨wp,wo,none⟩) ws.length wcap)])
  (fun _=>⟨ro,(p2, .cells [.int .i64 b.rest, .slice rb b.rs.length rc, .slice pb b.ps.length pc, .slice mb b.ms.length mc, .slice db b.ds.length dc, .slice sb b.ss.length sc].toArray 34 (0,0))::tail⟩) (fun i=>b.ss.length-i) 0 ⟨Nat.zero_le _,rfl⟩ rfl ⟨U,U,U,trivial⟩ fun i hi hnext=>?_
 obtain⟨hi,hr⟩:=hi
 refine Xx W<|Ro W<|Rv 5 W A34 U B32<|Rj W G32 V U<|Rt W A32<|Ri Z b_lss<|Zj U (fun hlt=>?_) (fun hlt=>?_)
 ·have hi':i<b.ss.length:=O
  obtain⟨p,off,cap,l,t,fq,hsl',hrop,hsub⟩:=hp.2.2.2.2.1.at Sd.len O
  cases hsl'
  rw [List.drop_eq_getElem_cons hi',List.all_cons] at hr
  have hsi:=hsub i hi'
  have hqp:=hss _ (List.getElem_mem hi')
  generalize b.ss[i]=q at hr hsi hqp
  have hx:wl[wo+q.p.toNat*1]? =some (.int .i64 (ws.getD q.p.toNat 0)):=by
   have:=ic_at hwsub (i:=q.p.toNat) O
   rw [List.getD_eq_getElem?_getD,List.getElem?_eq_getElem (show q.p.toNat<ws.length by omega)]
   exact this
  refine Xz<|Xv<|Xb<|Xu W<|Rv 5 W A34 U B32<|Rj W G32 V U<|Ro W<|Ry Y A32 B36<|La Y G36 B36 hrop hsi<|Al W K36 U fun p6=>Rs Z B36 Y V Ph3<|Rz<|Xv<|Xf fun hok=>Dt 0 Y<|Dh 0 1 Y A36 U B3<|Db 2 W G3 V U<|Dw 3 Y A58 B3<|Dc 4 W G3 hwro hx<|Dh 1 5 Y A36 U B3<|Db 6 W G3 V U<|Dj 7 Y5 b_leq<|Dh 2 8 Y A36 U B4<|Db 9 W G4 V U<|Dp 10 hok (fun _ _ _ A h=>R.neBool C U (A.w U U) (A.x U U) (A.x U U) A4 h)<|Dn<|Xc U (fun h1=>?_) (fun h1=>?_)
  ·have e:(decide (ws.getD q.p.toNat 0≤q.n)==q.bot)=false:=by
    revert h1;cases decide (ws.getD q.p.toNat 0≤q.n)<;>cases q.bot<;>simp
   rw [e,Bool.false_and] at hr
   refine Xu W<|Hq W func42 hret ?_
   rw [hr];rfl
  ·have e:(decide (ws.getD q.p.toNat 0≤q.n)==q.bot)=true:=by
    revert h1;cases decide (ws.getD q.p.toNat 0≤q.n)<;>cases q.bot<;>simp
   rw [e,Bool.true_and] at hr
   refine Xz<|Xi<|Xg W<|Ro W<|Rb Y<|Ae W<|X.drop C.1 (own':=_::tail) (List.sublist_cons_self _ _)<|X.weaken ?_ (hnext (i+1) ⟨hi',hr⟩ O)
   exact⟨by simp [look],rfl,rfl,trivial⟩
 ·obtain rfl:i=b.ss.length:=by omega
  rw [List.drop_length,List.all_nil] at hr
  refine Xe U<|Xu W<|Hq W func42 hret ?_
  rw [hr];rfl
theorem casesOfR_c(hv:BkV ro v b)(hb:b.good):CallR prog J (fnv 10) [v] ro (fun w _=>∃ (base:Option Addr) (n cap:Nat),w= .slice base n cap∧n≤1000):=by
 have hv0:=hv
 obtain⟨rb,rc,pb,pc,mb,mc,db,dc,sb,sc,rfl,hp,hmc⟩:=hv.all
 have hnp:=hb.np
 have hr:=hb.ps
 refine ER 73 hJ func10 W fun c cs tail hret C=>Xu W<|Bx Z fun p1=>Ae W<|Xu W<|R.buildSlice C (vs:=_) U U (show pvals _ _=some (numbered 0 [_]) from rfl) U A23 B58 K58 Dd (Cat.one U U) fun p10=>Ae W<|Xx W<|Ae W<|Xb<|X.finish C.1 (enc:=fun z:Value×List Int=> [z.1]) (kk:=1) (e:=58) (xs:= [(.slice none 0 0, [])]) (fun _=>rfl) Dd (Buf.blk (cells:= [.slice none 0 0]) (spare:= []) (len:=1) (cap:=1) U U (Nat.le_refl _)) fun ro0 hl0 hls0=>X.loopI (ι:=Nat×RO×Value) C.1 (fun s=>s.1≤b.ps.length∧ro0.le s.2.1∧LsG s.2.1 s.2.2 (spread (b.ps.take s.1))) (fun s=> [(1, .pointer (some ⟨p1,0,none⟩)),(3,s.2.2),(4, .int .i64 (s.1:Int))])
  (fun s=>⟨s.2.1,(p1, .cells [.int .i64 b.rest, .slice rb b.rs.length rc, .slice pb b.ps.length pc, .slice mb b.ms.length mc, .slice db b.ds.length dc, .slice sb b.ss.length sc].toArray 34 (0,0))::tail⟩) (fun s=>b.ps.length-s.1) (0,ro0, .slice (some ⟨p10,0,none⟩) 1 1) ⟨Nat.zero_le _,RO.le_refl _,_,hls0,rfl,fun z hz=>by simp at hz;subst hz;exact⟨Ls.nil,_,_,_,rfl,Nat.le_refl _⟩⟩ rfl ⟨U,U,U,trivial⟩ fun s hs1 hnext=>?_
 obtain⟨i,ro1,v1⟩:=s
 obtain⟨hi,hle1,hg1⟩:=hs1
 simp only at hi hle1 hg1 hnext⊢
 refine Xx W<|Ro W<|Rv 2 W A34 U B29<|Rj W G29 V U<|Rt W A29<|Ri Z b_lss<|Zj U (fun hlt=>?_) (fun hlt=>?_)
 ·have hi':i<b.ps.length:=O
  have hstep:=grow_to b.ps hi'
  have hri:=hr _ (List.getElem_mem hi')
  have hallx:∀x∈spread (b.ps.take i),x.length=i:=fun x hx=>by rw [spread_len x hx,List.length_take];omega
  have hal:(spread (b.ps.take i)).length≤27:=by
   have h1:=spread_le (rs:=b.ps.take i) fun r h=>(hr r (List.mem_of_mem_take h)).2.2.2
   have h2:3^ (b.ps.take i).length≤3^3:=Nat.pow_le_pow_right Dd (by rw [List.length_take];omega)
   omega
  obtain⟨rp,rof,rcap,rl,rt,rfq,hsl,hrro,hrsub⟩:=(hp.2.1.mono (RO.le_trans hl0 hle1)).at (fun _=>rfl) O
  cases hsl
  have hsi:=hrsub i O
  have hlo:rl[rof+i*2+0]? =some (.int .i64 b.ps[i].lo):=hsi.get 0 Dd
  have hhi:rl[rof+i*2+1]? =some (.int .i64 b.ps[i].hi):=hsi.get 1 Dd
  clear hsi hrsub
  generalize b.ps[i]=r at hstep hri hlo hhi
  generalize spread (b.ps.take i)=all at hg1 hstep hallx hal
  obtain⟨ab,ac,rfl⟩:=hg1.form
  refine Xz<|Xv<|Xb<|Xo W W<|Xx W<|Ae W<|Xb<|X.loopI (ι:=Nat×RO×Value×List (Value×List Int)×List (Nat×Obj)) C.1 (fun s=>s.1≤all.length∧ro1.le s.2.1∧Buf 58 1 [] s.2.2.1 (s.2.2.2.1.flatMap fun z=> [z.1]) s.2.2.2.2∧s.2.2.2.1.map (·.2)=grow (all.take s.1) r∧∀z∈s.2.2.2.1,LsI s.2.1 z.1 z.2∧capOk z.1) (fun s=> [(1, .pointer (some ⟨p1,0,none⟩)),(3, .slice ab all.length ac),(4, .int .i64 (i:Int)),(5,s.2.2.1),(6, .int .i64 (s.1:Int))])
   (fun s=>⟨s.2.1,s.2.2.2.2++((p1, .cells [.int .i64 b.rest, .slice rb b.rs.length rc, .slice (some ⟨rp,rof,none⟩) b.ps.length pc, .slice mb b.ms.length mc, .slice db b.ds.length dc, .slice sb b.ss.length sc].toArray 34 (0,0))::tail)⟩) (fun s=>all.length-s.1) (0,ro1, .slice none 0 0, [], []) ⟨Nat.zero_le _,RO.le_refl _, .nil,by simp [grow],fun _ h=>nomatch h⟩ rfl ⟨U,U,U,U,U,trivial⟩ fun s hs2 hnext2=>?_
  obtain⟨k,ro2,v2,zs2,own2⟩:=s
  obtain⟨hk,hle2,hb2,hzs2,hls2⟩:=hs2
  simp only at hk hle2 hb2 hzs2 hls2 hnext2⊢
  refine Xx W<|Oo W W<|Rt W A23<|Ri Z b_lss<|Zj U (fun hlt2=>?_) (fun hlt2=>?_)
  ·have hk':k<all.length:=O
   obtain⟨ap,ao,acap,al,aty,afq,hasl,haro,hasub⟩:=hg1.at O
   cases hasl
   obtain⟨qb,qc,hqat,hqc,hqls⟩:=hasub k hk'
   have hgt:=grow_take all r hk'
   have hgl:=B.grow_le (all.take k) hri.2.2.2
   rw [List.length_take] at hgl
   have hxl:=hallx _ (List.getElem_mem hk')
   generalize all[k]=x at hqat hqc hqls hgt hxl
   have hrro2:=hle2 _ _ hrro
   have hrl:∃c:Nat,c=(r.hi+1-r.lo).toNat:=⟨_,rfl⟩
   obtain⟨c,hc⟩:=hrl
   have hnums:r.nums=B.rz r.lo c:=by rw [hc];rfl
   refine Xz<|Xv<|Xb<|Xu W<|Rv 2 W A34 U B29<|R.loadOne C U U U G29 Vm U<|Ro W<|Ry Y A29 B45<|R.fieldAddr C U U U A45 U B3 U<|Lo Y G3 hrro2 hlo<|Ae W<|Xb<|X.loopI (ι:=Nat×RO×Value×List (Value×List Int)×List (Nat×Obj)) C.1 (fun s=>s.1≤c∧ro2.le s.2.1∧Buf 58 1 [] s.2.2.1 (s.2.2.2.1.flatMap fun z=> [z.1]) s.2.2.2.2∧s.2.2.2.1.map (·.2)=grow (all.take k) r++(B.rz r.lo s.1).map (fun n=>x++ [n])∧∀z∈s.2.2.2.1,LsI s.2.1 z.1 z.2∧capOk z.1) (fun s=> [(1, .pointer (some ⟨p1,0,none⟩)),(3, .slice (some ⟨ap,ao,none⟩) all.length ac),(4, .int .i64 (i:Int)),(5,s.2.2.1),(6, .int .i64 (k:Int)),(7, .int .i64 (r.lo+(s.1:Int)))])
    (fun s=>⟨s.2.1,s.2.2.2.2++((p1, .cells [.int .i64 b.rest, .slice rb b.rs.length rc, .slice (some ⟨rp,rof,none⟩) b.ps.length pc, .slice mb b.ms.length mc, .slice db b.ds.length dc, .slice sb b.ss.length sc].toArray 34 (0,0))::tail)⟩) (fun s=>c-s.1) (0,ro2,v2,zs2,own2) ⟨Nat.zero_le _,RO.le_refl _,hb2,by simp [hzs2,B.rz],hls2⟩ rfl ⟨rfl,rfl,rfl,rfl,rfl,by simp [look],trivial⟩ fun s hs3 hnext3=>?_
   obtain⟨j,ro3,v3,zs3,own3⟩:=s
   obtain⟨hj,hle3,hb3,hzs3,hls3⟩:=hs3
   simp only at hj hle3 hb3 hzs3 hls3 hnext3⊢
   have hlen3:=congrArg List.length hzs3
   rw [List.length_map,List.length_append,List.length_map,rz_len] at hlen3
   have hff3:(zs3.flatMap fun z:Value×List Int=> [z.1]).length=zs3.length:=by rw [flatMap_len (k:=1) (fun _=>rfl),Nat.mul_one]
   have hrro3:=hle3 _ _ hrro2
   have haro3:=hle3 _ _ (hle2 _ _ haro)
   have hqls3:=hqls.mono (RO.le_trans hle2 hle3)
   refine Xx W<|Ro W<|Rv 2 W A34 U B29<|R.loadOne C U U U G29 Vm U<|Ro W<|Ry Y A29 B45<|R.fieldAddr C U U U A45 U B3 U<|Lo Y G3 hrro3 hhi<|Ri Z b_leq<|Zj U (fun hlt3=>?_) (fun hlt3=>?_)
   ·have hfl:=flat_len x
    refine Xz<|Xv<|Xb<|Xg W<|Ro W<|R.buildSlice C (vs:=_) U U (show pvals _ _=some (numbered 0 []) from rfl) U A58 B3 K3 Dd (.nil) fun p41=>Oo W W<|Ry Y A23 B58<|Lo Y G58 haro3 hqat<|R.append (kk:=1) C U U U U A58 A58 (fun _=>nofun) (show prog.info? 3=some Tryz.t3 by kernel_rfl) U U U Dd Dd (Buf.blk (cells:= []) (spare:= []) (len:=0) (cap:=0) U U (Nat.le_refl _)) (hqls3.rd ic_len) (ones_ic x) (by simp only [List.length_nil];omega) fun v' own' hb'=>Ro W<|R.buildSlice C (vs:=_) U U (show pvals _ _=some (numbered 0 [_]) from rfl) U A58 B3 K3 Dd (Cat.one U U) fun p48=>R.append1 (kk:=1) C U U U U A58 A58 (fun _=>nofun) (show prog.info? 3=some Tryz.t3 by kernel_rfl) U U U Dd Dd hb' U U (by simp only [List.length_append,List.length_cons,List.length_nil];omega) fun v' own' hb'=>?_
    have e3:([]++x.flatMap ic)++ [Value.int .i64 (r.lo+(j:Int))]=(x++ [r.lo+(j:Int)]).flatMap ic:=by simp [List.flatMap_append,ic]
    rw [e3] at hb'
    have hco:=hb'.capOk
    refine R.finish C.1 ic_len Dd hb' fun ro4 hl4 hls4=>?_
    obtain⟨b4,c4,rfl⟩:=hls4.form
    refine R.buildSlice C (vs:=_) U U (show pvals _ _=some (numbered 0 [_]) from rfl) U A23 B58 K58 Dd (Cat.one U U) fun p50=>R.append1 (kk:=1) C U U U U A23 A23 (fun _=>nofun) (show prog.info? 58=some Tryz.t58 by kernel_rfl) U U U Dd Dd (hb3.app _) U U (by simp only [List.length_append,List.length_cons,List.length_nil];omega) fun v' own' hb'=>Ae W<|Xi<|Xg W<|Ro W<|Rb Y<|Ae W ?_
    obtain⟨own4,rfl,hb4⟩:=hb'.unapp
    refine X.weaken ?_ (hnext3 (j+1,ro4,_,zs3++ [(.slice b4 (x++ [r.lo+(j:Int)]).length c4,x++ [r.lo+(j:Int)])],_) ⟨O,RO.le_trans hle3 hl4,by simpa [List.flatMap_append] using hb4, ?_,fun z hz=>?_⟩ (by simp only;omega))
    ·exact⟨rfl,rfl,rfl,rfl,rfl,by simp only [look];congr 2;omega,trivial⟩
    ·rw [List.map_append,hzs3,rz_to,List.map_append,List.append_assoc];rfl
    ·rcases List.mem_append.1 hz with hz|hz
     ·exact⟨(hls3 z hz).1.mono hl4,(hls3 z hz).2⟩
     ·rw [List.mem_singleton.1 hz];exact⟨hls4,hco⟩
   ·obtain rfl:j=c:=by omega
    rw [←hnums, ←hgt] at hzs3
    refine Xe U<|Xi<|Xg W<|Ro W<|Rb Y<|Ae W<|X.weaken ?_ (hnext2 (k+1,ro3,v3,zs3,own3) ⟨hk',RO.le_trans hle2 hle3,hb3,hzs3,hls3⟩ (by simp only;omega))
    exact⟨rfl,rfl,rfl,rfl,by simp [look],trivial⟩
  ·obtain rfl:k=all.length:=by omega
   rw [List.take_length, ←hstep] at hzs2
   refine Xe U<|Xg W ?_
   have hls2':=hls2
   refine R.finish C.1 (enc:=fun z:Value×List Int=> [z.1]) (fun _=>rfl) Dd (hb2.app _) fun ro3 hl3 hls3=>Ro W<|Ae W<|Xi<|Xg W<|Ro W<|Rb Y<|Ae W<|X.weaken ?_ (hnext (i+1,ro3,v2) ⟨hi',RO.le_trans hle1 (RO.le_trans hle2 hl3),zs2,hls3,hzs2,fun z hz=>⟨(hls2 z hz).1.mono hl3,(hls2 z hz).2⟩⟩ (by simp only;omega))
   exact⟨rfl,rfl,by simp [look],trivial⟩
 ·obtain rfl:i=b.ps.length:=by omega
  rw [List.take_length] at hg1
  obtain⟨ab,ac,rfl⟩:=hg1.form
  have hal:(spread b.ps).length≤27:=by
   have h1:=spread_le (rs:=b.ps) fun r h=>(hr r h).2.2.2
   have h2:3^b.ps.length≤3^3:=Nat.pow_le_pow_right Dd O
   omega
  have hallx:∀x∈spread b.ps,x.length=b.ps.length:=fun x hx=>spread_len x hx
  generalize spread b.ps=all at hg1 hallx hal
  have hvk:=hv0.mono (RO.le_trans hl0 hle1)
  refine Xe U<|Xo W W<|Xx W<|Ae W<|Xb<|X.loopI (ι:=Nat×Value×List Value×List (Nat×Obj)) C.1 (fun s=>s.1≤all.length∧Buf 58 1 [] s.2.1 s.2.2.1 s.2.2.2∧s.2.2.1.length≤s.1) (fun s=> [(1, .pointer (some ⟨p1,0,none⟩)),(3, .slice ab all.length ac),(8,s.2.1),(9, .int .i64 (s.1:Int))])
   (fun s=>⟨ro1,s.2.2.2++((p1, .cells [.int .i64 b.rest, .slice rb b.rs.length rc, .slice pb b.ps.length pc, .slice mb b.ms.length mc, .slice db b.ds.length dc, .slice sb b.ss.length sc].toArray 34 (0,0))::tail)⟩) (fun s=>all.length-s.1) (0, .slice none 0 0, [], []) ⟨Nat.zero_le _, .nil,Nat.le_refl _⟩ rfl ⟨U,U,U,U,trivial⟩ fun s hs3 hnext3=>?_
  obtain⟨k,v3,zs3,own3⟩:=s
  obtain⟨hk,hb3,hzs3⟩:=hs3
  simp only at hk hb3 hzs3 hnext3⊢
  refine Xx W<|Oo W W<|Rt W A23<|Ri Z b_lss<|Zj U (fun hlt3=>?_) (fun hlt3=>?_)
  ·have hk':k<all.length:=O
   obtain⟨ap,ao,acap,al,aty,afq,hasl,haro,hasub⟩:=hg1.at O
   cases hasl
   obtain⟨qb,qc,hqat,hqc,hqls⟩:=hasub k hk'
   have hxl:=hallx _ (List.getElem_mem hk')
   generalize all[k]=x at hqat hqc hqls hxl
   refine Xz<|Xv<|Xb<|Xv<|Xf fun hok=>Dl 0 hok (fun _ _ A h=>R.loadAgg C U (A.w U U) (A.x U U) G34 B34 Vm Tk6 h)<|Dt 1 Y<|Dt 2 Y<|Dw 3 Y A23 B58<|Dc 4 W G58 haro hqat<|De 5 (some 64) [false,false] hok (fun _ _ A hk=>?_)
   refine R.callP C U (A.w U U) (A.x U U) (A.s U U) (soundedR_c hJ hvk hb hqls hxl) (hk _ _ ⟨QFs.nil, ?_⟩)
   refine Dn<|Xc U (fun hz=>?_) (fun hz=>?_)
   ·refine Xg W<|Oo W W<|Ro W<|Ry Y A23 B58<|Lo Y G58 haro hqat<|R.buildSlice C (vs:=_) U U (show pvals _ _=some (numbered 0 [_]) from rfl) U A23 B58 K58 Dd (Cat.one U U) fun p70=>R.append1 (kk:=1) C U U U U A23 A23 (fun _=>nofun) (show prog.info? 58=some Tryz.t58 by kernel_rfl) U U U Dd Dd (hb3.app _) U U (by simp only [List.length_append,List.length_cons,List.length_nil];omega) fun v' own' hb'=>Ae W<|Xi<|Xg W<|Ro W<|Rb Y<|Ae W ?_
    obtain⟨own4,rfl,hb4⟩:=hb'.unapp
    refine X.weaken ?_ (hnext3 (k+1,_,_,own4) ⟨hk',hb4,by simp only [List.length_append,List.length_cons,List.length_nil];omega⟩ (by simp only;omega))
    exact⟨rfl,rfl,rfl,by simp [look],trivial⟩
   ·refine Xz<|Xi<|Xg W<|Ro W<|Rb Y<|Ae W<|X.weaken ?_ (hnext3 (k+1,_,_,own3) ⟨hk',hb3,by simp only;omega⟩ (by simp only;omega))
    exact⟨rfl,rfl,rfl,by simp [look],trivial⟩
  ·obtain rfl:k=all.length:=by omega
   obtain⟨fb,fc,rfl⟩:=hb3.form Dd
   refine Xe U<|Xm W W<|Ae W<|Xw func10<|hret _ _ _ (RO.le_trans hl0 hle1) (by repeat (first|exact List.Sublist.refl _|apply List.Sublist.cons|apply List.sublist_append_of_sublist_right)) ?_
   exact⟨_,_,_,rfl,O⟩
end Go.Lg.S
namespace Go.Lg.S
open Go Go.Conc Go.Lg Go.Proofs Go.Lg.B Go.Proofs.Tryz
theorem emod_in{x:Int}{n:Nat}(h:1≤n):0≤x% (n:Int)∧x% (n:Int)<n:=⟨Int.emod_nonneg _ O,Int.emod_lt_of_pos _ O⟩
theorem manned_root{b:B.Bk}{u:Bk}{vb vu:Value}{x:Sd}{i0 g0 n0:Int}(hi0:0≤i0∧i0≤255)(hg0:0≤g0∧g0≤255)(hn0:0≤n0∧n0≤255){ro:RO}(he:B.Env ro)(heS:Env ro)(hv:B.BkV ro vb b)(hvu:BkV ro vu u):
  Root prog 3 [vb,vu, .agg [.int .i64 x.p, .int .i64 x.n, .bool x.bot].toArray, .int .u8 i0, .int .u8 g0, .int .u8 n0] ro (fun w _=>w= .bool true):=by
 intro Post hret
 have hJ:Closed prog true (JM prog (Go.Conc.Good prog Post)):=JM.closed
 obtain⟨vp,vg,vc,vt,rfl,hp,hg,hc,ht⟩:=hv
 obtain⟨pb,pc,rfl⟩:=hp.form
 obtain⟨gb,gc,rfl⟩:=hg.form
 obtain⟨cb,cc,rfl⟩:=hc.form
 obtain⟨tb,tc,rfl⟩:=ht.form
 have hvv:B.BkV ro (.agg [.int .i64 b.w, .slice pb b.ps.length pc, .slice gb b.gs.length gc, .slice cb b.cs.length cc, .slice none 0 0].toArray) b.noTests:=⟨_,_,_,_,rfl,hp,hg,hc, .nil⟩
 have hvu0:=hvu
 obtain⟨rb,rc,ub,uc,mb,mc,db,dc,sb,sc,rfl,hup,hmc⟩:=hvu.all
 let main:=true
 let J:=JM prog (Go.Conc.Good prog Post)
 refine enter_X (n:=119) F3 U U (Nl U) ?_
 have C:Ctx prog main J (bf 3 .normal):=⟨hJ,by decide⟩
 by_cases h1:B.checkBook b.noTests=0
 ·by_cases h2:fit u=true
  ·obtain⟨hgu,hchR⟩:=fit_true h2
   have hsh:=short_of hgu
   have hubR:=good_of hchR
   have hb:=B.good_of h1
   have hnp:1≤b.ps.length∧b.ps.length≤4:=hb.np
   have hng:1≤b.gs.length∧b.gs.length≤3:=hb.ng
   have hnc:1≤b.cs.length∧b.cs.length≤3:=hb.nc
   have hnu:1≤u.ps.length∧u.ps.length≤3:=hubR.np
   refine Xu W<|Bx Z fun p6=>Bx Z fun p7=>Bx Z fun p8=>Ae W<|Xu W<|Rv 4 W A27 U B25<|Rs Z B25 Y V (.skip (.skip (.skip (.skip (.here .nil)))))<|Rz<|Xx W<|Rq W G27 B27 V Tk5<|Cp Z (B.fitR_c hJ hvv)<|Rh Y<|FF 25 U (by(rw [h1];rfl))<|Ro W<|Rq W G34 B34 V Tk6<|Cp Z (fitR_c hJ hvu0)<|Rh Y<|FF 29 U (by(rw [h2];rfl))<|Pf Z<|Ro W<|Rq W G34 B34 V Tk6<|R.callR C U U U U (casesOfR_c hJ hvu0 hubR) fun v2 ro2 hl2 hq2=>?_
   obtain⟨cb2,cn2,cc2,rfl,hcn⟩:=hq2
   by_cases h4:cn2=0
   ·have _:=h1
    refine Rt W A23<|Ri Z b_eql<|FT 35 U (Bv (by rw [beq_iff_eq];omega)) ?_;refine Pf Z<|Zc U (fun _=>?_) (fun h=>nomatch h)
    refine Xu W<|R.callR C U U U U ((hoisted_c _ (he.mono hl2))) fun v9 ro9 hl9 hq9=>Ae W<|X.ret0 C Kr U U F3 U (by exact(.tmp U .nil)) fun w9 hs9=>hret _ _ _ (RO.le_trans hl2 hl9) ?_ w9 hs9
    exact hq9
   ·have _:=h1
    refine Rt W A23<|Ri Z b_eql<|FF 35 U (Bv (by rw [beq_eq_false_iff_ne];omega)) ?_;refine Pf Z<|Zc U (fun h=>nomatch h) (fun _=>?_)
    refine Xz<|Xu W<|Rq W G34 B34 V Tk6<|Rq W G36 B36 V Tk3<|R.callR C U U U U ((sound_c hJ (heS.mono hl2) (hvu0.mono hl2) hsh x)) fun v3 ro3 hl3 hq3=>?_
    have k3:=RO.le_trans hl2 hl3
    rcases hq3 with⟨hne,rfl⟩|⟨hz,v3,hvo,rfl⟩
    ·
     unfold noBk
     refine Ro W<|Re Z<|Re Z<|Al W K34 U fun p13=>Rs Z B34 Y V Ph6<|Ae W<|Xx W<|Ro W<|Ri Z b_neq<|Zc U (fun hq=>?_) (fun hq=>?_)
     ·refine Xu W<|R.callR C U U U U ((hoisted_c _ (he.mono k3))) fun v9 ro9 hl9 hq9=>Ae W<|X.ret0 C Kr U U F3 U (by exact(.tmp U .nil)) fun w9 hs9=>hret _ _ _ (RO.le_trans k3 hl9) ?_ w9 hs9
      exact hq9
     ·simp at hq;contradiction
    ·
     have hvo0:=hvo
     obtain⟨rb2,rc2,ub2,uc2,mb2,mc2,db2,dc2,sb2,sc2,rfl,hop,_⟩:=hvo.all
     obtain⟨hch,hco2,hlaw⟩:=sound_law hz
     have hci:=emod_in (x:=i0) hnu.1
     obtain⟨o1,o2,f0,f1,f2,f3,f4⟩:=hlaw (i0% (u.ps.length:Int)) hci.1 hci.2
     have hshO:(u.more x).short:=⟨hsh.rs,hsh.ps,hsh.ms,hsh.ds,by have:=(good_of hco2).ns;omega⟩
     have e1:staysR u (i0% (u.ps.length:Int))=(⟨lo (staysL u (i0% (u.ps.length:Int))),hi (staysL u (i0% (u.ps.length:Int)))⟩,0):=by rw [staysR,if_neg (fun e=>e o1)]
     have e2:staysR (u.more x) (i0% (u.ps.length:Int))=(⟨lo (staysL (u.more x) (i0% (u.ps.length:Int))),hi (staysL (u.more x) (i0% (u.ps.length:Int)))⟩,0):=by rw [staysR,if_neg (fun e=>e o2)]
     generalize lo (staysL u (i0% (u.ps.length:Int)))=a at f0 f1 e1
     generalize hi (staysL u (i0% (u.ps.length:Int)))=z at f3 f4 e1
     generalize lo (staysL (u.more x) (i0% (u.ps.length:Int)))=a2 at f1 f2 e2
     generalize hi (staysL (u.more x) (i0% (u.ps.length:Int)))=z2 at f2 f3 e2
     refine Ro W<|Re Z<|Re Z<|Al W K34 U fun p13=>Rs Z B34 Y V Ph6<|Ae W<|Xx W<|Ro W<|Ri Z b_neq<|Zc U (fun hq=>?_) (fun hq=>?_)
     ·simp at hq
     ·refine Xz<|Xm W W<|R.convInt C U U U A5 A3 (wrap64 O O)<|Rv 2 W A34 U B29<|Rj W G29 V U<|Rt W A29<|Ri Z (b_remP O O)<|Ae W<|Xu W<|Rq W G34 B34 V Tk6<|Ro W<|R.callR C U U U U ((stays_c hJ (heS.mono k3) (hvu0.mono k3) hsh (i0% (u.ps.length:Int)))) fun v4 ro4 hl4 hq4=>?_
      rw [e1] at hq4
      replace hq4:v4= .tuple [.agg [.int .i64 a, .int .i64 z].toArray, .int .i64 0].toArray:=hq4
      subst hq4
      have k4:=RO.le_trans k3 hl4
      refine Ro W<|Re Z<|Re Z<|Al W K45 U fun p16=>Rs Z B45 Y V Ph2<|Ae W<|Xu W<|Rq W G34 B34 V Tk6<|Ro W<|R.callR C U U U U ((stays_c hJ (heS.mono k4) (hvo0.mono hl4) hshO (i0% (u.ps.length:Int)))) fun v5 ro5 hl5 hq5=>?_
      rw [e2] at hq5
      replace hq5:v5= .tuple [.agg [.int .i64 a2, .int .i64 z2].toArray, .int .i64 0].toArray:=hq5
      subst hq5
      have k5:=RO.le_trans k4 hl5
      have hin:B.isReach (⟨a,z⟩:Rc) 0 60=true:=by simp [B.isReach];omega
      refine Ro W<|Re Z<|Re Z<|Al W K45 U fun p18=>Rs Z B45 Y V Ph2<|Ae W<|Xx W<|Ro W<|Ri Z b_neq<|FF 66 U (by rfl)<|Oo W W<|Ri Z b_neq<|FF 69 U (by rfl)<|Pf Z<|Ro W<|Rv 0 W A45 U B3<|Rj W G3 V U<|Rv 0 W A45 U B3<|Rj W G3 V U<|Ri Z b_gtr<|FF 76 U (by(exact congrArg Value.bool Zo))<|Pf Z<|Ro W<|Rv 0 W A45 U B3<|Rj W G3 V U<|Rv 1 W A45 U B3<|Rj W G3 V U<|Ri Z b_gtr<|FF 83 U (by(exact congrArg Value.bool Zo))<|Pf Z<|Ro W<|Rv 1 W A45 U B3<|Rj W G3 V U<|Rv 1 W A45 U B3<|Rj W G3 V U<|Ri Z b_gtr<|FF 90 U (by(exact congrArg Value.bool Zo))<|Pf Z ?_;refine Ro W<|Rq W G45 B45 V Tk2<|Cp Z (insideR_c hJ (⟨a,z⟩:Rc) _ _ _)<|Rh Y<|FF 95 U (by(rw [hin];rfl))<|Pf Z<|Zc U (fun h=>nomatch h) (fun _=>?_)
      refine Xz<|Xv<|X.drop C.1 (own':=(p18, .cells [.int .i64 a2, .int .i64 z2].toArray 45 (0,0))::(p16, .cells [.int .i64 a, .int .i64 z].toArray 45 (0,0))::(p6, .cells [.int .i64 b.w, .slice pb b.ps.length pc, .slice gb b.gs.length gc, .slice cb b.cs.length cc, .slice none 0 0].toArray 27 (0,0)):: []) (.cons₂ _ (.cons₂ _ (.cons _ (.cons _ (.cons _ (.cons₂ _ .slnil))))))<|X.afterI (ι:=Nat×Nat) (fun _=>True) (fun s=> [(20, .pointer (some ⟨s.1,0,none⟩)),(21, .pointer (some ⟨s.2,0,none⟩)),(16, .pointer (some ⟨p16,0,none⟩)),(18, .pointer (some ⟨p18,0,none⟩)),(6, .pointer (some ⟨p6,0,none⟩)),(4, .int .u8 g0),(5, .int .u8 n0)])
       (fun s=>⟨ro5,(s.2, .cells [.int .i64 b.w, .slice pb b.ps.length pc, .slice gb b.gs.length gc, .slice cb b.cs.length cc, .slice none 0 0].toArray 27 (0,0))::(s.1, .cells [.int .i64 b.w, .slice pb b.ps.length pc, .slice gb b.gs.length gc, .slice cb b.cs.length cc, .slice none 0 0].toArray 27 (0,0))::(p18, .cells [.int .i64 a2, .int .i64 z2].toArray 45 (0,0))::(p16, .cells [.int .i64 a, .int .i64 z].toArray 45 (0,0))::(p6, .cells [.int .i64 b.w, .slice pb b.ps.length pc, .slice gb b.gs.length gc, .slice cb b.cs.length cc, .slice none 0 0].toArray 27 (0,0)):: []⟩) (fun s hsx=>?_) (fun hcont=>?_)
      rotate_left
      ·have _:=h1
       refine Xf fun hok=>D5 C 0 hok U U G27 B27 V Tk5<|D5 C 1 hok U U G27 B27 V Tk5<|D.eP2 (i:=2) (i':=3) (dst:=(some 20)) (dst':=(some 21)) [true,true] [true,true] hok U U Kr Kr Kr (fun _ _ A hk=>?_) (fun _ _ A hk=>?_)
       ·
        refine R.alloc C U (A.w U U) K27 U fun p20=>hk _ _ ⟨(QFs.cons (QF.of U (fun _ _ A h=>R.loadAgg C U (A.w U U) (A.x U U) G27 B27 V Tk5 h)) (QFs.cons (QF.of U (fun _ _ A h=>R.loadAgg C U (A.w U U) (A.x U U) G27 B27 V Tk5 h)) QFs.nil)), ?_⟩
        refine De 3 (some 21) [true,true] hok (fun _ _ A hk=>?_)
        refine R.alloc C U (A.w U U) K27 U fun p21=>hk _ _ ⟨(QFs.cons (QF.of U (fun _ _ A h=>R.loadAgg C U (A.w U U) (A.x U U) G27 B27 V Tk5 h)) (QFs.cons (QF.of U (fun _ _ A h=>R.loadAgg C U (A.w U U) (A.x U U) G27 B27 V Tk5 h)) QFs.nil)), ?_⟩
        refine De 4 none [true,false] hok (fun _ _ A hk=>?_)
        refine R.store C U (A.w U U) (A.x U U) (A.x U U) B27 U U U V Ph5 (hk undef _ ⟨(QFs.cons (QF.of U (fun _ _ A h=>R.loadAgg C U (A.w U U) (A.x U U) G27 B27 V Tk5 h)) QFs.nil), ?_⟩)
        refine De 5 none [false] hok (fun _ _ A hk=>?_)
        refine R.store C U (A.w U U) (A.x U U) (A.x U U) B27 U U U V Ph5 (hk undef _ ⟨QFs.nil, ?_⟩)
        refine Dn<|X.weaken ?_ (hcont (p20,p21) trivial)
        exact⟨U,U,U,U,U,U,U,trivial⟩
       ·
        refine R.alloc C U (A.w U U) K27 U fun p21=>hk _ _ ⟨(QFs.cons (QF.of U (fun _ _ A h=>R.loadAgg C U (A.w U U) (A.x U U) G27 B27 V Tk5 h)) (QFs.cons (QF.of U (fun _ _ A h=>R.loadAgg C U (A.w U U) (A.x U U) G27 B27 V Tk5 h)) QFs.nil)), ?_⟩
        refine De 2 (some 20) [true,true] hok (fun _ _ A hk=>?_)
        refine R.alloc C U (A.w U U) K27 U fun p20=>hk _ _ ⟨(QFs.cons (QF.of U (fun _ _ A h=>R.loadAgg C U (A.w U U) (A.x U U) G27 B27 V Tk5 h)) (QFs.cons (QF.of U (fun _ _ A h=>R.loadAgg C U (A.w U U) (A.x U U) G27 B27 V Tk5 h)) QFs.nil)), ?_⟩
        refine De 4 none [true,false] hok (fun _ _ A hk=>?_)
        refine R.store C U (A.w U U) (A.x U U) (A.x U U) B27 U U U V Ph5 (hk undef _ ⟨(QFs.cons (QF.of U (fun _ _ A h=>R.loadAgg C U (A.w U U) (A.x U U) G27 B27 V Tk5 h)) QFs.nil), ?_⟩)
        refine De 5 none [false] hok (fun _ _ A hk=>?_)
        refine R.store C U (A.w U U) (A.x U U) (A.x U U) B27 U U U V Ph5 (hk undef _ ⟨QFs.nil, ?_⟩)
        refine Dn<|X.perm C.1 (List.Perm.swap _ _ _)<|X.weaken ?_ (hcont (p20,p21) trivial)
        exact⟨U,U,U,U,U,U,U,trivial⟩
      obtain⟨p20,p21⟩:=s
      clear hsx
      simp only
      have hup2:Up {b.noTests with w:=a} {b.noTests with w:=a2}:=winch_up (b:=b.noTests) h1 rfl O O f1
      have hva:B.BkV ro (.agg [.int .i64 a, .slice pb b.ps.length pc, .slice gb b.gs.length gc, .slice cb b.cs.length cc, .slice none 0 0].toArray) {b.noTests with w:=a}:=⟨_,_,_,_,rfl,hp,hg,hc, .nil⟩
      have hva2:B.BkV ro (.agg [.int .i64 a2, .slice pb b.ps.length pc, .slice gb b.gs.length gc, .slice cb b.cs.length cc, .slice none 0 0].toArray) {b.noTests with w:=a2}:=⟨_,_,_,_,rfl,hp,hg,hc, .nil⟩
      refine Xv<|Xf fun hok=>Dh 0 0 Y A45 U B3<|Db 1 W G3 V U<|Dh 0 2 Y A45 U B3<|Db 3 W G3 V U<|Dh 0 4 Y A27 U B3<|De 5 none [true,false] hok (fun _ _ A hk=>?_)
      refine R.store C U (A.w U U) (A.x U U) (A.x U U) B3 U U U V (.here .nil) (hk undef _ ⟨(QFs.cons (QF.of U (fun _ _ A h=>R.loadOne C U (A.w U U) (A.x U U) G3 V U h)) QFs.nil), ?_⟩)
      refine Dh 0 6 Y A27 U B3<|De 7 none [false] hok (fun _ _ A hk=>?_)
      refine R.store C U (A.w U U) (A.x U U) (A.x U U) B3 U U U V (.here .nil) (hk undef _ ⟨QFs.nil, ?_⟩)
      refine Dn<|Xv<|Xf fun hok=>D5 C 0 hok U U G27 B27 V Tk5<|D5 C 1 hok U U G27 B27 V Tk5<|Dt 2 Y<|Dp 3 hok (fun _ _ _ A h=>R.convInt C U (A.w U U) (A.x U U) A5 A3 (wrap64 O O) h)<|Dh 2 4 Y A27 U B23<|Db 5 W G23 V U<|Ds C 6 hok U U A23<|Dj 7 Y5 (b_remP O O)<|Dt 8 Y<|De 9 (some 114) [true,true,true] hok (fun _ _ A hk=>?_)
      refine R.callP C U (A.w U U) (A.x U U) (A.s U U) (loadR_c hJ O _) (hk _ _ ⟨(QFs.cons (QF.of U (fun _ _ A h=>R.loadOne C U (A.w U U) (A.x U U) G23 V U h)) (QFs.cons (QF.of U (fun _ _ A h=>R.loadAgg C U (A.w U U) (A.x U U) G27 B27 V Tk5 h)) (QFs.cons (QF.of U (fun _ _ A h=>R.loadAgg C U (A.w U U) (A.x U U) G27 B27 V Tk5 h)) QFs.nil))), ?_⟩)
      refine De 10 (some 115) [false,false,false] hok (fun _ _ A hk=>?_)
      refine R.callR C U (A.w U U) (A.x U U) (A.s U U) ((noLessR_c (he.mono k5) (hva.mono k5) (hva2.mono k5) hup2.hb hup2.hc (bare_cases (B.good_of hup2.hb) hup2.tb) (bare_cases (B.good_of hup2.hc) hup2.tc) hup2.noLess (emod_in hng.1) loadOf_bd)) fun v6 ro6 hl6 hq6=>hk _ _ ⟨QFs.nil, ?_⟩
      subst hq6
      have k6:=RO.le_trans k5 hl6
      refine Dt 11 Y<|D.fixv (t:=116) (v':= .bool true) U (by rfl)<|De 12 (some 117) [] hok (fun _ _ A hk=>?_)
      refine R.callR C U (A.w U U) (A.x U U) (A.s U U) ((hoisted_c _ (he.mono k6))) fun v9 ro9 hl9 hq9=>hk _ _ ⟨QFs.nil, ?_⟩
      refine Dp 13 hok (fun _ _ _ A h=>R.pickT C U (A.w U U) (A.x U U) (A.x U U) h)<|Da C 14 hok U U<|Dn<|X.ret0 C Kr U U F3 U (by exact(.tmp U .nil)) fun w9 hs9=>hret _ _ _ (RO.le_trans k6 hl9) ?_ w9 hs9
      exact hq9
  ·have _:=h1
   refine Xu W<|Bx Z fun p6=>Bx Z fun p7=>Bx Z fun p8=>Ae W<|Xu W<|Rv 4 W A27 U B25<|Rs Z B25 Y V (.skip (.skip (.skip (.skip (.here .nil)))))<|Rz<|Xx W<|Rq W G27 B27 V Tk5<|Cp Z (B.fitR_c hJ hvv)<|Rh Y<|FF 25 U (by(rw [h1];rfl))<|Ro W<|Rq W G34 B34 V Tk6<|Cp Z (fitR_c hJ hvu0)<|Rh Y<|FT 29 U (by(rw [Bool.eq_false_iff.2 h2];rfl))<|Pf Z<|Ro W<|Rp W<|Rp W<|Rp W<|Rp W<|Pp Z<|Zc U (fun _=>?_) (fun h=>nomatch h)
   refine Xu W<|R.callR C U U U U ((hoisted_c _ he)) fun v9 ro9 hl9 hq9=>Ae W<|X.ret0 C Kr U U F3 U (by exact(.tmp U .nil)) fun w9 hs9=>hret _ _ _ hl9 ?_ w9 hs9
   exact hq9
 ·have _:=h1
  refine Xu W<|Bx Z fun p6=>Bx Z fun p7=>Bx Z fun p8=>Ae W<|Xu W<|Rv 4 W A27 U B25<|Rs Z B25 Y V (.skip (.skip (.skip (.skip (.here .nil)))))<|Rz<|Xx W<|Rq W G27 B27 V Tk5<|Cp Z (B.fitR_c hJ hvv)<|Rh Y<|FT 25 U (by(rw [beq_eq_false_iff_ne.2 h1];rfl))<|Ro W<|Rp W<|Rp W<|Rp W<|Pp Z<|Ro W<|Rp W<|Rp W<|Rp W<|Rp W<|Pp Z<|Zc U (fun _=>?_) (fun h=>nomatch h)
  refine Xu W<|R.callR C U U U U ((hoisted_c _ he)) fun v9 ro9 hl9 hq9=>Ae W<|X.ret0 C Kr U U F3 U (by exact(.tmp U .nil)) fun w9 hs9=>hret _ _ _ hl9 ?_ w9 hs9
  exact hq9
end Go.Lg.S
namespace Go.Lg.S
open Go Go.Conc Go.Lg Go.Proofs Go.WideShapes Go.ChangeShapes Go.Lg.B Go.Proofs.Tryz
variable {b0 n:Nat}{cs:List Value}{r:Reach}{v:Value}{p:List MemPlace}
theorem cells28:prog.cellsOf 28=1:=by kernel_rfl
theorem cells29:prog.cellsOf 29=1:=by kernel_rfl
theorem cells30:prog.cellsOf 30=1:=by kernel_rfl
theorem cells31:prog.cellsOf 31=1:=by kernel_rfl
theorem cells32:prog.cellsOf 32=1:=by kernel_rfl
theorem cells34:prog.cellsOf 34=6:=by kernel_rfl
theorem cells36:prog.cellsOf 36=3:=by kernel_rfl
theorem cells254:prog.cellsOf 254=2:=by kernel_rfl
theorem cells256:prog.cellsOf 256=4:=by kernel_rfl
theorem cells286:prog.cellsOf 286=2:=by kernel_rfl
section
variable {H:Type}{enc0:TypeId×Value→H}{W:World}{base:Nat}{sp:Nat→Bool}{held:Bool}
theorem sd_of{z:DataW H×List MemPlace}(h:DataW.trod enc0 prog W base sp held n 36 cs=some z):∃s:Sd,cs=s.cells:=by
 obtain⟨hl,hf⟩:=field_of N36 h
 rw [cells36] at hl
 match cs,hl with
 | [a,c,d],_=>
  have g0:∃n z,DataW.trod enc0 prog W base sp held n 3 (([a,c,d].drop 0).take (prog.cellsOf 3))=some z:=hf 0 _ rfl
  rw [cells3] at g0
  obtain⟨_,_,h0⟩:=g0
  have g1:∃n z,DataW.trod enc0 prog W base sp held n 3 (([a,c,d].drop 1).take (prog.cellsOf 3))=some z:=hf 1 _ rfl
  rw [cells3] at g1
  obtain⟨_,_,h1⟩:=g1
  have g2:∃n z,DataW.trod enc0 prog W base sp held n 4 (([a,c,d].drop 2).take (prog.cellsOf 4))=some z:=hf 2 _ rfl
  rw [cells4] at g2
  obtain⟨_,_,h2⟩:=g2
  obtain⟨x0,e0,_⟩:=int_of_trod N3 h0
  obtain⟨x1,e1,_⟩:=int_of_trod N3 h1
  obtain⟨x2,e2⟩:=bool_of_trod N4 h2
  simp [Rc.cells] at e0 e1 e2
  subst e0
  subst e1
  subst e2
  exact⟨⟨x0,x1,x2⟩,rfl⟩
theorem mn_of{z:DataW H×List MemPlace}(h:DataW.trod enc0 prog W base sp held n 254 cs=some z):∃s:Mn,cs=s.cells:=by
 obtain⟨hl,hf⟩:=field_of underlying254 h
 rw [cells254] at hl
 match cs,hl with
 | [a,c],_=>
  have g0:∃n z,DataW.trod enc0 prog W base sp held n 9 (([a,c].drop 0).take (prog.cellsOf 9))=some z:=hf 0 _ rfl
  rw [cells9] at g0
  obtain⟨_,_,h0⟩:=g0
  have g1:∃n z,DataW.trod enc0 prog W base sp held n 3 (([a,c].drop 1).take (prog.cellsOf 3))=some z:=hf 1 _ rfl
  rw [cells3] at g1
  obtain⟨_,_,h1⟩:=g1
  obtain⟨x0,e0⟩:=str_of h0
  obtain⟨x1,e1,_⟩:=int_of_trod N3 h1
  simp [Rc.cells] at e0 e1
  subst e0
  subst e1
  exact⟨⟨x0,x1⟩,rfl⟩
theorem rw_of{z:DataW H×List MemPlace}(h:DataW.trod enc0 prog W base sp held n 286 cs=some z):∃s:Rw,cs=s.cells:=by
 obtain⟨hl,hf⟩:=field_of underlying286 h
 rw [cells286] at hl
 match cs,hl with
 | [a,c],_=>
  have g0:∃n z,DataW.trod enc0 prog W base sp held n 3 (([a,c].drop 0).take (prog.cellsOf 3))=some z:=hf 0 _ rfl
  rw [cells3] at g0
  obtain⟨_,_,h0⟩:=g0
  have g1:∃n z,DataW.trod enc0 prog W base sp held n 3 (([a,c].drop 1).take (prog.cellsOf 3))=some z:=hf 1 _ rfl
  rw [cells3] at g1
  obtain⟨_,_,h1⟩:=g1
  obtain⟨x0,e0,_⟩:=int_of_trod N3 h0
  obtain⟨x1,e1,_⟩:=int_of_trod N3 h1
  simp [Rc.cells] at e0 e1
  subst e0
  subst e1
  exact⟨⟨x0,x1⟩,rfl⟩
theorem dv_of{z:DataW H×List MemPlace}(h:DataW.trod enc0 prog W base sp held n 256 cs=some z):∃s:Dv,cs=s.cells:=by
 obtain⟨hl,hf⟩:=field_of underlying256 h
 rw [cells256] at hl
 match cs,hl with
 | [a,c,d,e],_=>
  have g0:∃n z,DataW.trod enc0 prog W base sp held n 3 (([a,c,d,e].drop 0).take (prog.cellsOf 3))=some z:=hf 0 _ rfl
  rw [cells3] at g0
  obtain⟨_,_,h0⟩:=g0
  have g1:∃n z,DataW.trod enc0 prog W base sp held n 3 (([a,c,d,e].drop 1).take (prog.cellsOf 3))=some z:=hf 1 _ rfl
  rw [cells3] at g1
  obtain⟨_,_,h1⟩:=g1
  have g2:∃n z,DataW.trod enc0 prog W base sp held n 3 (([a,c,d,e].drop 2).take (prog.cellsOf 3))=some z:=hf 2 _ rfl
  rw [cells3] at g2
  obtain⟨_,_,h2⟩:=g2
  have g3:∃n z,DataW.trod enc0 prog W base sp held n 3 (([a,c,d,e].drop 3).take (prog.cellsOf 3))=some z:=hf 3 _ rfl
  rw [cells3] at g3
  obtain⟨_,_,h3⟩:=g3
  obtain⟨x0,e0,_⟩:=int_of_trod N3 h0
  obtain⟨x1,e1,_⟩:=int_of_trod N3 h1
  obtain⟨x2,e2,_⟩:=int_of_trod N3 h2
  obtain⟨x3,e3,_⟩:=int_of_trod N3 h3
  simp [Rc.cells] at e0 e1 e2 e3
  subst e0
  subst e1
  subst e2
  subst e3
  exact⟨⟨x0,x1,x2,x3⟩,rfl⟩
theorem rws_of{z:DataW H×List MemPlace}(h:DataW.trod enc0 prog W base sp held n 28 cs=some z):∃v xs,cs= [v]∧Ls Rw.cells 2 (fun b=>W.heap[b]?) v xs∧capOk v:=by
 obtain⟨v,xs,rfl,hl⟩:=ls_of_trod underlying28 cells286 Dd Rw.len (fun _ _ _ h=>rw_of h) h
 obtain⟨v',e,hc⟩:=cap_of_trod underlying28 h
 cases e
 exact⟨_,_,rfl,hl,hc⟩
theorem rcs_of{z:DataW H×List MemPlace}(h:DataW.trod enc0 prog W base sp held n 29 cs=some z):∃v xs,cs= [v]∧Ls Rc.cells 2 (fun b=>W.heap[b]?) v xs∧capOk v:=by
 obtain⟨v,xs,rfl,hl⟩:=ls_of_trod underlying29 cells45 Dd (fun _=>rfl) (fun _ _ _ h=>rc_of h) h
 obtain⟨v',e,hc⟩:=cap_of_trod underlying29 h
 cases e
 exact⟨_,_,rfl,hl,hc⟩
theorem mns_of{z:DataW H×List MemPlace}(h:DataW.trod enc0 prog W base sp held n 30 cs=some z):∃v xs,cs= [v]∧Ls Mn.cells 2 (fun b=>W.heap[b]?) v xs∧capOk v:=by
 obtain⟨v,xs,rfl,hl⟩:=ls_of_trod underlying30 cells254 Dd Mn.len (fun _ _ _ h=>mn_of h) h
 obtain⟨v',e,hc⟩:=cap_of_trod underlying30 h
 cases e
 exact⟨_,_,rfl,hl,hc⟩
theorem dvs_of{z:DataW H×List MemPlace}(h:DataW.trod enc0 prog W base sp held n 31 cs=some z):∃v xs,cs= [v]∧Ls Dv.cells 4 (fun b=>W.heap[b]?) v xs∧capOk v:=by
 obtain⟨v,xs,rfl,hl⟩:=ls_of_trod underlying31 cells256 Dd Dv.len (fun _ _ _ h=>dv_of h) h
 obtain⟨v',e,hc⟩:=cap_of_trod underlying31 h
 cases e
 exact⟨_,_,rfl,hl,hc⟩
theorem sds_of{z:DataW H×List MemPlace}(h:DataW.trod enc0 prog W base sp held n 32 cs=some z):∃v xs,cs= [v]∧Ls Sd.cells 3 (fun b=>W.heap[b]?) v xs∧capOk v:=by
 obtain⟨v,xs,rfl,hl⟩:=ls_of_trod underlying32 cells36 Dd Sd.len (fun _ _ _ h=>sd_of h) h
 obtain⟨v',e,hc⟩:=cap_of_trod underlying32 h
 cases e
 exact⟨_,_,rfl,hl,hc⟩
theorem argSd{d:DataW H}(hv:Value.okWide prog W r b0 36 v)(h:DataW.Trod enc0 prog W base sp held 36 v d p):∃s:Sd,v=s.val:=by
 obtain⟨⟨cs⟩,rfl,_⟩:=okWide_struct N36 hv
 obtain⟨n,h⟩:=h
 obtain⟨hl,hf⟩:=field_of (cs:=cs) N36 h
 rw [cells36] at hl
 match cs,hl with
 | [a,c,d],_=>
  have g0:∃n z,DataW.trod enc0 prog W base sp held n 3 (([a,c,d].drop 0).take (prog.cellsOf 3))=some z:=hf 0 _ rfl
  rw [cells3] at g0
  obtain⟨_,_,h0⟩:=g0
  have g1:∃n z,DataW.trod enc0 prog W base sp held n 3 (([a,c,d].drop 1).take (prog.cellsOf 3))=some z:=hf 1 _ rfl
  rw [cells3] at g1
  obtain⟨_,_,h1⟩:=g1
  have g2:∃n z,DataW.trod enc0 prog W base sp held n 4 (([a,c,d].drop 2).take (prog.cellsOf 4))=some z:=hf 2 _ rfl
  rw [cells4] at g2
  obtain⟨_,_,h2⟩:=g2
  obtain⟨x0,e0,_⟩:=int_of_trod N3 h0
  obtain⟨x1,e1,_⟩:=int_of_trod N3 h1
  obtain⟨x2,e2⟩:=bool_of_trod N4 h2
  simp [Rc.cells] at e0 e1 e2
  subst e0
  subst e1
  subst e2
  exact⟨⟨x0,x1,x2⟩,rfl⟩
theorem argBk{d:DataW H}(hv:Value.okWide prog W r b0 34 v)(h:DataW.Trod enc0 prog W base sp held 34 v d p):∃b,BkV (fun b=>W.heap[b]?) v b:=by
 obtain⟨⟨cs⟩,rfl,_⟩:=okWide_struct underlying34 hv
 obtain⟨n,h⟩:=h
 obtain⟨hl,hf⟩:=field_of (cs:=cs) underlying34 h
 rw [cells34] at hl
 match cs,hl with
 | [a,c,d,e,f,g],_=>
  have g0:∃n z,DataW.trod enc0 prog W base sp held n 3 (([a,c,d,e,f,g].drop 0).take (prog.cellsOf 3))=some z:=hf 0 _ rfl
  rw [cells3] at g0
  obtain⟨_,_,h0⟩:=g0
  have g1:∃n z,DataW.trod enc0 prog W base sp held n 28 (([a,c,d,e,f,g].drop 1).take (prog.cellsOf 28))=some z:=hf 1 _ rfl
  rw [cells28] at g1
  obtain⟨_,_,h1⟩:=g1
  have g2:∃n z,DataW.trod enc0 prog W base sp held n 29 (([a,c,d,e,f,g].drop 2).take (prog.cellsOf 29))=some z:=hf 2 _ rfl
  rw [cells29] at g2
  obtain⟨_,_,h2⟩:=g2
  have g3:∃n z,DataW.trod enc0 prog W base sp held n 30 (([a,c,d,e,f,g].drop 3).take (prog.cellsOf 30))=some z:=hf 3 _ rfl
  rw [cells30] at g3
  obtain⟨_,_,h3⟩:=g3
  have g4:∃n z,DataW.trod enc0 prog W base sp held n 31 (([a,c,d,e,f,g].drop 4).take (prog.cellsOf 31))=some z:=hf 4 _ rfl
  rw [cells31] at g4
  obtain⟨_,_,h4⟩:=g4
  have g5:∃n z,DataW.trod enc0 prog W base sp held n 32 (([a,c,d,e,f,g].drop 5).take (prog.cellsOf 32))=some z:=hf 5 _ rfl
  rw [cells32] at g5
  obtain⟨_,_,h5⟩:=g5
  obtain⟨x0,e0,_⟩:=int_of_trod N3 h0
  obtain⟨v1,x1,e1,l1,m1⟩:=rws_of h1
  obtain⟨v2,x2,e2,l2,m2⟩:=rcs_of h2
  obtain⟨v3,x3,e3,l3,m3⟩:=mns_of h3
  obtain⟨v4,x4,e4,l4,m4⟩:=dvs_of h4
  obtain⟨v5,x5,e5,l5,m5⟩:=sds_of h5
  simp [Rc.cells] at e0 e1 e2 e3 e4 e5
  subst e0
  subst e1
  subst e2
  subst e3
  subst e4
  subst e5
  exact⟨⟨x0,x1,x2,x3,x4,x5⟩,_,_,_,_,_,rfl,l1,l2,l3,l4,l5,m3⟩
end
end Go.Lg.S
namespace Go.Lg.B
open Go Go.Conc Go.Lg Go.Proofs Go.Proofs.YtfohpddpboaejaaGreatDoor Go.Proofs.Tryz
theorem g_stint:prog.globalNamed "lagan/stint.checks" =some 0:=by kernel_rfl
theorem t_stint:(prog.globals[0]?).map (·.type)=some 281:=by kernel_rfl
theorem c_stint1:prog.cellsOf 133=1:=by kernel_rfl
theorem c_stint:prog.cellsOf 281=6:=by kernel_rfl
theorem env_stint{W:World}{lst:List (String×DataW Unit)}(h:laidMetH prog lst W)(hm:("lagan/stint.checks",Rows.laid_lagan_stint_checks)∈lst):S.Env (fun b=>W.heap[b]?):=by
 obtain⟨g,t,cs,fuel,p,hg,ht,hv,hd⟩:=h.funcs hm
 obtain rfl:=Option.some.inj (g_stint.symm.trans hg)
 obtain rfl:=Option.some.inj (t_stint.symm.trans ht)
 have hd':DataW.trod (funcToken prog) prog W 0 (fun _=>true) true fuel 281 cs.toList=some (.agg [.held [40,108,97,103,97,110,47,115,116,105,110,116,46,98,111,111,107,41,46,114,101,115,116], .held [40,108,97,103,97,110,47,115,116,105,110,116,46,98,111,111,107,41,46,116,97,98,108,101], .held [40,108,97,103,97,110,47,115,116,105,110,116,46,98,111,111,107,41,46,112,108,97,99,101,115], .held [40,108,97,103,97,110,47,115,116,105,110,116,46,98,111,111,107,41,46,109,101,110], .held [40,108,97,103,97,110,47,115,116,105,110,116,46,98,111,111,107,41,46,100,105,118,101,115], .held [40,108,97,103,97,110,47,115,116,105,110,116,46,98,111,111,107,41,46,115,111,117,110,100,105,110,103,115]],p):=hd
 obtain⟨xs,m,_,hx,hl,hn,hel⟩:=DataW.trod_array underlying281 hd'
 rw [c_stint] at hl
 obtain⟨v0,v1,v2,v3,v4,v5,hcs⟩:∃v0 v1 v2 v3 v4 v5,cs.toList= [v0,v1,v2,v3,v4,v5]:=by
  match h:cs.toList,hl with
  | [a,b,c,d,e,f],_=>exact⟨a,b,c,d,e,f,rfl⟩
 obtain⟨x0,x1,x2,x3,x4,x5,rfl⟩:∃x0 x1 x2 x3 x4 x5,xs= [x0,x1,x2,x3,x4,x5]:=by
  match xs,hn with
  | [a,b,c,d,e,f],_=>exact⟨a,b,c,d,e,f,rfl⟩
 simp only [Prod.mk.injEq,DataW.agg.injEq,List.map_cons,List.map_nil,List.cons.injEq,and_true] at hx
 obtain⟨⟨h0,h1,h2,h3,h4,h5⟩,_⟩:=hx
 have e0:=hel 0 O
 have e1:=hel 1 O
 have e2:=hel 2 O
 have e3:=hel 3 O
 have e4:=hel 4 O
 have e5:=hel 5 O
 obtain⟨d0,q0⟩:=x0
 obtain⟨d1,q1⟩:=x1
 obtain⟨d2,q2⟩:=x2
 obtain⟨d3,q3⟩:=x3
 obtain⟨d4,q4⟩:=x4
 obtain⟨d5,q5⟩:=x5
 simp only at h0 h1 h2 h3 h4 h5
 subst h0
 subst h1
 subst h2
 subst h3
 subst h4
 subst h5
 rw [c_stint1,hcs] at e0 e1 e2 e3 e4 e5
 have f0:=func_of_trod (f0:=347) N133 Kr (show DataW.trod (funcToken prog) prog W 0 (fun _=>true) true m 133 [v0]=some (_,q0) from e0)
 have f1:=func_of_trod (f0:=348) N133 Kr (show DataW.trod (funcToken prog) prog W 0 (fun _=>true) true m 133 [v1]=some (_,q1) from e1)
 have f2:=func_of_trod (f0:=349) N133 Kr (show DataW.trod (funcToken prog) prog W 0 (fun _=>true) true m 133 [v2]=some (_,q2) from e2)
 have f3:=func_of_trod (f0:=350) N133 Kr (show DataW.trod (funcToken prog) prog W 0 (fun _=>true) true m 133 [v3]=some (_,q3) from e3)
 have f4:=func_of_trod (f0:=351) N133 Kr (show DataW.trod (funcToken prog) prog W 0 (fun _=>true) true m 133 [v4]=some (_,q4) from e4)
 have f5:=func_of_trod (f0:=352) N133 Kr (show DataW.trod (funcToken prog) prog W 0 (fun _=>true) true m 133 [v5]=some (_,q5) from e5)
 subst f0
 subst f1
 subst f2
 subst f3
 subst f4
 subst f5
 unfold World.var? at hv
 rw [g_stint] at hv
 simp only [Option.bind_some] at hv
 split at hv
 ·rename_i c t fq hc
  cases hv
  refine⟨t,fq, ?_⟩
  show W.heap[0]? =_
  rw [hc, ←hcs]
 ·cases hv
abbrev laid_stint_tackle:List (String×DataW Unit):= [("lagan/stint.checks",Rows.laid_lagan_stint_checks),("lagan/tackle.checks",Rows.laid_lagan_tackle_checks)]
theorem met_stint_tackle(os:Os)(args:Array Value):laidMetH prog laid_stint_tackle ((World.doorLaid prog 89 os).forCall (fun _ _=>0) ⟨#[],args, []⟩).memory:=
 laidMetH_of_parts3 (fuel:=8) (laidMet_of_run' 8 Kr Kr) Kr Kr
end Go.Lg.B
namespace Go.Lg.B
open Go Go.Proofs Go.Proofs.YtfohpddpboaejaaGreatDoor Go.Proofs.Tryz
theorem manned_k1:(Rows.tackleMannedRow.inPlace==prog.inPlace 3)=true:=by kernel_rfl
theorem manned_k2:(Rows.tackleMannedRow.unfollowed==prog.unfollowed 3)=true:=by kernel_rfl
theorem manned_k3:(Rows.tackleMannedRow.recurses==prog.recurses 3)=true:=by kernel_rfl
theorem manned_k4:(Rows.tackleMannedRow.named==prog.varsNamed 3)=true:=by kernel_rfl
theorem manned_name:prog.funcNamed "lagan/laganlaw07.TackleManned" =some 3:=by kernel_rfl
theorem manned_goes:true=Rows.tackleMannedRow.goesBy prog:=by kernel_rfl
theorem manned_wf:Rows.tackleMannedRow.wfByText (OpenSpec.ofChange Rows.tackleMannedSpec)=true:=by kernel_rfl
theorem manned_facts:joinedFacts prog 3 Tryz.f3 Rows.tackleMannedSpec Rows.tackleMannedRow=true:=by
 unfold joinedFacts
 exact(and_mk (and_mk (and_mk (and_mk (and_mk (and_mk (and_mk (and_mk (and_mk (and_mk (and_mk (and_mk (and_mk (and_mk (and_mk (and_mk (and_mk (and_mk (and_mk (and_mk (and_mk (and_mk (and_mk (and_mk (and_mk (and_mk (and_mk (and_mk (and_mk (and_mk (and_mk (by as_aux_lemma=>kernel_rfl)
  k_lo)
  k_mr)
  (by as_aux_lemma=>kernel_rfl))
  (by as_aux_lemma=>kernel_rfl))
  (by as_aux_lemma=>kernel_rfl))
  k_stops)
  (by as_aux_lemma=>kernel_rfl))
  k_knobs)
  manned_k1)
  manned_k2)
  manned_k3)
  manned_k4)
  (by as_aux_lemma=>kernel_rfl))
  (by as_aux_lemma=>kernel_rfl))
  (by as_aux_lemma=>kernel_rfl))
  (by as_aux_lemma=>kernel_rfl))
  (by as_aux_lemma=>kernel_rfl))
  (by as_aux_lemma=>kernel_rfl))
  (by as_aux_lemma=>kernel_rfl))
  (by as_aux_lemma=>kernel_rfl))
  (by as_aux_lemma=>kernel_rfl))
  (beq_iff_eq.2 k_pk.symm))
  (by as_aux_lemma=>kernel_rfl))
  k_heard)
  k_may)
  (beq_iff_eq.2 k_lift.symm))
  (beq_iff_eq.2 k_make))
  (by as_aux_lemma=>kernel_rfl))
  (by as_aux_lemma=>kernel_rfl))
  (by as_aux_lemma=>kernel_rfl))
  (by as_aux_lemma=>kernel_rfl))
end Go.Lg.B
namespace Go.Proofs.YtfohpddpboaejaaGreatDoor
open Go Go.Conc Go.Lg Go.Lg.B Go.ChangeShapes Go.RowKit Go.WideShapes
theorem manned_lifted(os:Os)(started:os.Started)(H:Type)(enc:TypeId×Value→H):
  ReturnsInLeavingWide {} Tryz.checked os 3 .any (fun w args=>(Rows.tackleMannedSpec.pre enc Tryz.prog Tryz.f3 [] false w args∧laidMetH Tryz.prog laid_stint_tackle w)∧sizedMet enc Tryz.prog Tryz.f3 (OpenSpec.ofChange Rows.tackleMannedSpec) false w args)
   (Rows.tackleMannedSpec.post enc Tryz.prog Tryz.f3 false true false false):=by
 refine leaving_of_root (C:=Tryz.checked) (tb:=4) (X:=fun w _=>laidMetH Tryz.prog laid_stint_tackle w) (fun _ _ _ hh h=>h.of_heap hh) own0 started Tryz.func3 laid0 (by
   intro t ht
   rw [Tryz.params3] at ht
   have hm:t∈ [27,34,36,5,5,5]:=ht
   have hall:([27,34,36,5,5,5].all fun u=>Tryz.prog.readableRec u && decide (u<Tryz.prog.types.size))=true:=by kernel_rfl
   have:=List.all_eq_true.1 hall t hm
   rw [Bool.and_eq_true,decide_eq_true_eq] at this
   exact this) rfl Kr Tryz.underlying4
  (ChangeSpec.witness_shaped (enc:=enc) (C:=Tryz.checked) (os:=os) (X:=fun w _=>laidMetH Tryz.prog laid_stint_tackle w) false (World.doorLaid Tryz.prog 89 os) #[.agg #[.int .i64 0, .slice none 0 0, .slice none 0 0, .slice none 0 0, .slice none 0 0], .agg #[.int .i64 0, .slice none 0 0, .slice none 0 0, .slice none 0 0, .slice none 0 0, .slice none 0 0], .agg #[.int .i64 0, .int .i64 0, .bool false], .int .u8 0, .int .u8 0, .int .u8 0] 8 rfl (door_shaped os _) Kr Kr Kr (met_stint_tackle os _)) ?_
 intro W base args ds gs before hval hW _ _ hL
 obtain⟨p,q,hA,hV,rfl,_,_⟩:=hW
 obtain⟨rfl,rfl⟩:=trodVars_none hV
 have hA:DataW.TrodAll enc Tryz.prog W 0 (fun _=>true) true Tryz.f3.params.toList args.toList ds p:=hA
 have hval:∀ (j:Nat) t v,Tryz.f3.params[j]? =some t→args[j]? =some v→Value.okWide Tryz.prog W .any base t v:=hval
 rw [Tryz.params3] at hA hval
 obtain⟨v1,l1,d1,k1,p1,q1,e1,rfl,rfl,h1,hA⟩:=trodAll_cons hA
 obtain⟨v2,l2,d2,k2,p2,q2,rfl,rfl,rfl,h2,hA⟩:=trodAll_cons hA
 obtain⟨v3,l3,d3,k3,p3,q3,rfl,rfl,rfl,h3,hA⟩:=trodAll_cons hA
 obtain⟨v4,l4,d4,k4,p4,q4,rfl,rfl,rfl,h4,hA⟩:=trodAll_cons hA
 obtain⟨v5,l5,d5,k5,p5,q5,rfl,rfl,rfl,h5,hA⟩:=trodAll_cons hA
 obtain⟨v6,l6,d6,k6,p6,q6,rfl,rfl,rfl,h6,hA⟩:=trodAll_cons hA
 obtain⟨rfl,rfl,rfl⟩:=trodAll_nil hA
 have ea:args= #[v1,v2,v3,v4,v5,v6]:=Array.toList_inj.1 e1
 subst ea
 obtain⟨b,b1⟩:=argBk (hval 0 27 v1 rfl rfl) h1
 obtain⟨ch,b2⟩:=Go.Lg.S.argBk (hval 1 34 v2 rfl rfl) h2
 obtain⟨x,rfl⟩:=Go.Lg.S.argSd (hval 2 36 v3 rfl rfl) h3
 obtain⟨a1,rfl,o1⟩:=argU8 (hval 3 5 v4 rfl rfl) h4
 obtain⟨a2,rfl,o2⟩:=argU8 (hval 4 5 v5 rfl rfl) h5
 obtain⟨a3,rfl,o3⟩:=argU8 (hval 5 5 v6 rfl rfl) h6
 exact⟨rfl,Go.Lg.S.manned_root o1 o2 o3 (env_tackle hL Zi) (env_stint hL Zi) b1 b2⟩
theorem manned_row:Rows.TackleMannedSaid:=
 OpenClaim.holds_of_wide_leaving 3 Tryz.f3 rfl rfl rfl rfl rfl rfl rfl ⟨rfl,rfl,rfl,rfl,rfl⟩ rfl rfl rfl rfl rfl manned_name Tryz.func3 manned_facts
  (of_decide_eq_true Kr) (by unfold Func.isWrapper;first|(rw [if_pos (by decide+kernel)];kernel_rfl)|(rw [if_neg (by decide+kernel)];exact⟨rfl,rfl⟩))
  (fun os started H enc _=>manned_lifted os started H enc)
theorem manned_holds:Rows.TackleMannedCardSaid:=
 card_goes .later [.funcs, .funcs] true (true, "7268d481d5cd4890fc3e51dc004ed55463d6f3c1cbd9cf0add1e476a9c0c0c57") false
  manned_row manned_wf tackleManned_row_tie rfl ⟨rfl,rfl⟩ k_main rfl
  (fun f fn hf hfn=>by
   obtain rfl:f=3:=Option.some.inj (manned_name.symm.trans hf)|>.symm
   obtain rfl:fn=Tryz.f3:=(Option.some.inj (Tryz.func3.symm.trans hfn)).symm
   exact⟨k_looks,fun j t ht=>by
    rw [Tryz.params3] at ht
    have hm:t∈ [27,34,36,5,5,5]:=by simpa using Array.mem_of_getElem? ht
    have hall:([27,34,36,5,5,5].all fun u=> !Tryz.prog.wantsStandIn u)=true:=by kernel_rfl
    exact(show Tryz.prog.wantsStandIn t=false by simpa using List.all_eq_true.1 hall t hm)⟩)
  manned_goes
end Go.Proofs.YtfohpddpboaejaaGreatDoor
