/-
  A part of the proof of Hulled: what its functions reckon, and plain laws. Conditions: the premises that each theorem states.
-/
import Derived.Test.YtfohpddpboaejaaGreatDoorKF
set_option maxRecDepth 100000
set_option maxHeartbeats 2000000
set_option linter.all false
namespace Go.Lg.B
open Go Go.Conc Go.Lg Go.Proofs Go.Proofs.Tryz
section
variable {b:Bk}{i:Int}
def nothing:Bk:=⟨0, [], [], [], []⟩
def newB(b:Bk)(h:Int):Bk:=if h=0 then b else nothing
theorem noBk_v(ro:RO):BkV ro noBk nothing:=⟨_,_,_,_,rfl, .nil,⟨[], .nil,rfl,fun z hz=>by cases hz⟩, .nil, .nil⟩
theorem NewV.bk{ro:RO}{h:Int}{w:Value}(hn:NewV ro b h w):∃v,BkV ro v (newB b h)∧w= .tuple [v, .int .i64 h].toArray:=by
 rcases hn with⟨h0,rfl⟩|⟨rfl,v,hv,rfl⟩
 ·exact⟨_,by rw [newB,if_neg h0];exact noBk_v ro,rfl⟩
 ·exact⟨v,hv,rfl⟩
theorem piece_fine(hb:b.good)(h:0≤i∧i<b.cs.length):(b.piece i).fine:=by
 have hk:i.toNat<b.cs.length:=O
 have hp:b.piece i=b.cs[i.toNat]:=by simp [Bk.piece,List.getD_eq_getElem?_getD,hk]
 rw [hp];exact hb.cs _ (List.getElem_mem hk)
theorem fewer_weighed(h:0≤i∧i<b.cs.length)(y:Rc):Fewer b (b.weighed i.toNat ((b.piece i).r.meet y)):=
 ⟨rfl,rfl,List.length_modify ..,rfl,fun _=>rfl,by rw [cases_weighed h.1 h.2];exact List.filter_sublist⟩
theorem sub_part{off n m k:Nat}{l c:List Value}(h:Sub off (n+1) l c)(hk:k+m≤n+1)(hc:c.length=n+1):Sub (off+k) m l ((c.drop k).take m):=by
 have h1:=h.get n O
 rw [List.getElem?_eq_getElem (show n<c.length by omega)] at h1
 have h2:=(List.getElem?_eq_some_iff.1 h1).1
 refine Sub.of_get O (by rw [List.length_take,List.length_drop];omega) fun i hi=>?_
 rw [Nat.add_assoc,h.get (k+i) O,List.getElem?_take,if_pos hi,List.getElem?_drop]
end
section
structure Up(b c:Bk):Prop where
 hb:checkBook b=0
 hc:checkBook c=0
 tb:b.ts= []
 tc:c.ts= []
 w:b.w≤c.w
 gs:c.gs=b.gs
 sh:∀x,c.sheaves x=b.sheaves x
 np:c.ps.length=b.ps.length
 nc:c.cs.length=b.cs.length
 down:∀t∈cases c,∃t'∈cases b,(∀j:Nat,j<b.ps.length→nth t'.1 j≤nth t.1 j)∧∀j:Nat,j<b.cs.length→nth t.2 j≤nth t'.2 j
 up:∀t∈cases b,∃t'∈cases c,(∀j:Nat,j<b.ps.length→nth t.1 j≤nth t'.1 j)∧∀j:Nat,j<b.cs.length→nth t'.2 j≤nth t.2 j
variable {l:List Int}{i least more:Int}{b:Bk}{r y:Rc}
def spanL(l:List Int)(more least most:Int):Rc:=⟨max least (min most (l.getD 0 0+more)),max least (min most (l.getD (l.length-1) 0+more))⟩
theorem asc_ends:∀ {l:List Int},l.Pairwise (· < ·)→∀x∈l,l.getD 0 0≤x∧x≤l.getD (l.length-1) 0
 | [],_,x,hx=>by cases hx
 | [y],_,x,hx=>by
  rw [List.mem_singleton] at hx;subst hx
  exact⟨Int.le_refl _,Int.le_refl _⟩
 |y::z::l,h,x,hx=>by
  rw [List.pairwise_cons] at h
  have ih:=asc_ends h.2
  have e:(y::z::l).getD ((y::z::l).length-1) 0=(z::l).getD ((z::l).length-1) 0:=by
   show(y::z::l).getD (l.length+1) 0=(z::l).getD l.length 0
   rfl
  rw [e]
  show y≤x∧_
  rcases List.mem_cons.1 hx with rfl|hx
  ·have:=h.1 z Zi
   have:=ih z Zi
   omega
  ·have:=h.1 x hx
   have:=ih x hx
   omega
theorem ends_mem(hne:l≠ []):l.getD 0 0∈l∧l.getD (l.length-1) 0∈l:=by
 have hp:=List.length_pos_iff.2 hne
 rw [List.getD_eq_getElem?_getD,List.getElem?_eq_getElem hp,List.getD_eq_getElem?_getD,List.getElem?_eq_getElem (show l.length-1<l.length by omega)]
 exact⟨List.getElem_mem _,List.getElem_mem _⟩
theorem span_narrow{a c:Int}(ha:l.Pairwise (· < ·))(hne:l≠ [])(hin:∀x∈l,a≤x∧x≤c)(hw:c-a<3)(h0:0≤least∧least≤99):isNarrow (spanL l more least 99) least=true:=by
 obtain⟨m1,m2⟩:=ends_mem hne
 have h1:=hin _ m1
 have h2:=hin _ m2
 have h3:=asc_ends ha _ m1
 refine isNarrow_iff.2 ?_
 simp only [spanL]
 omega
theorem span_in{m:List Int}{most:Int}(ha:l.Pairwise (· < ·))(hne:m≠ [])(hin:∀x∈m,x∈l):(spanL l more least most).lo≤(spanL m more least most).lo∧(spanL m more least most).hi≤(spanL l more least most).hi:=by
 obtain⟨m1,m2⟩:=ends_mem hne
 have h1:=asc_ends ha _ (hin _ m1)
 have h2:=asc_ends ha _ (hin _ m2)
 simp only [spanL]
 omega
theorem modify_twice{α:Type}(l:List α)(i:Nat)(f g:α→α):(l.modify i f).modify i g=l.modify i fun x=>g (f x):=by
 refine List.ext_getElem? fun j=>?_
 simp only [List.getElem?_modify]
 by_cases e:i=j
 ·subst e;cases l[i]? <;>simp
 ·cases l[j]? <;>simp [e]
theorem weighed_r(h:0≤i∧i<b.cs.length)(r:Rc):((b.weighed i.toNat r).piece i).r=r:=by
 have hk:i.toNat<b.cs.length:=O
 simp [Bk.piece,Bk.weighed,List.getD_eq_getElem?_getD,List.getElem?_modify,hk]
theorem weighed_again(h:0≤i∧i<b.cs.length)(h1:r.lo≤y.lo)(h2:y.hi≤r.hi):(b.weighed i.toNat r).weighed i.toNat (((b.weighed i.toNat r).piece i).r.meet y)=b.weighed i.toNat y:=by
 have e:r.meet y=y:=by
  unfold Rc.meet
  rw [Int.max_eq_right h1,Int.min_eq_right h2]
 rw [weighed_r h,e]
 unfold Bk.weighed
 simp only
 rw [modify_twice]
theorem fewer_weighed2(h:0≤i∧i<b.cs.length)(h1:r.lo≤y.lo)(h2:y.hi≤r.hi):Fewer (b.weighed i.toNat r) (b.weighed i.toNat y):=by
 have:=fewer_weighed (b:=b.weighed i.toNat r) (i:=i) (by unfold Bk.weighed;simpa using h) y
 rwa [weighed_again h h1 h2] at this
end
section
section
variable {main:Bool}{J:Goroutine→Mem→Prop}(hJ:Closed prog main J)
include hJ
theorem spanned_c{l:List Int}{v:Value}{ro:RO}(hl:LsI ro v l)(hne:l≠ [])(hb:∀x∈l, -1000≤x∧x≤1000)(hn:l.length≤1000){more least most:Int}(h1:0≤more∧more≤1000):CallP prog J (fnv 83) [v, .int .i64 more, .int .i64 least, .int .i64 most] ro (spanL l more least most).val:=by
 have hp:=List.length_pos_iff.2 hne
 obtain⟨p,off,cap,ll,t,fq,rfl,hrop,hsub⟩:=hl.at ic_len hp
 have hlast:l.length-1<l.length:=O
 have g0:=ic_at hsub hp
 have g1:=ic_at hsub hlast
 have b0:=hb _ (List.getElem_mem hp)
 have b1:=hb _ (List.getElem_mem hlast)
 have e0:l.getD 0 0=l[0]:=by simp [List.getD_eq_getElem?_getD,hp]
 have e1:l.getD (l.length-1) 0=l[l.length-1]:=by simp [List.getD_eq_getElem?_getD,hlast]
 have er:spanL l more least most=⟨max least (min most (l[0]+more)),max least (min most (l[l.length-1]+more))⟩:=by rw [spanL,e0,e1]
 rw [er]
 generalize l[0]=x at g0 b0
 generalize l[l.length-1]=y at g1 b1
 have ei:(((l.length:Int) -1)).toNat=l.length-1:=O
 refine EP 31 hJ func83 W fun c cs tail hret C=>Xu W<|Al W K45 U fun p8=>Rz<|Xv<|Xf fun hok=>Dt 0 Y<|Dt 1 Y<|Dt 2 Y<|Dw 3 Y A58 B3<|Dl 4 hok (fun _ _ A h=>R.loadOneRo C U (A.w U U) (A.x U U) G3 hrop (by simpa using g0) h)<|Dt 5 Y<|Dj 6 Y5 (b_add O O)<|Dp 7 hok (fun _ _ _ A h=>R.min2 C U (A.w U U) (A.x U U) (A.x U U) h)<|Dp 8 hok (fun _ _ _ A h=>R.max2 C U (A.w U U) (A.x U U) (A.x U U) h)<|Dt 9 Y<|Dt 10 Y<|Dt 11 Y<|Dt 12 Y<|Ds C 13 hok U U A58<|Dj 14 Y5 (b_sub O O)<|Dw 15 Y A58 B3<|Dl 16 hok (fun _ _ A h=>R.loadOneRo C U (A.w U U) (A.x U U) G3 hrop (by rw [ei];exact g1) h)<|Dt 17 Y<|Dj 18 Y5 (b_add O O)<|Dp 19 hok (fun _ _ _ A h=>R.min2 C U (A.w U U) (A.x U U) (A.x U U) h)<|Dp 20 hok (fun _ _ _ A h=>R.max2 C U (A.w U U) (A.x U U) (A.x U U) h)<|De 21 (some 30) [false,false] hok (fun _ _ A hk=>?_)
 refine R.callP C U (A.w U U) (A.x U U) (A.s U U) (reach_c hJ _ _ _) (hk _ _ ⟨QFs.nil, ?_⟩)
 refine De 22 none [] hok (fun _ _ A hk=>?_)
 refine R.store C U (A.w U U) (A.x U U) (A.x U U) B45 U U U V Ph2 (hk undef _ ⟨QFs.nil, ?_⟩)
 refine Dn<|X.ret C U U func83 U (by exact(.agg U G45 B45 V Tk2 .nil))<|Hp hret ?_
 rfl
end
end
end Go.Lg.B
namespace Go.Lg.H
open Go Go.Conc Go.Lg Go.Proofs Go.Lg.B Go.Proofs.Tryz
structure Pc where
 nm:List UInt8
 arm:Int
 r:Rc
 on:List Int
 deriving DecidableEq
instance : Inhabited Pc := ⟨⟨[], 0, default, []⟩⟩
structure Hl where
 after:Int
 side:Int
 deriving DecidableEq
instance : Inhabited Hl := ⟨⟨0, 0⟩⟩
def Hl.cells(h:Hl):List Value:= [.int .i64 h.after, .int .i64 h.side]
abbrev Hl.val(h:Hl):Value:= .agg h.cells.toArray
theorem Hl.len(h:Hl):h.cells.length=2:=rfl
structure Bk where
 lim:Int
 bal:Rc
 ps:List Pc
 out:List Int
 hs:List Hl
 deriving DecidableEq
def isReach(x:Rc)(l m many:Int):Bool:=decide (l≤x.lo) && decide (x.lo≤x.hi) && decide (x.hi≤m) && decide (x.hi-x.lo<many)
def Bk.hullH(b:Bk):Int:=if !between b.lim 0 9999|| !isReach b.bal (-999) 999 3 then 1 else 0
def piecesGo:List (List UInt8)→List Pc→Int
 |_, []=>0
 |before,p::l=>if !isLabel p.nm then 4 else if p.nm∈before then 5 else if !between p.arm (-9) 9|| !isReach p.r 1 99 3 then 1 else if climbsH before.length none p.on≠0 then climbsH before.length none p.on else piecesGo (before++ [p.nm]) l
def Bk.piecesH(b:Bk):Int:=if !between (b.ps.length:Int) 1 5 then 2 else piecesGo [] b.ps
def Bk.isPiece(b:Bk)(n:Int):Bool:=between n 0 (b.ps.length-1)
def Bk.above(b:Bk)(k:Int):List Int:=((List.range b.ps.length).filter fun i=>k∈(b.ps.getD i default).on).map fun i:Nat=>(i:Int)
def Bk.free(b:Bk)(done:List Int)(k:Int):Bool:= !decide (k∈done) && !(b.above k).any fun n=> !decide (n∈done)
def Bk.liftGo(b:Bk):List Int→List Int→List Int×Int
 |done, []=>(done,0)
 |done,n::l=>if !b.isPiece n then(done,6) else if n∈done then(done,5) else if !b.free done n then(done,7) else b.liftGo (done++ [n]) l
def Bk.outH(b:Bk):Int:=(b.liftGo [] b.out).2
def heelsGo(m:Int):List Hl→Int
 | []=>0
 |x::l=>if !between x.after 0 m then 6 else if !(x.side==0||x.side==1||x.side==2) then 1 else heelsGo m l
def Bk.heelsH(b:Bk):Int:=if b.hs.length>4 then 2 else heelsGo b.out.length b.hs
def checkBook(b:Bk):Int:=if b.hullH≠0 then b.hullH else if b.piecesH≠0 then b.piecesH else if b.outH≠0 then b.outH else b.heelsH
abbrev Cg:=Int×List Int
variable {b:Bk}{x:Hl}{t:Cg}{i:Int}
def momGo(done ws:List Int):Nat→Int→List Pc→Int
 |_,n, []=>n
 |i,n,p::l=>momGo done ws (i+1) (if(i:Int)∈done then n else n+p.arm*ws.getD i 0) l
def moment(b:Bk)(c:Cg)(done:List Int):Int:=momGo done c.2 0 c.1 b.ps
def sideOf(n:Int):Int:=if 0<n then 2 else if n<0 then 1 else 0
def rolls(b:Bk)(n:Int):Bool:=decide (b.lim<max n (-n))
def seenAt(b:Bk)(c:Cg)(n:Nat):Bool:= !(rolls b (moment b c (b.out.take n))||b.hs.any fun h=>h.after==(n:Int) && h.side !=sideOf (moment b c (b.out.take n)))
def seen(b:Bk)(c:Cg):Bool:=(List.range (b.out.length+1)).all (seenAt b c)
def cases(b:Bk):List Cg:=b.bal.nums.flatMap fun n=>((spread (b.ps.map Pc.r)).map fun w=>(n,w)).filter (seen b)
def weightsOf(b:Bk)(i:Int):List Int:=numbers ((cases b).map fun t=>nth t.2 i)
def openH(b:Bk)(h:Int):Int:=if checkBook b≠0 then checkBook b else if h≠0 then h else if cases b= [] then 9 else 0
def pieceH(b:Bk)(k:Int):Int:=if b.isPiece k then 0 else 6
def agreedH(b:Bk):Int:=if checkBook b≠0 then checkBook b else if cases b= [] then 9 else 0
def Bk.heeled(b:Bk)(x:Hl):Bk:={b with hs:=b.hs++ [x] }
def heelH(b:Bk)(x:Hl):Int:=if checkBook b≠0 then checkBook b else agreedH (b.heeled x)
def weightsR(b:Bk)(k:Int):List Int×Int:=if openH b (pieceH b k)≠0 then([],openH b (pieceH b k)) else(weightsOf b k,0)
structure Pc.fine(p:Pc):Prop where
 arm: -9≤p.arm∧p.arm≤9
 r:1≤p.r.lo∧p.r.lo≤p.r.hi∧p.r.hi≤99∧p.r.hi-p.r.lo<3
structure Bk.good(b:Bk):Prop where
 lim:0≤b.lim∧b.lim≤9999
 bal: -999≤b.bal.lo∧b.bal.lo≤b.bal.hi∧b.bal.hi≤999∧b.bal.hi-b.bal.lo<3
 np:1≤b.ps.length∧b.ps.length≤5
 ps:∀p∈b.ps,p.fine
 nh:b.hs.length≤4
theorem isReach_iff{x:Rc}{l m many:Int}:isReach x l m many=true↔l≤x.lo∧x.lo≤x.hi∧x.hi≤m∧x.hi-x.lo<many:=by simp [isReach,and_assoc]
theorem piecesGo_fine:∀ {l:List Pc} {before:List (List UInt8)},piecesGo before l=0→∀p∈l,p.fine
 |x::l,before,h,p,hp=>by
  simp only [piecesGo] at h
  split at h
  ·cases h
  ·split at h
   ·cases h
   ·split at h
    ·cases h
    ·rename_i h3
     split at h
     ·exact absurd h ‹_›
     ·rcases List.mem_cons.1 hp with rfl|hp
      ·simp only [Bool.or_eq_true,Bool.not_eq_true',not_or,Bool.not_eq_false] at h3
       exact⟨between_iff.1 h3.1,isReach_iff.1 h3.2⟩
      ·exact piecesGo_fine h p hp
theorem good_of(h:checkBook b=0):b.good:=by
 obtain⟨h1,h⟩:=ite_same h
 obtain⟨h2,h⟩:=ite_same h
 obtain⟨h3,h4⟩:=ite_same h
 have w1:¬(!between b.lim 0 9999|| !isReach b.bal (-999) 999 3)=true:=fun e=>by
  unfold Bk.hullH at h1
  rw [if_pos e] at h1;cases h1
 obtain⟨w2,h2⟩:=ite_zero Dd h2
 obtain⟨w4,h4⟩:=ite_zero Dd h4
 simp only [Bool.or_eq_true,Bool.not_eq_true',not_or,Bool.not_eq_false] at w1 w2
 have:=between_iff.1 w2
 exact⟨between_iff.1 w1.1,isReach_iff.1 w1.2,O,piecesGo_fine h2,O⟩
theorem seen_heeled(h:seen (b.heeled x) t=true):seen b t=true:=by
 unfold seen at h⊢
 rw [List.all_eq_true] at h⊢
 intro n hn
 have h1:=h n hn
 unfold seenAt at h1⊢
 have e:moment (b.heeled x) t ((b.heeled x).out.take n)=moment b t (b.out.take n):=rfl
 have e2:∀m,rolls (b.heeled x) m=rolls b m:=fun _=>rfl
 have e3:(b.heeled x).hs=b.hs++ [x]:=rfl
 rw [e,e2,e3,List.any_append] at h1
 simp only [Bool.not_eq_true',Bool.or_eq_false_iff] at h1⊢
 exact⟨h1.1,h1.2.1⟩
theorem mem_cases:t∈cases b↔(t.1∈b.bal.nums∧t.2∈spread (b.ps.map Pc.r))∧seen b t=true:=by
 unfold cases
 simp only [List.mem_flatMap,List.mem_filter,List.mem_map]
 constructor
 ·rintro⟨n,hn,⟨w,hw,rfl⟩,hs⟩
  exact⟨⟨hn,hw⟩,hs⟩
 ·rintro⟨⟨hn,hw⟩,hs⟩
  exact⟨t.1,hn,⟨t.2,hw,rfl⟩,hs⟩
theorem heeled_sub:∀t∈cases (b.heeled x),t∈cases b:=fun t ht=>by
 rw [mem_cases] at ht⊢
 exact⟨ht.1,seen_heeled ht.2⟩
theorem weight_in(h:0≤i∧i<b.ps.length)(ht:t∈cases b):(b.ps.getD i.toNat default).r.lo≤nth t.2 i∧nth t.2 i≤(b.ps.getD i.toNat default).r.hi:=by
 have hk:i.toNat<b.ps.length:=O
 have e:b.ps.getD i.toNat default=b.ps[i.toNat]:=by simp [List.getD_eq_getElem?_getD,hk]
 obtain⟨_,h2⟩:=mem_spread.1 (mem_cases.1 ht).1.2
 obtain⟨x,hx,h3⟩:=h2 i.toNat (b.ps[i.toNat]).r (by simp [hk])
 rw [e]
 simpa [nth,List.getD_eq_getElem?_getD,hx] using h3
theorem weightsOf_mem{x:Int}:x∈weightsOf b i↔ ∃t∈cases b,nth t.2 i=x:=by rw [weightsOf,numbers_mem,List.mem_map]
theorem weightsR_is(hch:checkBook b=0)(hne:cases b≠ [])(h:0≤i∧i<b.ps.length):weightsR b i=(weightsOf b i,0):=by
 have hp:pieceH b i=0:=by
  unfold pieceH Bk.isPiece
  rw [if_pos (between_iff.2 O)]
 have ho:openH b (pieceH b i)=0:=by
  unfold openH
  rw [hp,if_neg (fun e=>e hch),if_neg (fun e=>e rfl),if_neg hne]
 rw [weightsR,if_neg (fun e=>e ho)]
theorem heel_law(h:heelH b x=0):checkBook b=0∧checkBook (b.heeled x)=0∧∀i:Int,0≤i→i<b.ps.length→
  ∃l m,weightsR b i=(l,0)∧weightsR (b.heeled x) i=(m,0)∧l≠ []∧m≠ []∧(∀y∈m,y∈l)∧l.Pairwise (· < ·)∧m.Pairwise (· < ·)∧∃l0 l1:Int,1≤l0∧l1≤99∧l1-l0<3∧∀y∈l,l0≤y∧y≤l1:=by
 obtain⟨hch,h⟩:=ite_same h
 obtain⟨hco,h⟩:=ite_same h
 have hneo:cases (b.heeled x)≠ []:=fun e=>by rw [if_pos e] at h;cases h
 have hne:cases b≠ []:=fun e=>by
  cases hc:cases (b.heeled x) with
  |nil=>exact hneo hc
  |cons t T=>
   have:=heeled_sub t (by rw [hc];simp)
   rw [e] at this;cases this
 refine⟨hch,hco,fun i h0 h1=>?_⟩
 have hk:i.toNat<b.ps.length:=O
 have e:b.ps.getD i.toNat default=b.ps[i.toNat]:=by simp [List.getD_eq_getElem?_getD,hk]
 have hf:=((good_of hch).ps _ (List.getElem_mem hk)).r
 refine⟨_,_,weightsR_is hch hne ⟨h0,h1⟩,weightsR_is hco hneo ⟨h0,h1⟩,fun e=>?_,fun e=>?_,fun y hy=>?_,numbers_asc _,numbers_asc _,(b.ps[i.toNat]).r.lo,(b.ps[i.toNat]).r.hi,hf.1,hf.2.2.1,hf.2.2.2,fun y hy=>?_⟩
 ·cases hc:cases b with
  |nil=>exact hne hc
  |cons t T=>
   have:=(weightsOf_mem (i:=i)).2 ⟨t,by rw [hc];simp,rfl⟩
   rw [e] at this;cases this
 ·cases hc:cases (b.heeled x) with
  |nil=>exact hneo hc
  |cons t T=>
   have:=(weightsOf_mem (i:=i)).2 ⟨t,by rw [hc];simp,rfl⟩
   rw [e] at this;cases this
 ·obtain⟨t,ht,rfl⟩:=weightsOf_mem.1 hy
  exact weightsOf_mem.2 ⟨t,heeled_sub t ht,rfl⟩
 ·obtain⟨t,ht,rfl⟩:=weightsOf_mem.1 hy
  have:=weight_in ⟨h0,h1⟩ ht
  rwa [e] at this
end Go.Lg.H
namespace Go.Lg.H
open Go Go.Conc Go.Lg Go.Proofs Go.Lg.B Go.Proofs.Tryz
variable {ro ro':RO}{v:Value}{L:List Pc}{b:Bk}{n:Int}
abbrev Zp:=Value×Pc
def zp(z:Zp):List Value:= [strV z.2.nm, .int .i64 z.2.arm, .int .i64 z.2.r.lo, .int .i64 z.2.r.hi,z.1]
theorem zp_len(z:Zp):(zp z).length=5:=rfl
def LsP(ro:RO)(v:Value)(L:List Pc):Prop:= ∃zs:List Zp,Ls zp 5 ro v zs∧zs.map (·.2)=L∧∀z∈zs,LsI ro z.1 z.2.on∧capOk z.1
theorem LsP.mono(h:LsP ro v L)(hl:ro.le ro'):LsP ro' v L:=let⟨zs,h1,h2,h3⟩:=h;⟨zs,h1.mono hl,h2,fun z hz=>⟨(h3 z hz).1.mono hl,(h3 z hz).2⟩⟩
theorem LsP.form(h:LsP ro v L):∃base cap,v= .slice base L.length cap:=by
 obtain⟨zs,h1,rfl,_⟩:=h
 rw [List.length_map];exact h1.form
theorem LsP.at(h:LsP ro v L)(hp:0<L.length):∃p off cap,∃l:List Value,∃t fq,v= .slice (some ⟨p,off,none⟩) L.length cap∧ro p=some (.cells l.toArray t fq)∧∀i (hi:i<L.length),∃base c,Sub (off+i*5) 5 l [strV L[i].nm, .int .i64 L[i].arm, .int .i64 L[i].r.lo, .int .i64 L[i].r.hi, .slice base L[i].on.length c]∧L[i].on.length≤c∧LsI ro (.slice base L[i].on.length c) L[i].on:=by
 obtain⟨zs,h1,hL,h3⟩:=h
 have hlen:L.length=zs.length:=by rw [←hL,List.length_map]
 obtain⟨p,off,cap,l,t,fq,e,h4,h5⟩:=h1.at zp_len O
 refine⟨p,off,cap,l,t,fq,by rw [hlen];exact e,h4,fun i hi=>?_⟩
 have hz:i<zs.length:=O
 have hLi:L[i]=zs[i].2:=by simp [←hL]
 have h6:=h5 i hz
 obtain⟨h7,bs,len,c,h8,h9⟩:=h3 _ (List.getElem_mem hz)
 obtain⟨b2,c2,h10⟩:=h7.form
 rw [h8] at h10;cases h10
 rw [hLi]
 refine⟨bs,c, ?_,h9,by rw [←h8];exact h7⟩
 rw [←h8];exact h6
def BkP(ro:RO)(b:Bk)(vp vo vh:Value):Prop:=LsP ro vp b.ps∧LsI ro vo b.out∧Ls Hl.cells 2 ro vh b.hs∧capOk vp∧capOk vo
theorem BkP.mono{vp vo vh:Value}(h:BkP ro b vp vo vh)(hl:ro.le ro'):BkP ro' b vp vo vh:=⟨h.1.mono hl,h.2.1.mono hl,h.2.2.1.mono hl,h.2.2.2⟩
def BkV(ro:RO)(v:Value)(b:Bk):Prop:= ∃vp vo vh,v= .agg [.int .i64 b.lim, .int .i64 b.bal.lo, .int .i64 b.bal.hi,vp,vo,vh].toArray∧BkP ro b vp vo vh
theorem BkV.mono(h:BkV ro v b)(hl:ro.le ro'):BkV ro' v b:=let⟨vp,vo,vh,e,h1⟩:=h;⟨vp,vo,vh,e,h1.mono hl⟩
structure Bk.short(b:Bk):Prop where
 ps:b.ps.length≤1000∧∀p∈b.ps,p.nm.length≤1000∧p.on.length≤1000
 out:b.out.length≤1000
 hs:b.hs.length≤1000
variable {main:Bool}{J:Goroutine→Mem→Prop}(hJ:Closed prog main J)
include hJ
theorem inside_c(n l m:Int)(ro:RO):CallP prog J (fnv 185) [.int .i64 n, .int .i64 l, .int .i64 m] ro (.bool (between n l m)):=by
 refine EP 15 hJ func185 W fun c cs tail hret C=>Xo W W<|Xm W W<|Ro W<|Ri Z b_leq<|Ro W<|R.fix (t:=10) U (fun q1=>?_) (fun q1=>?_)
 ·refine Oo W W<|Ri Z b_leq<|Pp Z<|Hq W func185 hret ?_
  first|(simp_all [between,retVal];done)|(simp_all [between,retVal];omega)
 ·refine Rp W<|Rp W<|Rp W<|Pf Z<|Hq W func185 hret ?_
  first|(simp_all [between,retVal];done)|(simp_all [between,retVal];omega)
theorem isReach_c(x:Rc)(l m k:Int)(ro:RO)(h1: -1000000≤l)(h2:m≤1000000):CallP prog J (fnv 369) [x.val, .int .i64 l, .int .i64 m, .int .i64 k] ro (.bool (isReach x l m k)):=by
 refine EP 35 hJ func369 W fun c cs tail hret C=>?_
 by_cases e1:l≤x.lo
 ·by_cases e2:x.lo≤x.hi
  ·by_cases e3:x.hi≤m
   ·have _:=h1
    refine Xu W<|Bx Z fun p4=>Ae W<|Xm W W<|Rv 0 W A45 U B3<|Rj W G3 V U<|Ri Z b_leq<|FT 12 U (by(exact congrArg Value.bool (by simp [e1])))<|Ro W<|Rv 0 W A45 U B3<|Rj W G3 V U<|Rv 1 W A45 U B3<|Rj W G3 V U<|Ri Z b_leq<|FT 18 U (by(exact congrArg Value.bool (by simp [e2])))<|Pp Z<|Ro W<|Rv 1 W A45 U B3<|Rj W G3 V U<|Ro W<|Ri Z b_leq<|FT 24 U (by(exact congrArg Value.bool (by simp [e3])))<|Pp Z<|Ro W<|Rv 1 W A45 U B3<|Rj W G3 V U<|Rv 0 W A45 U B3<|Rj W G3 V U<|Ri Z (b_sub O O)<|Ro W<|Ri Z b_lss<|Pp Z<|Hq W func369 hret ?_
    simp [isReach,e1,e2,e3,retVal]
   ·have _:=h1
    refine Xu W<|Bx Z fun p4=>Ae W<|Xm W W<|Rv 0 W A45 U B3<|Rj W G3 V U<|Ri Z b_leq<|FT 12 U (by(exact congrArg Value.bool (by simp [e1])))<|Ro W<|Rv 0 W A45 U B3<|Rj W G3 V U<|Rv 1 W A45 U B3<|Rj W G3 V U<|Ri Z b_leq<|FT 18 U (by(exact congrArg Value.bool (by simp [e2])))<|Pp Z<|Ro W<|Rv 1 W A45 U B3<|Rj W G3 V U<|Ro W<|Ri Z b_leq<|FF 24 U (by(exact congrArg Value.bool (by simp [e3])))<|Pp Z<|Ro W<|Rp W<|Rp W<|Rp W<|Rp W<|Rp W<|Rp W<|Rp W<|Pf Z<|Hq W func369 hret ?_
    simp [isReach,e1,e2,e3,retVal]
  ·have _:=h1
   refine Xu W<|Bx Z fun p4=>Ae W<|Xm W W<|Rv 0 W A45 U B3<|Rj W G3 V U<|Ri Z b_leq<|FT 12 U (by(exact congrArg Value.bool (by simp [e1])))<|Ro W<|Rv 0 W A45 U B3<|Rj W G3 V U<|Rv 1 W A45 U B3<|Rj W G3 V U<|Ri Z b_leq<|FF 18 U (by(exact congrArg Value.bool (by simp [e2])))<|Pp Z<|Ro W<|Rp W<|Rp W<|Rp W<|Rp W<|Pf Z<|Ro W<|Rp W<|Rp W<|Rp W<|Rp W<|Rp W<|Rp W<|Rp W<|Pf Z<|Hq W func369 hret ?_
   simp [isReach,e1,e2,retVal]
 ·have _:=h1
  refine Xu W<|Bx Z fun p4=>Ae W<|Xm W W<|Rv 0 W A45 U B3<|Rj W G3 V U<|Ri Z b_leq<|FF 12 U (by(exact congrArg Value.bool (by simp [e1])))<|Ro W<|Rp W<|Rp W<|Rp W<|Rp W<|Rp W<|Pf Z<|Ro W<|Rp W<|Rp W<|Rp W<|Rp W<|Pf Z<|Ro W<|Rp W<|Rp W<|Rp W<|Rp W<|Rp W<|Rp W<|Rp W<|Pf Z<|Hq W func369 hret ?_
  simp [isReach,e1,retVal]
theorem isLabel_c(s:List UInt8)(hs:s.length≤1000000)(ro:RO):CallP prog J (fnv 370) [strV s] ro (.bool (isLabel s)):=by
 refine EP 31 hJ func370 W fun c cs tail hret C=>Xo W W<|Xx W<|Ro W<|R.toBytes C U U U A9 A470 A5 fun p6 cap sp fq hcap=>Rt W A470<|Ro W<|Rz<|Xb<|X.loopI (ι:=Nat) C.1 (fun i=>i≤s.length∧labGo 0 s=labGo i (s.drop i)) (fun i=> [(0,strV s),(6, .slice (some ⟨p6,0,none⟩) s.length cap),(7, .int .i64 (s.length:Int)),(8, .int .i64 (i:Int))])
  (fun _=>⟨ro,(p6, .cells (bys s++sp).toArray 5 fq)::tail⟩) (fun i=>s.length-i) 0 ⟨Nat.zero_le _,by simp⟩ rfl ⟨U,U,U,U,trivial⟩ fun i hi hnext=>?_
 obtain⟨hi,hinv⟩:=hi
 refine Xu W<|Ri Z b_lss<|Rz<|Xv<|Xj U (fun hlt=>?_) (fun hlt=>?_)
 ·have hi':i<s.length:=O
  have hc:s[i].toNat<256:=UInt8.toNat_lt _
  have hd:s.drop i=s[i]::s.drop (i+1):=List.drop_eq_getElem_cons hi'
  rw [hd] at hinv
  simp only [labGo] at hinv
  refine Xz<|Xv<|Xb<|Xm W W<|Ry Y A470 sizeOf5<|R.loadOne C U U U isAgg5 V (bys_at hi')<|Rg Y<|Ae W<|Xm W W<|R.convInt C U U U A5 A3 (wrap64 O O)<|Cp Z (inside_c hJ _ _ _ _)<|Rh Y<|Ro W<|R.fix (t:=17) U (fun g1=>?_) (fun g1=>?_)
  ·have e1:isLet s[i]=false:=by simpa [isLet] using g1
   refine Ro W<|Ri Z b_eql<|Ro W<|R.fix (t:=20) U (fun g2=>?_) (fun g2=>?_)
   ·have e2:(i==0)=true:=by simpa using g2
    refine Rp W<|Rp W<|Rp W<|Rp W<|Pp Z<|Pp Z<|Zc U (fun _=>?_) (fun h=>nomatch h)
    refine Xu W<|Hq W func370 hret ?_
    simp only [e1,e2,Bool.not_false,Bool.true_or,Bool.and_self,if_true] at hinv
    simp [isLabel,hinv,retVal]
   ·have e2:¬i=0:=by simpa using g2
    refine Ro W<|R.convInt C U U U A5 A3 (wrap64 O O)<|Cp Z (inside_c hJ _ _ _ _)<|Rh Y<|Pf Z<|Pp Z<|Zc U (fun g3=>?_) (fun g3=>?_)
    ·have e3:isDig s[i]=false:=by simpa [isDig] using g3
     refine Xu W<|Hq W func370 hret ?_
     simp only [e1,e3,Bool.not_false,Bool.or_true,Bool.and_self,if_true] at hinv
     simp [isLabel,hinv,retVal]
    ·have e3:isDig s[i]=true:=by simpa [isDig] using g3
     refine Xz<|Xi<|Xg W<|Rb Y<|Ro W<|Rz<|X.weaken ?_ (hnext (i+1) ⟨hi', ?_⟩ O)
     ·exact⟨rfl,rfl,rfl,by simp [look],trivial⟩
     ·rw [hinv];simp [e2,e3]
  ·have e1:isLet s[i]=true:=by simpa [isLet] using g1
   refine Rp W<|Rp W<|Rp W<|Rp W<|Rp W<|Rp W<|Rp W<|Rp W<|Pf Z<|Zc U (fun h=>nomatch h) (fun _=>?_)
   refine Xz<|Xi<|Xg W<|Rb Y<|Ro W<|Rz<|X.weaken ?_ (hnext (i+1) ⟨hi', ?_⟩ O)
   ·exact⟨rfl,rfl,rfl,by simp [look],trivial⟩
   ·rw [hinv];simp [e1]
 ·obtain rfl:i=s.length:=by omega
  rw [List.drop_length] at hinv
  simp only [labGo] at hinv
  refine Xe U<|Xm W W<|R.sLen C U U U A9<|Cp Z (inside_c hJ _ _ _ _)<|Hq W func370 hret ?_
  simp [isLabel,hinv,retVal]
theorem climbs_c{l:List Int}(hl:LsI ro v l)(hn:l.length≤1000000)(hb:0≤n∧n≤1000000):CallP prog J (fnv 373) [v, .int .i64 n] ro (.int .i64 (climbsH n none l)):=by
 obtain⟨lb,lc,rfl⟩:=hl.form
 refine EP 33 hJ func373 W fun c cs tail hret C=>Xo W W<|Xx W<|Ro W<|Rt W A58<|Ro W<|Rz<|Xb<|X.loopI (ι:=Nat) C.1 (fun i=>i≤l.length∧climbsH n none l=climbsH n (prev l i) (l.drop i)) (fun i=> [(7, .slice lb l.length lc),(8, .int .i64 (l.length:Int)),(9, .int .i64 (i:Int)),(0, .slice lb l.length lc),(1, .int .i64 n)])
  (fun _=>⟨ro,tail⟩) (fun i=>l.length-i) 0 ⟨Nat.zero_le _,rfl⟩ rfl ⟨U,U,U,U,U,trivial⟩ fun i hi hnext=>?_
 obtain⟨hi,hr⟩:=hi
 refine Xu W<|Ri Z b_lss<|Rz<|Xv<|Xj U (fun hlt=>?_) (fun hlt=>?_)
 ·have hi':i<l.length:=O
  obtain⟨pp,off,cap,ll,t,fq,hsl,hrop,hsub⟩:=hl.at ic_len O
  cases hsl
  have hx:=ic_at hsub hi'
  rw [List.drop_eq_getElem_cons hi',climbsH] at hr
  refine Xz<|Xv<|Xb<|Xm W W<|Ry Y A58 B3<|Lo Y G3 hrop hx<|Rg Y<|Ae W<|Xb<|Xm W W<|Ro W<|Ri Z (b_sub O O)<|Cp Z (inside_c hJ _ _ _ _)<|Rh Y<|Ae W<|Xc U (fun hq=>?_) (fun hq=>?_)
  ·have hq2:between l[i] 0 (n-1)=false:=by simpa using hq
   rw [hq2] at hr
   refine Xu W<|Hq W func373 hret ?_
   rw [hr];rfl
  ·have hq2:between l[i] 0 (n-1)=true:=by simpa using hq
   rw [hq2] at hr
   simp only [Bool.not_true,Bool.false_eq_true,if_false] at hr
   by_cases h0:i=0
   ·subst h0
    simp only [prev,Option.any_none,Bool.false_eq_true,if_false] at hr
    refine Xm W W<|Ri Z b_gtr<|FF 22 U (by rfl)<|Ro W<|Rp W<|Rp W<|Rp W<|Rp W<|Rp W<|Rp W<|Rp W<|Pf Z<|Ae W<|Xc U (fun h=>nomatch h) (fun _=>?_)
    refine Xz<|Xi<|Xi<|Xg W<|Rb Y<|Ro W<|Rz<|X.weaken ?_ (hnext 1 ⟨hi',by rw [hr];simp [prev,hi']⟩ O)
    exact⟨rfl,rfl,by simp [look],rfl,rfl,trivial⟩
   ·obtain⟨k,rfl⟩:∃k,i=k+1:=⟨i-1,O⟩
    have hk:k<l.length:=O
    have hxk:ll[off+((k+1:Nat) -1:Int).toNat*1]? =some (.int .i64 l[k]):=by
     have:=ic_at hsub hk
     rw [show(((k+1:Nat):Int) -1).toNat=k by omega];exact this
    simp only [prev,List.getElem?_eq_getElem hk,Option.any_some,decide_eq_true_eq] at hr
    refine Xm W W<|Ri Z b_gtr<|FT 22 U (by(exact congrArg Value.bool Zi))<|Oo W W<|Oo W W<|Ri Z (b_sub O O)<|Ry Y A58 B3<|Lo Y G3 hrop hxk<|Ri Z b_leq<|Pp Z<|Ae W<|Xc U (fun hle=>?_) (fun hle=>?_)
    ·have hle2:l[k+1]≤l[k]:=by simpa using hle
     rw [if_pos hle2] at hr
     refine Xu W<|Hq W func373 hret ?_
     rw [hr];rfl
    ·have hle2:¬l[k+1]≤l[k]:=by simpa using hle
     rw [if_neg hle2] at hr
     refine Xz<|Xi<|Xi<|Xg W<|Rb Y<|Ro W<|Rz<|X.weaken ?_ (hnext (k+1+1) ⟨hi',by rw [hr];simp [prev,hi']⟩ O)
     exact⟨rfl,rfl,by simp [look],rfl,rfl,trivial⟩
 ·obtain rfl:i=l.length:=by omega
  rw [List.drop_length,climbsH] at hr
  refine Xe U<|Xu W<|Hq W func373 hret ?_
  rw [hr];rfl
theorem isPiece_c(hv:BkV ro v b)(hn:b.ps.length≤1000)(k:Int):CallP prog J (fnv 95) [v, .int .i64 k] ro (.bool (b.isPiece k)):=by
 obtain⟨vp,vo,vh,rfl,hp,ho,hh,hcp,hco⟩:=hv
 obtain⟨pb,pc,rfl⟩:=hp.form
 refine EP 12 hJ func95 W fun c cs tail hret C=>Xu W<|Bx Z fun p2=>Ae W<|Xm W W<|Rv 0 W A181 U B66<|Rv 3 W A66 U B63<|Rj W G63 V U<|Rt W A63<|Ri Z (b_sub O O)<|Cp Z (inside_c hJ _ _ _ _)<|Hq W func95 hret ?_
 rfl
theorem rolls_c(hv:BkV ro v b)(hn: -1000000≤n∧n≤1000000):CallP prog J (fnv 270) [v, .int .i64 n] ro (.bool (rolls b n)):=by
 obtain⟨vp,vo,vh,rfl,hp,ho,hh,hcp,hco⟩:=hv
 refine EP 13 hJ func270 W fun c cs tail hret C=>Xu W<|Bx Z fun p2=>Ae W<|Xm W W<|Ro W<|R.neg C U U U O O<|R.max2 C U U U U<|Rv 0 W A181 U B66<|Rv 0 W A66 U B3<|Rj W G3 V U<|Ri Z b_gtr<|Hq W func270 hret ?_
 rfl
theorem side_c(n:Int)(ro:RO):CallP prog J (fnv 273) [.int .i64 n] ro (.int .i64 (sideOf n)):=by
 refine EP 9 hJ func273 W fun c cs tail hret C=>Xo W W<|Xv<|Xb<|Xm W W<|Ri Z b_gtr<|Ae W<|Xc U (fun h1=>?_) (fun h1=>?_)
 ·have h1:0<n:=by simpa using h1
  refine Xu W<|Hq W func273 hret ?_
  simp [sideOf,h1,retVal]
 ·have h1:¬0<n:=by simpa using h1
  refine Xm W W<|Ri Z b_lss<|Ae W<|Xc U (fun h2=>?_) (fun h2=>?_)
  ·have h2:n<0:=by simpa using h2
   refine Xu W<|Hq W func273 hret ?_
   simp [sideOf,h1,h2,retVal]
  ·have h2:¬n<0:=by simpa using h2
   refine Xz<|Xi<|Xu W<|Hq W func273 hret ?_
   simp [sideOf,h1,h2,retVal]
theorem hull_c(hv:BkV ro v b):CallP prog J (fnv 365) [v] ro (.int .i64 b.hullH):=by
 obtain⟨vp,vo,vh,rfl,hp,ho,hh,hcp,hco⟩:=hv
 by_cases e1:between b.lim 0 9999=true
 ·have _:=e1
  refine EP 15 hJ func365 W fun c cs tail hret C=>Xu W<|Bx Z fun p1=>Ae W<|Xx W<|Rv 0 W A181 U B66<|Rv 0 W A66 U B3<|Rj W G3 V U<|Cp Z (inside_c hJ _ _ _ _)<|Rh Y<|FF 7 U (by(rw [e1];rfl))<|Ro W<|Rv 0 W A181 U B66<|Rv 1 W A66 U B45<|Rq W G45 B45 V (.skip Tk2)<|Cp Z (isReach_c hJ b.bal _ _ _ _ O O)<|Rh Y<|Pf Z<|Zc U (fun q1=>?_) (fun q1=>?_)
  ·refine Xu W<|Hq W func365 hret ?_
   simp_all [Bk.hullH,retVal]
  ·refine Xz<|Xu W<|Hq W func365 hret ?_
   simp_all [Bk.hullH,retVal]
 ·have e1:between b.lim 0 9999=false:=by simpa using e1
  refine EP 15 hJ func365 W fun c cs tail hret C=>Xu W<|Bx Z fun p1=>Ae W<|Xx W<|Rv 0 W A181 U B66<|Rv 0 W A66 U B3<|Rj W G3 V U<|Cp Z (inside_c hJ _ _ _ _)<|Rh Y<|FT 7 U (by(rw [e1];rfl))<|Ro W<|Rp W<|Rp W<|Rp W<|Rp W<|Rp W<|Pp Z<|Zc U (fun _=>?_) (fun h=>nomatch h)
  refine Xu W<|Hq W func365 hret ?_
  simp_all [Bk.hullH,retVal]
end Go.Lg.H
namespace Go.Lg.H
open Go Go.Conc Go.Lg Go.Proofs Go.Lg.B Go.Proofs.Tryz
variable {n:Int}{v:Value}{ro:RO}
abbrev arrL(d:List Int):List Value:= [.bool (decide ((0:Int)∈d)), .bool (decide ((1:Int)∈d)), .bool (decide ((2:Int)∈d)), .bool (decide ((3:Int)∈d)), .bool (decide ((4:Int)∈d))]
abbrev arrV(d:List Int):Value:= .agg (arrL d).toArray
theorem arr_get(d:List Int)(h:0≤n∧n<5):(arrL d)[0+n.toNat*1]? =some (.bool (decide (n∈d))):=by
 have:n=0∨n=1∨n=2∨n=3∨n=4:=O
 rcases this with rfl|rfl|rfl|rfl|rfl<;>rfl
theorem put_arr(d:List Int)(h:0≤n∧n<5):Put (0+n.toNat*1) [.bool true] (arrL d) (arrL (d++ [n])):=by
 have:n=0∨n=1∨n=2∨n=3∨n=4:=O
 rcases this with rfl|rfl|rfl|rfl|rfl
 ·have e:arrL (d++ [0])= [.bool true, .bool (decide ((1:Int)∈d)), .bool (decide ((2:Int)∈d)), .bool (decide ((3:Int)∈d)), .bool (decide ((4:Int)∈d))]:=by simp [arrL]
  rw [e];exact .here .nil
 ·have e:arrL (d++ [1])= [.bool (decide ((0:Int)∈d)), .bool true, .bool (decide ((2:Int)∈d)), .bool (decide ((3:Int)∈d)), .bool (decide ((4:Int)∈d))]:=by simp [arrL]
  rw [e];exact .skip (.here .nil)
 ·have e:arrL (d++ [2])= [.bool (decide ((0:Int)∈d)), .bool (decide ((1:Int)∈d)), .bool true, .bool (decide ((3:Int)∈d)), .bool (decide ((4:Int)∈d))]:=by simp [arrL]
  rw [e];exact .skip (.skip (.here .nil))
 ·have e:arrL (d++ [3])= [.bool (decide ((0:Int)∈d)), .bool (decide ((1:Int)∈d)), .bool (decide ((2:Int)∈d)), .bool true, .bool (decide ((4:Int)∈d))]:=by simp [arrL]
  rw [e];exact .skip (.skip (.skip (.here .nil)))
 ·have e:arrL (d++ [4])= [.bool (decide ((0:Int)∈d)), .bool (decide ((1:Int)∈d)), .bool (decide ((2:Int)∈d)), .bool (decide ((3:Int)∈d)), .bool true]:=by simp [arrL]
  rw [e];exact .skip (.skip (.skip (.skip (.here .nil))))
variable {main:Bool}{J:Goroutine→Mem→Prop}(hJ:Closed prog main J)
include hJ
theorem with_c{l:List Int}(hl:LsI ro v l)(hn:l.length≤1000)(hin:∀n∈l,0≤n∧n<5)(d:List Int):CallP prog J (fnv 118) [arrV d,v] ro (arrV (d++l)):=by
 obtain⟨lb,lc,rfl⟩:=hl.form
 refine EP 17 hJ func118 W fun c cs tail hret C=>Xu W<|Bx Z fun p2=>Al W K243 U fun p4=>Rz<|Xx W<|Ro W<|Rt W A58<|Ro W<|Rz<|Xb<|X.loopI (ι:=Nat) C.1 (fun i=>i≤l.length) (fun i=> [(7, .slice lb l.length lc),(8, .int .i64 (l.length:Int)),(9, .int .i64 (i:Int)),(2, .pointer (some ⟨p2,0,none⟩)),(4, .pointer (some ⟨p4,0,none⟩))])
  (fun i=>⟨ro,(p4, .cells [.bool false, .bool false, .bool false, .bool false, .bool false].toArray 243 (0,0))::(p2, .cells (arrL (d++l.take i)).toArray 243 (0,0))::tail⟩) (fun i=>l.length-i) 0 (Nat.zero_le _) Zi ⟨U,U,U,U,U,trivial⟩ fun i hi hnext=>?_
 refine Xu W<|Ri Z b_lss<|Rz<|Xv<|Xj U (fun hlt=>?_) (fun hlt=>?_)
 ·have hi':i<l.length:=O
  obtain⟨pp,off,cap,ll,t,fq,hsl,hrop,hsub⟩:=hl.at ic_len O
  cases hsl
  have hx:=ic_at hsub hi'
  have hb:=hin _ (List.getElem_mem hi')
  have htk:d++l.take (i+1)=d++l.take i++ [l[i]]:=by rw [List.take_succ_eq_append_getElem hi',List.append_assoc]
  generalize l[i]=n at hx hb htk
  have hput:=put_arr (d++l.take i) hb
  rw [←htk] at hput
  refine Xz<|Xv<|Xb<|Xu W<|Ry Y A58 B3<|Lo Y G3 hrop hx<|Ae W<|Xg W<|Ro W<|R.indexAddrA C U U U U A243 B4 O O<|Rs Z B4 Y V hput<|Rz<|Xi<|Xg W<|Rb Y<|Ro W<|Rz<|X.weaken ?_ (hnext (i+1) hi' O)
  exact⟨rfl,rfl,by simp [look],rfl,rfl,trivial⟩
 ·obtain rfl:i=l.length:=by omega
  rw [List.take_length]
  refine Xe U<|Xu W<|Rq W G243 B243 V Tk5<|Rs Z B243 Y V Ph5<|Rz<|X.ret C U U func118 U (by exact(.agg U G243 B243 V Tk5 .nil))<|Hp hret ?_
  rfl
theorem heels_c{b:Bk}(hv:BkV ro v b)(hs:b.short):CallP prog J (fnv 368) [v] ro (.int .i64 b.heelsH):=by
 obtain⟨vp,vo,vh,rfl,hp,ho,hh,hcp,hco⟩:=hv
 obtain⟨ob,oc,rfl⟩:=ho.form
 obtain⟨hb,hc,rfl⟩:=hh.form
 have hsh:=hs.hs
 have hso:=hs.out
 refine EP 33 hJ func368 W fun c cs tail hret C=>Xu W<|Bx Z fun p1=>Ae W<|Xx W<|Rv 0 W A181 U B66<|Rv 5 W A66 U B64<|Rj W G64 V U<|Rt W A64<|Ri Z b_gtr<|Zc U (fun hn=>?_) (fun hn=>?_)
 ·refine Xu W<|Hq W func368 hret ?_
  simp only [dT] at hn
  rw [Bk.heelsH,if_pos O];rfl
 ·simp only [dF] at hn
  have hH:b.heelsH=heelsGo b.out.length b.hs:=by rw [Bk.heelsH,if_neg O]
  rw [hH] at hret
  refine Xz<|Xx W<|Rv 0 W A181 U B66<|Rv 5 W A66 U B64<|Rj W G64 V U<|Rt W A64<|Ro W<|Rz<|Xb<|X.loopI (ι:=Nat) C.1 (fun i=>i≤b.hs.length∧heelsGo b.out.length b.hs=heelsGo b.out.length (b.hs.drop i))
   (fun i=> [(12, .slice hb b.hs.length hc),(13, .int .i64 (b.hs.length:Int)),(14, .int .i64 (i:Int)),(1, .pointer (some ⟨p1,0,none⟩))])
   (fun i=>⟨ro,(p1, .cells [.int .i64 b.lim, .int .i64 b.bal.lo, .int .i64 b.bal.hi,vp, .slice ob b.out.length oc, .slice hb b.hs.length hc].toArray 181 (0,0))::tail⟩) (fun i=>b.hs.length-i) 0 ⟨Nat.zero_le _,by simp⟩ rfl ⟨U,U,U,U,trivial⟩ fun i hi hnext=>?_
  obtain⟨hi,hr⟩:=hi
  refine Xu W<|Ri Z b_lss<|Rz<|Xv<|Xj U (fun hlt=>?_) (fun hlt=>?_)
  ·have hi':i<b.hs.length:=O
   obtain⟨p,off,cap,l,t,fq,hsl',hrop,hsub⟩:=hh.at Hl.len O
   cases hsl'
   rw [List.drop_eq_getElem_cons hi'] at hr
   have hsi:=hsub i hi'
   generalize b.hs[i]=q at hr hsi
   simp only [heelsGo] at hr
   refine Xz<|Xv<|Xb<|Xu W<|Ry Y A64 B69<|La Y G69 B69 hrop hsi<|Al W K69 U fun p4=>Rs Z B69 Y V Ph2<|Rz<|Xx W<|Rv 0 W A69 U B3<|Rj W G3 V U<|Rv 0 W A181 U B66<|Rv 4 W A66 U B58<|Rj W G58 V U<|Rt W A58<|Cp Z (inside_c hJ _ _ _ _)<|Rh Y<|Zc U (fun h1=>?_) (fun h1=>?_)
   ·have h1:between q.after 0 b.out.length=false:=by simpa using h1
    refine Xu W<|Hq W func368 hret ?_
    rw [h1] at hr
    rw [hr];rfl
   ·have h1:between q.after 0 b.out.length=true:=by simpa using h1
    rw [h1] at hr
    simp only [Bool.not_true,Bool.false_eq_true,if_false] at hr
    by_cases e0:q.side=0
    ·have e3:(!(q.side==0||q.side==1||q.side==2))=false:=by simp [e0]
     rw [e3] at hr
     simp only [Bool.false_eq_true,if_false] at hr
     refine Xz<|Xu W<|Rv 1 W A69 U B67<|Rj W G67 V U<|Rz<|Xb<|Xx W<|Ri Z b_eql<|FT 29 U (by(exact congrArg Value.bool (by simp [e0])))<|Ae W<|Xc U (fun _=>?_) (fun h=>nomatch h)
     refine Xz<|Xc U (fun _=>?_) (fun h=>nomatch h)
     refine Xz<|Xi<|Xi<|Xg W<|Rb Y<|Ro W<|Rz<|X.drop C.1 (own':=_::tail) (List.sublist_cons_self _ _)<|X.weaken ?_ (hnext (i+1) ⟨hi',hr⟩ O)
     exact⟨rfl,rfl,by simp [look],rfl,trivial⟩
    ·by_cases e1:q.side=1
     ·have e3:(!(q.side==0||q.side==1||q.side==2))=false:=by simp [e1]
      rw [e3] at hr
      simp only [Bool.false_eq_true,if_false] at hr
      refine Xz<|Xu W<|Rv 1 W A69 U B67<|Rj W G67 V U<|Rz<|Xb<|Xx W<|Ri Z b_eql<|FF 29 U (by(exact congrArg Value.bool (by simp [e0])))<|Ae W<|Xc U (fun h=>nomatch h) (fun _=>?_)
      refine Xu W<|Ri Z b_eql<|FT 30 U (by(exact congrArg Value.bool (by simp [e1])))<|Ae W<|Xc U (fun _=>?_) (fun h=>nomatch h)
      refine Xz<|Xc U (fun _=>?_) (fun h=>nomatch h)
      refine Xz<|Xi<|Xi<|Xg W<|Rb Y<|Ro W<|Rz<|X.drop C.1 (own':=_::tail) (List.sublist_cons_self _ _)<|X.weaken ?_ (hnext (i+1) ⟨hi',hr⟩ O)
      exact⟨rfl,rfl,by simp [look],rfl,trivial⟩
     ·by_cases e2:q.side=2
      ·have e3:(!(q.side==0||q.side==1||q.side==2))=false:=by simp [e2]
       rw [e3] at hr
       simp only [Bool.false_eq_true,if_false] at hr
       refine Xz<|Xu W<|Rv 1 W A69 U B67<|Rj W G67 V U<|Rz<|Xb<|Xx W<|Ri Z b_eql<|FF 29 U (by(exact congrArg Value.bool (by simp [e0])))<|Ae W<|Xc U (fun h=>nomatch h) (fun _=>?_)
       refine Xu W<|Ri Z b_eql<|FF 30 U (by(exact congrArg Value.bool (by simp [e1])))<|Ae W<|Xc U (fun h=>nomatch h) (fun _=>?_)
       refine Xg W<|Ri Z b_eql<|FT 31 U (by(exact congrArg Value.bool (by simp [e2])))<|Ae W<|Xc U (fun _=>?_) (fun h=>nomatch h)
       refine Xz<|Xi<|Xi<|Xg W<|Rb Y<|Ro W<|Rz<|X.drop C.1 (own':=_::tail) (List.sublist_cons_self _ _)<|X.weaken ?_ (hnext (i+1) ⟨hi',hr⟩ O)
       exact⟨rfl,rfl,by simp [look],rfl,trivial⟩
      ·have e3:(!(q.side==0||q.side==1||q.side==2))=true:=by simp [e0,e1,e2]
       rw [e3] at hr
       simp only [if_true] at hr
       refine Xz<|Xu W<|Rv 1 W A69 U B67<|Rj W G67 V U<|Rz<|Xb<|Xx W<|Ri Z b_eql<|FF 29 U (by(exact congrArg Value.bool (by simp [e0])))<|Ae W<|Xc U (fun h=>nomatch h) (fun _=>?_)
       refine Xu W<|Ri Z b_eql<|FF 30 U (by(exact congrArg Value.bool (by simp [e1])))<|Ae W<|Xc U (fun h=>nomatch h) (fun _=>?_)
       refine Xg W<|Ri Z b_eql<|FF 31 U (by(exact congrArg Value.bool (by simp [e2])))<|Ae W<|Xc U (fun h=>nomatch h) (fun _=>?_)
       refine Xu W<|Hq W func368 hret ?_
       rw [hr];rfl
  ·obtain rfl:i=b.hs.length:=by omega
   simp only [List.drop_length,heelsGo] at hr
   refine Xe U<|Xu W<|Hq W func368 hret ?_
   rw [hr];rfl
end Go.Lg.H
namespace Go.Lg.H
open Go Go.Conc Go.Lg Go.Proofs Go.Lg.B Go.Proofs.Tryz
variable {ro:RO}{L:List Pc}{s:List UInt8}{fv v:Value}{f:Pc→Bool}{pre:List (Nat×Obj)}
theorem flat_zp:∀ (zs:List Zp) (k:Nat),(zs.flatMap zp).take (k*5)=(zs.take k).flatMap zp
 | [],k=>by simp
 |z::zs,0=>by simp
 |z::zs,k+1=>by
  have e:(k+1)*5=(zp z).length+k*5:=by rw [zp_len];omega
  rw [List.flatMap_cons,e,List.take_length_add_append,flat_zp zs k,List.take_succ_cons,List.flatMap_cons]
theorem lsP_take{base:Option Addr}{cap k:Nat}(h:LsP ro (.slice base L.length cap) L)(hk:k≤L.length):LsP ro (.slice base k cap) (L.take k):=by
 obtain⟨zs,⟨b2,c2,e,h⟩,hL,h3⟩:=h
 have hlen:L.length=zs.length:=by rw [←hL,List.length_map]
 rw [hlen] at e hk
 cases e
 subst hL
 have hl:(zs.take k).length=k:=by simp;omega
 refine⟨zs.take k,⟨base,cap,by rw [hl], ?_⟩,by rw [List.map_take],fun z hz=>h3 z (List.mem_of_mem_take hz)⟩
 rcases h with h|⟨p,off,l,t,fq,rfl,h2,h4⟩
 ·left;rw [h];simp
 ·refine .inr ⟨p,off,l,t,fq,rfl,h2, ?_⟩
  have:=h4.part (i:=0) (m:=k*5) O
  rw [List.drop_zero,flat_zp] at this
  rw [hl]
  simpa using this
theorem any_nm:(L.any fun q=>q.nm==s)=decide (s∈L.map Pc.nm):=by
 rw [Bool.eq_iff_iff,List.any_eq_true,decide_eq_true_eq,List.mem_map]
 constructor
 ·rintro⟨q,hq,e⟩
  exact⟨q,hq,by simpa using e⟩
 ·rintro⟨q,hq,rfl⟩
  exact⟨q,hq,by simp⟩
abbrev pcV(q:Pc)(w:Value):Value:= .agg [strV q.nm, .int .i64 q.arm, .int .i64 q.r.lo, .int .i64 q.r.hi,w].toArray
variable {main:Bool}{J:Goroutine→Mem→Prop}(hJ:Closed prog main J)
include hJ
theorem pieces1_c{p1:Nat}{x1 x2 x3 x4:Value}(q:Pc)(w:Value)(ro:RO):
  CallV prog J (.func (.func 372) #[] [.pointer (some ⟨p1,0,none⟩)].toArray) [pcV q w] ro [(p1, .cells [strV s,x1,x2,x3,x4].toArray 174 (0,0))] (fun v ro' pre'=>v= .bool (q.nm==s)∧ro'=ro∧pre'= [(p1, .cells [strV s,x1,x2,x3,x4].toArray 174 (0,0))]):=by
 refine CallV.intro (first:= []) (vs:= [_]) (cap:= [_]) hJ Kr fun c cs tail hret=>enter_X (n:=9) func372 U U (Nl U) ?_
 have C:Ctx prog main J (bf 372 .normal):=⟨hJ,by decide⟩
 refine Xu W<|Bx Z fun p2=>Ae W<|Xu W<|Rv 0 W A174 U B9<|Rj W G9 V U<|Rv 0 W A174 U B9<|Rj W G9 V U<|R.str C U U U U b_seql<|Ae W<|Xw func372 ?_
 exact hret _ _ [_] _ (RO.le_refl _) ⟨rfl,rfl,rfl⟩ (by repeat (first|exact Sr|apply Sk|apply Sc))
theorem indexP_c(hl:LsP ro v L)(hn:L.length≤1000000)
  (hf:∀q∈L,∀w,CallV prog J fv [pcV q w] ro pre (fun v ro' pre'=>v= .bool (f q)∧ro'=ro∧pre'=pre)):
  CallV prog J (fnv 374) [v,fv] ro pre (fun w ro' pre'=>w= .int .i64 (findA f L)∧ro'=ro∧pre'=pre):=by
 obtain⟨lb,lc,rfl⟩:=hl.form
 refine CallV.intro (first:= []) (vs:= [_,_]) (cap:= []) hJ Kr fun c cs tail hret=>enter_X (n:=19) func374 U U (Nl U) ?_
 have C:Ctx prog main J (bf 374 .normal):=⟨hJ,by decide⟩
 refine Xo W W<|Xx W<|Ro W<|Rt W A63<|Ro W<|Rz<|Xb<|X.loopI (ι:=Nat) C.1 (fun i=>i≤L.length∧∀j (h:j<L.length),j<i→f L[j]=false) (fun i=> [(0, .slice lb L.length lc),(1,fv),(7, .int .i64 (L.length:Int)),(8, .int .i64 (i:Int))])
  (fun _=>⟨ro,pre++tail⟩) (fun i=>L.length-i) 0 ⟨Nat.zero_le _,fun _ _ h=>absurd h (Nat.not_lt_zero _)⟩ rfl ⟨U,U,U,U,trivial⟩ fun i hi hnext=>?_
 obtain⟨hi,hb⟩:=hi
 refine Xu W<|Ri Z b_lss<|Rz<|Xv<|Xj U (fun hlt=>?_) (fun hlt=>?_)
 ·have hi':i<L.length:=O
  obtain⟨pp,off,cap,ll,t,fq,hsl,hrop,hsub⟩:=hl.at O
  cases hsl
  obtain⟨qb,qc,hld,hqc,hq⟩:=hsub i hi'
  refine Xz<|Xv<|Xb<|Xm W W<|Ae W<|Xm W W<|Oo W W<|Ry Y A63 B174<|La Y G174 B174 hrop hld<|R.call C U U U U (pre:=pre) (tail:=tail) U (hf _ (List.getElem_mem hi') _) fun w ro2 pre2 hl2 hp2=>?_
  obtain⟨rfl,rfl,rfl⟩:=hp2
  refine Zc U (fun hr=>?_) (fun hr=>?_)
  ·refine Xm W W<|Ae W<|Xw func374<|hret _ _ _ _ (RO.le_refl _) ⟨?_,rfl,rfl⟩ Vs
   rw [findA_hit hi' hr hb];rfl
  ·refine Xz<|Xi<|Xg W<|Rb Y<|Ro W<|Rz<|X.weaken ?_ (hnext (i+1) ⟨hi',fun j hj hji=>?_⟩ O)
   ·exact⟨rfl,rfl,rfl,by simp [look],trivial⟩
   ·by_cases e:j=i
    ·subst e;exact hr
    ·exact hb j hj O
 ·obtain rfl:i=L.length:=by omega
  refine Xe U<|Xo W W<|Xw func374<|hret _ _ _ _ (RO.le_refl _) ⟨?_,rfl,rfl⟩ Vs
  rw [findA_miss (fun j hj=>hb j hj hj)];rfl
theorem containsP_c(hl:LsP ro v L)(hn:L.length≤1000000)
  (hf:∀q∈L,∀w,CallV prog J fv [pcV q w] ro pre (fun v ro' pre'=>v= .bool (f q)∧ro'=ro∧pre'=pre)):
  CallV prog J (fnv 371) [v,fv] ro pre (fun w ro' pre'=>w= .bool (L.any f)∧ro'=ro∧pre'=pre):=by
 refine CallV.intro (first:= []) (vs:= [_,_]) (cap:= []) hJ Kr fun c cs tail hret=>enter_X (n:=9) func371 U U (Nl U) ?_
 have C:Ctx prog main J (bf 371 .normal):=⟨hJ,by decide⟩
 refine Xo W W<|Xm W W<|Ro W<|R.call C U U U U (pre:=pre) (tail:=tail) U (indexP_c hJ hl hn hf) fun w ro2 pre2 hl2 hp2=>?_
 obtain⟨rfl,rfl,rfl⟩:=hp2
 refine Ri Z b_geq<|Ae W<|Xw func371<|hret _ _ _ _ (RO.le_refl _) ⟨?_,rfl,rfl⟩ Vs
 simp only [retVal, ←findA_any]
theorem pieces_c{b:Bk}(hv:BkV ro v b)(hs:b.short):CallP prog J (fnv 366) [v] ro (.int .i64 b.piecesH):=by
 obtain⟨vp,vo,vh,rfl,hp,ho,hh,hcp,hco⟩:=hv
 have hp0:=hp
 obtain⟨pb,pc,rfl⟩:=hp.form
 obtain⟨_,_,_,ep,hcp⟩:=hcp
 cases ep
 have hsl:=hs.ps
 refine EP 53 hJ F366 W fun c cs tail hret C=>Xu W<|Bx Z fun p1=>Ae W<|Xx W<|Rv 0 W A181 U B66<|Rv 3 W A66 U B63<|Rj W G63 V U<|Rt W A63<|Cp Z (inside_c hJ _ _ _ _)<|Rh Y<|Zc U (fun hn=>?_) (fun hn=>?_)
 ·refine Xu W<|Hq W F366 hret ?_
  have hn:between (b.ps.length:Int) 1 5=false:=by simpa using hn
  rw [Bk.piecesH,if_pos (by simp [hn])];rfl
 ·have hn:between (b.ps.length:Int) 1 5=true:=by simpa using hn
  rw [Bk.piecesH,if_neg (by simp [hn])] at hret
  refine Xz<|Xx W<|Rv 0 W A181 U B66<|Rv 3 W A66 U B63<|Rj W G63 V U<|Rt W A63<|Ro W<|Rz<|Xb<|X.loopI (ι:=Nat) C.1 (fun i=>i≤b.ps.length∧piecesGo [] b.ps=piecesGo ((b.ps.take i).map Pc.nm) (b.ps.drop i))
   (fun i=> [(14, .slice pb b.ps.length pc),(15, .int .i64 (b.ps.length:Int)),(16, .int .i64 (i:Int)),(1, .pointer (some ⟨p1,0,none⟩))])
   (fun _=>⟨ro,(p1, .cells [.int .i64 b.lim, .int .i64 b.bal.lo, .int .i64 b.bal.hi, .slice pb b.ps.length pc,vo,vh].toArray 181 (0,0))::tail⟩) (fun i=>b.ps.length-i) 0 ⟨Nat.zero_le _,by simp⟩ rfl ⟨U,U,U,U,trivial⟩ fun i hi hnext=>?_
  obtain⟨hi,hr⟩:=hi
  refine Xu W<|Ri Z b_lss<|Rz<|Xv<|Xj U (fun hlt=>?_) (fun hlt=>?_)
  ·have hi':i<b.ps.length:=O
   have hlp:=lsP_take hp0 (show i≤b.ps.length by omega)
   obtain⟨p,off,cap,l,t,fq,hsl',hrop,hsub⟩:=hp.at O
   cases hsl'
   obtain⟨qb,qc,hld,hqc,hq⟩:=hsub i hi'
   have hnm:=hsl.2 _ (List.getElem_mem hi')
   have hmt:=map_take (f:=Pc.nm) hi'
   have hbl:((b.ps.take i).map Pc.nm).length=i:=by simp;omega
   rw [List.drop_eq_getElem_cons hi'] at hr
   generalize b.ps[i]=q at hr hld hqc hq hnm hmt
   simp only [piecesGo,hbl] at hr
   refine Xz<|Xv<|Xb<|Xm W W<|Ry Y A63 B174<|La Y G174 B174 hrop hld<|Al W K174 U fun p4=>Rg Y<|Rs Z B174 Y V Ph5<|Rz<|Xv<|Xb<|Xu W<|Rv 0 W A174 U B9<|Rj W G9 V U<|Cp Z (isLabel_c hJ q.nm O ro)<|Rh Y<|Ae W<|Xc U (fun h1=>?_) (fun h1=>?_)
   ·have h1:isLabel q.nm=false:=by simpa using h1
    refine Xu W<|Hq W F366 hret ?_
    rw [h1] at hr
    rw [hr];rfl
   ·have h1:isLabel q.nm=true:=by simpa using h1
    rw [h1] at hr
    simp only [Bool.not_true,Bool.false_eq_true,if_false] at hr
    refine Xu W<|Rv 0 W A181 U B66<|Rv 3 W A66 U B63<|Rj W G63 V U<|Ro W<|R.sliceTo C U U U U A63 B174 O O<|R.makeFunc C U U U U<|R.call C U U U U (pre:= [_]) (tail:=_::tail) U (containsP_c hJ (f:=fun x=>x.nm==q.nm) hlp Zo fun x _ w=>pieces1_c hJ x w ro) fun w2 ro2 pre2 hl2 hp2=>?_
    obtain⟨rfl,rfl,rfl⟩:=hp2
    rw [any_nm]
    refine Ae W<|Xc U (fun h2=>?_) (fun h2=>?_)
    ·have h2:q.nm∈(b.ps.take i).map Pc.nm:=by simpa using h2
     rw [if_pos h2] at hr
     refine Xu W<|Hq W F366 hret ?_
     rw [hr];rfl
    ·have h2:¬q.nm∈(b.ps.take i).map Pc.nm:=by simpa using h2
     rw [if_neg h2] at hr
     refine Xu W<|Rv 1 W A174 U B3<|Rj W G3 V U<|Cp Z (inside_c hJ _ _ _ _)<|Rh Y<|Ro W<|R.fix (t:=39) U (fun h3=>?_) (fun h3=>?_)
     ·have h3:between q.arm (-9) 9=false:=by simpa using h3
      refine Rp W<|Rp W<|Rp W<|Rp W<|Pp Z<|Ae W<|Xc U (fun _=>?_) (fun h=>nomatch h)
      refine Xu W<|Hq W F366 hret ?_
      rw [h3] at hr
      rw [hr];rfl
     ·have h3:between q.arm (-9) 9=true:=by simpa using h3
      rw [h3] at hr
      simp only [Bool.not_true,Bool.false_or] at hr
      refine Rv 2 W A174 U B45<|Rq W G45 B45 V (.skip (.skip Tk2))<|Cp Z (isReach_c hJ q.r _ _ _ _ O O)<|Rh Y<|Pf Z<|Ae W<|Xc U (fun h4=>?_) (fun h4=>?_)
      ·have h4:isReach q.r 1 99 3=false:=by simpa using h4
       refine Xu W<|Hq W F366 hret ?_
       rw [h4] at hr
       rw [hr];rfl
      ·have h4:isReach q.r 1 99 3=true:=by simpa using h4
       rw [h4] at hr
       simp only [Bool.not_true,Bool.false_eq_true,if_false] at hr
       refine Xz<|Xi<|Xu W<|Rv 4 W A174 U B58<|Rj W G58 V U<|Ro W<|Cp Z (climbs_c hJ hq O O)<|Ae W<|Xm W W<|Ri Z b_neq<|Zc U (fun h5=>?_) (fun h5=>?_)
       ·have h5:climbsH (i:Int) none q.on≠0:=by simpa using h5
        rw [if_pos h5] at hr
        refine Xm W W<|Hq W F366 hret ?_
        rw [hr];rfl
       ·have h5:climbsH (i:Int) none q.on=0:=by simpa using h5
        rw [if_neg (fun e=>e h5), ←hmt] at hr
        refine Xz<|Xi<|Xg W<|Rb Y<|Ro W<|Rz<|X.drop C.1 (own':=_::tail) (List.sublist_cons_self _ _)<|X.weaken ?_ (hnext (i+1) ⟨hi',hr⟩ O)
        exact⟨rfl,rfl,by simp [look],rfl,trivial⟩
  ·obtain rfl:i=b.ps.length:=by omega
   simp only [List.drop_length,piecesGo] at hr
   refine Xe U<|Xu W<|Hq W F366 hret ?_
   rw [hr];rfl
end Go.Lg.H
namespace Go.Lg.H
open Go Go.Conc Go.Lg Go.Proofs Go.Lg.B Go.Proofs.Tryz
variable {b:Bk}
def Bk.aboveTo(b:Bk)(k:Int)(n:Nat):List Int:=((List.range n).filter fun i=>k∈(b.ps.getD i default).on).map fun i:Nat=>(i:Int)
theorem above_all(b:Bk)(k:Int):b.aboveTo k b.ps.length=b.above k:=rfl
theorem above_succ(b:Bk)(k:Int)(n:Nat):b.aboveTo k (n+1)=b.aboveTo k n++if k∈(b.ps.getD n default).on then [(n:Int)] else []:=by
 unfold Bk.aboveTo
 rw [List.range_succ,List.filter_append,List.map_append]
 congr 1
 by_cases h:k∈(b.ps.getD n default).on
 ·have h':k∈(b.ps[n]?.getD default).on:=by simpa [List.getD_eq_getElem?_getD] using h
  simp [h']
 ·have h':¬k∈(b.ps[n]?.getD default).on:=by simpa [List.getD_eq_getElem?_getD] using h
  simp [h']
theorem above_len(b:Bk)(k:Int)(n:Nat):(b.aboveTo k n).length≤n:=by
 unfold Bk.aboveTo
 rw [List.length_map]
 have:=List.length_filter_le (fun i=>decide (k∈(b.ps.getD i default).on)) (List.range n)
 rw [List.length_range] at this
 exact this
theorem above_in{k x:Int}{n:Nat}(h:x∈b.aboveTo k n):0≤x∧x<n:=by
 unfold Bk.aboveTo at h
 obtain⟨i,hi,rfl⟩:=List.mem_map.1 h
 have:=List.mem_range.1 (List.mem_filter.1 hi).1
 omega
variable {main:Bool}{J:Goroutine→Mem→Prop}(hJ:Closed prog main J)
include hJ
theorem above_c{v:Value}{ro:RO}(hv:BkV ro v b)(hs:b.short)(k:Int):CallR prog J (fnv 267) [v, .int .i64 k] ro (fun w ro'=>LsI ro' w (b.above k)):=by
 obtain⟨vp,vo,vh,rfl,hp,ho,hh,hcp,hco⟩:=hv
 obtain⟨pb,pc,rfl⟩:=hp.form
 have hsl:=hs.ps
 refine ER 27 hJ func267 W fun c cs tail hret C=>Xu W<|Bx Z fun p2=>Ae W<|Xo W W<|Xx W<|Rv 0 W A181 U B66<|Rv 3 W A66 U B63<|Rj W G63 V U<|Rt W A63<|Ro W<|Rz<|Xb<|X.loopI (ι:=Nat×Value×List (Nat×Obj)) C.1 (fun s=>s.1≤b.ps.length∧Buf 3 1 [] s.2.1 ((b.aboveTo k s.1).flatMap ic) s.2.2)
  (fun s=> [(5,s.2.1),(10, .slice pb b.ps.length pc),(11, .int .i64 (b.ps.length:Int)),(12, .int .i64 (s.1:Int)),(1, .int .i64 k),(2, .pointer (some ⟨p2,0,none⟩))])
  (fun s=>⟨ro,s.2.2++(p2, .cells [.int .i64 b.lim, .int .i64 b.bal.lo, .int .i64 b.bal.hi, .slice pb b.ps.length pc,vo,vh].toArray 181 (0,0))::tail⟩) (fun s=>b.ps.length-s.1) (0, .slice none 0 0, []) ⟨Nat.zero_le _, .nil⟩ rfl ⟨U,U,U,U,U,U,trivial⟩ fun s hi hnext=>?_
 obtain⟨i,v0,pre⟩:=s
 obtain⟨hi,hb⟩:=hi
 simp only at hi hb hnext⊢
 refine Xu W<|Ri Z b_lss<|Rz<|Xv<|Xj U (fun hlt=>?_) (fun hlt=>?_)
 ·have hi':i<b.ps.length:=O
  obtain⟨p,off,cap,l,t,fq,hsl',hrop,hsub⟩:=hp.at O
  cases hsl'
  obtain⟨qb,qc,hld,hqc,hq⟩:=hsub i hi'
  have hnm:=hsl.2 _ (List.getElem_mem hi')
  have hsu:=above_succ b k i
  have hal:=above_len b k i
  have hfc:=flat_len (b.aboveTo k i)
  have eg:b.ps.getD i default=b.ps[i]:=by simp [List.getD_eq_getElem?_getD,hi']
  rw [eg] at hsu
  generalize b.ps[i]=q at hld hqc hq hnm hsu
  refine Xz<|Xv<|Xb<|Xm W W<|Ry Y A63 B174<|La Y G174 B174 hrop hld<|Al W K174 U fun p7=>Rg Y<|Rs Z B174 Y (by repeat (first|exact Uh|apply Ut|apply Upd.app)) Ph5<|Rz<|Xu W<|Rv 4 W A174 U B58<|R.loadOne C U U U G58 Vm U<|Ro W<|Cp Z (containsI_c hJ k hq O)<|Rz<|X.perm C.1 List.perm_middle.symm<|Xc U (fun h1=>?_) (fun h1=>?_)
  ·have h1:k∈q.on:=by simpa using h1
   rw [if_pos h1] at hsu
   refine Xg W<|Oo W W<|R.buildSlice C (vs:=_) U U (show pvals _ _=some (numbered 0 [_]) from rfl) U A58 B3 K3 Dd (Cat.one U U) fun p23=>R.append1 (kk:=1) C U U U U A58 A58 (fun _=>nofun) (show prog.info? 3=some Tryz.t3 by kernel_rfl) U U U Dd Dd (hb.app _) U U (by simp only [List.length_append,List.length_cons,List.length_nil];omega) fun v' own' hb'=>Ae W<|Xi<|Xg W<|Rb Y<|Ro W<|Rz ?_
   obtain⟨pre2,rfl,hb2⟩:=hb'.unapp (H:=_::_::tail)
   refine X.drop C.1 (own':=pre2++_::tail) (List.Sublist.append_left (List.sublist_cons_self _ _) pre2)<|X.weaken ?_ (hnext (i+1,v',pre2) ⟨hi', ?_⟩ ?_)
   ·exact⟨rfl,rfl,rfl,by simp [look],rfl,rfl,trivial⟩
   ·rw [hsu,List.flatMap_append];exact hb2
   ·simp only;omega
  ·have h1:¬k∈q.on:=by simpa using h1
   rw [if_neg h1,List.append_nil] at hsu
   refine Xz<|Xi<|Xg W<|Rb Y<|Ro W<|Rz<|X.drop C.1 (own':=pre++_::tail) (List.Sublist.append_left (List.sublist_cons_self _ _) pre)<|X.weaken ?_ (hnext (i+1,v0,pre) ⟨hi', ?_⟩ ?_)
   ·exact⟨rfl,rfl,rfl,by simp [look],rfl,rfl,trivial⟩
   ·rw [hsu];exact hb
   ·simp only;omega
 ·obtain rfl:i=b.ps.length:=by omega
  rw [above_all] at hb
  refine Xe U<|Xm W W<|Ae W<|X.finish C.1 ic_len Dd (hb.app _) fun ro3 hl3 hls3=>Xw func267<|Hr hret hl3 ?_
  exact hls3
end Go.Lg.H
namespace Go.Lg
open Go Go.Conc
section
variable {P:Program}{main:Bool}{J:Goroutine→Mem→Prop}{b:Frame}(C:Ctx P main J b){cs:List Frame}{n:Nat}{ds:List Deferred}{σ:Slots}{k:List Item}{ops:Array Oper}{i:Nat}{rest:List Nat}
 {d:Nat} {ty:TypeId} {pos:String} {af:Array Edge} {g:Option (Nat×Bool)}
include C
theorem R.buildA0{t e:TypeId}{len kk:Nat}{z:Value}{zl:List Value}{M:Mem}(ho:ops[i]? =some ⟨some d, .build t #[],ty,pos,af,g⟩)(hg:wantedS ops σ ⟨some d, .build t #[],ty,pos,af,g⟩=some true)
  (hz:∀w,Sem.run P (Go.zeroValue t) w= .ok z w) (hzl:z.cells=zl.toArray) (hu:∀w,Sem.run P (Go.underlying t) w= .ok (.array len e) w) (hs:∀w,Sem.run P (Go.sizeOf e) w= .ok kk w)
  (h:R J b cs n ops rest k ds ((d, .agg zl.toArray)::σ) M):R J b cs n ops (i::rest) k ds σ M:=
 R.v C ho hg rfl (fun a ha K hk=>by
  unfold execOp
  refine ex_v ?_
  have e:((#[]:Array (Nat×Operand)).map fun(x:Nat×Operand)=>(x.1,a.eval x.2))= #[]:=by simp
  show Sm P M (Instr.build t ((#[]:Array (Nat×Operand)).map fun(x:Nat×Operand)=>(x.1,a.eval x.2))) _
  rw [e]
  unfold Instr.build
  refine Sm.bind (Sm.zeroValue hz (Sm.bind (Sm.underlying hu ?_)))
  simp only
  refine Sm.bind (Sm.sizeOf hs ?_)
  rw [hzl]
  exact Sm.pure hk) h
end
end Go.Lg
namespace Go.Lg.H
open Go Go.Conc Go.Lg Go.Proofs Go.Lg.B Go.Proofs.Tryz
variable {ro:RO}{n:Int}{t:TypeId}{fq:Nat×Nat}{b:Bk}{v:Value}
def Env(ro:RO):Prop:= ∃t fq,ro 2=some (.cells [fnv 365,fnv 366,fnv 367,fnv 368].toArray t fq)
theorem Env.mono{ro':RO}(h:Env ro)(hl:ro.le ro'):Env ro':=let⟨t,fq,e⟩:=h;⟨t,fq,hl _ _ e⟩
theorem one_ls{p cap:Nat}(h:ro p=some (.cells [.int .i64 n].toArray t fq)):LsI ro (.slice (some ⟨p,0,none⟩) 1 cap) [n]:=⟨_,_,rfl, .inr ⟨p,0,_,_,_,rfl,h, .take .nil⟩⟩
theorem CallPR{P:Program}{J:Goroutine→Mem→Prop}{fv:Value}{args:List Value}{w:Value}(h:CallP P J fv args ro w):CallR P J fv args ro (fun v _=>v=w):=CallV.mono h fun _ _ _ _ h=>⟨h.1,h.2.2⟩
variable {main:Bool}{J:Goroutine→Mem→Prop}(hJ:Closed prog main J)
include hJ
theorem free1_c{a4:Nat}{d:List Int}(h4:ro a4=some (.cells (arrL d).toArray t fq))(hn:0≤n∧n<5):CallP prog J (.func (.func 268) #[] [.pointer (some ⟨a4,0,none⟩)].toArray) [.int .i64 n] ro (.bool (!decide (n∈d))):=by
 refine CallP.introC hJ Kr fun c cs tail hret=>enter_X (n:=8) func268 U U (Nl U) ?_
 have C:Ctx prog main J (bf 268 .normal):=⟨hJ,by decide⟩
 refine Xo W W<|Xm W W<|R.indexAddrA C U U U U A243 B4 O O<|Lo Y G4 h4 (arr_get d hn)<|Rh Y<|Hq W func268 hret ?_
 rfl
theorem free_c(hv:BkV ro v b)(hs:b.short)(h5:b.ps.length≤5)(d:List Int){k:Int}(hkn:0≤k∧k<5):CallR prog J (fnv 203) [v,arrV d, .int .i64 k] ro (fun w _=>w= .bool (b.free d k)):=by
 have hv0:=hv
 obtain⟨vp,vo,vh,rfl,hp,ho,hh,hcp,hco⟩:=hv
 by_cases hd:k∈d
 ·have _:=hd
  refine ER 19 hJ func203 W fun c cs tail hret C=>Xu W<|Bx Z fun p3=>Bx Z fun p4=>Ae W<|Xm W W<|R.indexAddrA C U U U U A243 B4 O O<|R.loadOne C U U U G4 V (arr_get d hkn)<|Rh Y<|FF 10 U (by(exact congrArg Value.bool (by simp [hd])))<|Ro W<|Rp W<|Rp W<|Rp W<|Rp W<|Rp W<|Rp W<|Pf Z<|Ae W<|Xw func203<|Hr hret (RO.le_refl _) ?_
  simp [Bk.free,hd,retVal]
 ·have _:=hd
  refine ER 19 hJ func203 W fun c cs tail hret C=>Xu W<|Bx Z fun p3=>Bx Z fun p4=>Ae W<|Xm W W<|R.indexAddrA C U U U U A243 B4 O O<|R.loadOne C U U U G4 V (arr_get d hkn)<|Rh Y<|FT 10 U (by(exact congrArg Value.bool (by simp [hd])))<|Ro W<|Rq W G181 B181 V Tk6<|Ro W<|R.callR C U U U U (above_c hJ hv0 hs k) fun v1 ro1 hl1 hp1=>R.makeFunc C U U U U<|R.persist C.1 fun ro2 hl2 hps=>?_
  obtain⟨ab,ac,rfl⟩:=hp1.form
  have hal:=above_len b k b.ps.length
  rw [above_all] at hal
  refine Cp Z ((containsFunc_c hJ (hp1.mono hl2) O fun x hx=>free1_c hJ hps (by have:=above_in (n:=b.ps.length) hx;omega)))<|Rh Y<|Pp Z<|Ae W<|Xw func203<|Hr hret (RO.le_trans hl1 hl2) ?_
  simp [Bk.free,hd,retVal]
theorem lifted_c{vl:Value}(hv:BkV ro v b)(hs:b.short)(h5:b.ps.length≤5)(d:List Int){l:List Int}(hl:LsI ro vl l)(hn:l.length≤1000):CallR prog J (fnv 122) [v,arrV d,vl] ro (fun w _=>w= .tuple [arrV (b.liftGo d l).1, .int .i64 (b.liftGo d l).2].toArray):=by
 have hv0:=hv
 obtain⟨vp,vo,vh,rfl,hp,ho,hh,hcp,hco⟩:=hv
 obtain⟨lb,lc,rfl⟩:=hl.form
 refine ER 40 hJ func122 W fun c cs tail hret C=>Xu W<|Bx Z fun p3=>Bx Z fun p4=>Al W K243 U fun p6=>Ae W<|Xx W<|Ro W<|Rt W A58<|Ro W<|Rz<|Xb<|X.loopI (ι:=Nat×RO×List Int) C.1 (fun s=>s.1≤l.length∧ro.le s.2.1∧b.liftGo d l=b.liftGo s.2.2 (l.drop s.1))
  (fun s=> [(10, .slice lb l.length lc),(11, .int .i64 (l.length:Int)),(12, .int .i64 (s.1:Int)),(3, .pointer (some ⟨p3,0,none⟩)),(4, .pointer (some ⟨p4,0,none⟩)),(6, .pointer (some ⟨p6,0,none⟩))])
  (fun s=>⟨s.2.1,(p6, .cells [.bool false, .bool false, .bool false, .bool false, .bool false].toArray 243 (0,0))::(p4, .cells (arrL s.2.2).toArray 243 (0,0))::(p3, .cells [.int .i64 b.lim, .int .i64 b.bal.lo, .int .i64 b.bal.hi,vp,vo,vh].toArray 181 (0,0))::tail⟩) (fun s=>l.length-s.1) (0,ro,d) ⟨Nat.zero_le _,RO.le_refl _,by simp⟩ rfl ⟨U,U,U,U,U,U,trivial⟩ fun s hi hnext=>?_
 obtain⟨i,ro1,e⟩:=s
 obtain⟨hi,hle,hr⟩:=hi
 simp only at hi hle hr hnext⊢
 refine Xu W<|Ri Z b_lss<|Rz<|Xv<|Xj U (fun hlt=>?_) (fun hlt=>?_)
 ·have hi':i<l.length:=O
  obtain⟨pp,off,cap,ll,t,fq,hsl,hrop,hsub⟩:=hl.at ic_len O
  cases hsl
  have hx:=ic_at hsub hi'
  rw [List.drop_eq_getElem_cons hi'] at hr
  generalize l[i]=n at hr hx
  simp only [Bk.liftGo] at hr
  refine Xz<|Xv<|Xb<|Xu W<|Ry Y A58 B3<|Lo Y G3 (hle _ _ hrop) hx<|Ae W<|Xv<|Xb<|Xu W<|Rq W G181 B181 V Tk6<|Ro W<|Cp Z (isPiece_c hJ (hv0.mono hle) hs.ps.1 n)<|Rh Y<|Ae W<|Xc U (fun h1=>?_) (fun h1=>?_)
  ·have h1:b.isPiece n=false:=by simpa using h1
   rw [h1] at hr
   refine Xu W<|Rq W G243 B243 V Tk5<|Rs Z B243 Y V Ph5<|Ae W<|X.ret C U U func122 U (by exact(.agg U G243 B243 V Tk5 (.tmp U .nil)))<|Hr hret hle ?_
   rw [hr];rfl
  ·have h1:b.isPiece n=true:=by simpa using h1
   rw [h1] at hr
   simp only [Bool.not_true,Bool.false_eq_true,if_false] at hr
   have hnb:=between_iff.1 h1
   have hn5:0≤n∧n<5:=O
   refine Xm W W<|R.indexAddrA C U U U U A243 B4 O O<|R.loadOne C U U U G4 V (arr_get e hn5)<|Ae W<|Xc U (fun h2=>?_) (fun h2=>?_)
   ·have h2:n∈e:=by simpa using h2
    rw [if_pos h2] at hr
    refine Xu W<|Rq W G243 B243 V Tk5<|Rs Z B243 Y V Ph5<|Ae W<|X.ret C U U func122 U (by exact(.agg U G243 B243 V Tk5 (.tmp U .nil)))<|Hr hret hle ?_
    rw [hr];rfl
   ·have h2:¬n∈e:=by simpa using h2
    rw [if_neg h2] at hr
    refine Xu W<|Rq W G181 B181 V Tk6<|Rq W G243 B243 V Tk5<|Ro W<|R.callR C U U U U (free_c hJ (hv0.mono hle) hs h5 e hn5) fun v2 ro2 hl2 hq2=>?_
    subst hq2
    have k2:=RO.le_trans hle hl2
    refine Rh Y<|Ae W<|Xc U (fun h3=>?_) (fun h3=>?_)
    ·have h3:b.free e n=false:=by simpa using h3
     rw [h3] at hr
     refine Xu W<|Rq W G243 B243 V Tk5<|Rs Z B243 Y V Ph5<|Ae W<|X.ret C U U func122 U (by exact(.agg U G243 B243 V Tk5 (.tmp U .nil)))<|Hr hret k2 ?_
     rw [hr];rfl
    ·have h3:b.free e n=true:=by simpa using h3
     rw [h3] at hr
     simp only [Bool.not_true,Bool.false_eq_true,if_false] at hr
     refine Xz<|Xi<|Xg W<|Rq W G243 B243 V Tk5<|Ro W<|R.buildSlice C (vs:=_) U U (show pvals _ _=some (numbered 0 [_]) from rfl) U A58 B3 K3 Dd (Cat.one U U) fun p36=>R.persist C.1 fun ro3 hl3 hps=>Cp Z (with_c hJ (one_ls hps) Zi (fun x hx=>by rw [List.mem_singleton] at hx;rw [hx];exact hn5) e)<|Rs Z B243 Y V Ph5<|Rz<|Xi<|Xg W<|Rb Y<|Ro W<|Rz<|X.weaken ?_ (hnext (i+1,ro3,e++ [n]) ⟨hi',RO.le_trans k2 hl3,hr⟩ (by simp only;omega))
     exact⟨rfl,rfl,by simp [look],rfl,rfl,rfl,trivial⟩
 ·obtain rfl:i=l.length:=by omega
  simp only [List.drop_length,Bk.liftGo] at hr
  refine Xe U<|Xu W<|Rq W G243 B243 V Tk5<|Rs Z B243 Y V Ph5<|Ae W<|X.ret C U U func122 U (by exact(.agg U G243 B243 V Tk5 (.tmp U .nil)))<|Hr hret hle ?_
  rw [hr];rfl
theorem out_c(hv:BkV ro v b)(hs:b.short)(h5:b.ps.length≤5):CallR prog J (fnv 367) [v] ro (fun w _=>w= .int .i64 b.outH):=by
 have hv0:=hv
 obtain⟨vp,vo,vh,rfl,hp,ho,hh,hcp,hco⟩:=hv
 obtain⟨ob,oc,rfl⟩:=ho.form
 refine ER 15 hJ func367 W fun c cs tail hret C=>Xu W<|Bx Z fun p1=>Ae W<|Xu W<|Rq W G181 B181 V Tk6<|R.buildA0 C U U K243 U A243 B4<|Rv 0 W A181 U B66<|Rv 4 W A66 U B58<|Rj W G58 V U<|R.callR C U U U U (lifted_c hJ hv0 hs h5 [] ho hs.out) fun v1 ro1 hl1 hp1=>?_
 subst hp1
 refine Ro W<|Re Z<|Re Z<|Al W K243 U fun p3=>Rs Z B243 Y V Ph5<|Ae W<|Xm W W<|Ae W<|Xw func367<|Hr hret hl1 ?_
 rfl
omit hJ in
def hit(b:Bk):Nat→Int
 |0=>b.hullH
 |1=>b.piecesH
 |2=>b.outH
 |_=>b.heelsH
omit hJ in
theorem check_hit{i:Nat}(hi:i<4)(hh:hit b i≠0)(h:∀j,j<i→hit b j=0):checkBook b=hit b i:=by
 have h5:i=0∨i=1∨i=2∨i=3:=O
 unfold checkBook
 rcases h5 with rfl|rfl|rfl|rfl
 ·exact if_pos hh
 ·rw [if_neg (fun k=>k (h 0 O))];exact if_pos hh
 ·rw [if_neg (fun k=>k (h 0 O)),if_neg (fun k=>k (h 1 O))];exact if_pos hh
 ·rw [if_neg (fun k=>k (h 0 O)),if_neg (fun k=>k (h 1 O)),if_neg (fun k=>k (h 2 O))];rfl
omit hJ in
theorem check_zero(h:∀j,j<4→hit b j=0):checkBook b=0:=by
 unfold checkBook
 rw [if_neg (fun k=>k (h 0 O)),if_neg (fun k=>k (h 1 O)),if_neg (fun k=>k (h 2 O))]
 exact h 3 O
omit hJ in
theorem pieces_few(h:b.piecesH=0):b.ps.length≤5:=by
 obtain⟨w,_⟩:=ite_zero Dd h
 simp only [Bool.not_eq_true',Bool.not_eq_false,between_iff] at w
 omega
theorem checkBook_c(he:Env ro)(hv:BkV ro v b)(hs:b.short):CallR prog J (fnv 90) [v] ro (fun w _=>w= .int .i64 (checkBook b)):=by
 have hv0:=hv
 obtain⟨vp,vo,vh,rfl,hp,ho,hh,hcp,hco⟩:=hv
 obtain⟨te,fe,hen⟩:=he
 refine ER 18 hJ func90 W fun c cs tail hret C=>Xu W<|Bx Z fun p1=>Ae W<|Xx W<|La Y isAgg305 sizeOf305 hen Tk4<|Ro W<|Rz<|Xb<|X.loopI (ι:=Nat×RO) C.1 (fun s=>s.1≤4∧ro.le s.2∧∀j,j<s.1→hit b j=0) (fun s=> [(6, .agg [fnv 365,fnv 366,fnv 367,fnv 368].toArray),(7, .int .i64 (s.1:Int)),(1, .pointer (some ⟨p1,0,none⟩))])
  (fun s=>⟨s.2,(p1, .cells [.int .i64 b.lim, .int .i64 b.bal.lo, .int .i64 b.bal.hi,vp,vo,vh].toArray 66 (0,0))::tail⟩) (fun s=>4-s.1) (0,ro) ⟨Nat.zero_le _,RO.le_refl _,fun j hj=>absurd hj (Nat.not_lt_zero _)⟩ rfl ⟨U,U,U,trivial⟩ fun s hi hnext=>?_
 obtain⟨i,ro1⟩:=s
 obtain⟨hi,hle,hr⟩:=hi
 simp only at hi hle hr hnext⊢
 refine Xu W<|Ri Z b_lss<|Rz<|Xv<|Xj U (fun hlt=>?_) (fun hlt=>?_)
 ·have hi':i<4:=O
  have h5:i=0∨i=1∨i=2∨i=3:=O
  have hget: [fnv 365,fnv 366,fnv 367,fnv 368][((i:Int)).toNat*1]? =some (fnv (365+i)):=by
   rcases h5 with rfl|rfl|rfl|rfl<;>rfl
  have hvi:=hv0.mono hle
  have hcall:CallR prog J (fnv (365+i)) [.agg [.int .i64 b.lim, .int .i64 b.bal.lo, .int .i64 b.bal.hi,vp,vo,vh].toArray] ro1 (fun w _=>w= .int .i64 (hit b i)):=by
   rcases h5 with rfl|rfl|rfl|rfl
   ·exact CallPR (hull_c hJ hvi)
   ·exact CallPR (pieces_c hJ hvi hs)
   ·exact out_c hJ hvi hs (pieces_few (hr 1 O))
   ·exact CallPR (heels_c hJ hvi hs)
  refine Xz<|Xv<|Xb<|Xu W<|R.index C U U U U runUnderlying305 isAgg189 sizeOf189 O O hget<|Ae W<|Xm W W<|Rq W G66 B66 V Tk6 ?_;refine R.build C U U U zeroValue181 U A181 Kr (Fills.part U U B66 U Ph6 .nil)<|R.callR C U U U U (hcall) fun v2 ro2 hl2 hq2=>?_
  subst hq2
  refine Ae W<|Xm W W<|Ri Z b_neq<|Zc U (fun hh=>?_) (fun hh=>?_)
  ·have hh:hit b i≠0:=by simpa using hh
   refine Xm W W<|Ae W<|Xw func90<|Hr hret (RO.le_trans hle hl2) ?_
   show Value.int .i64 (hit b i)=_
   congr 1
   exact(check_hit hi' hh hr).symm
  ·have hh:hit b i=0:=by simpa using hh
   refine Xz<|Xi<|Xg W<|Rb Y<|Ro W<|Rz<|X.weaken ?_ (hnext (i+1,ro2) ⟨O,RO.le_trans hle hl2,fun j hj=>?_⟩ (by simp only;omega))
   ·exact⟨rfl,by simp [look],rfl,trivial⟩
   ·by_cases e:j=i
    ·rw [e];exact hh
    ·exact hr j (by simp only at hj;omega)
 ·obtain rfl:i=4:=by omega
  refine Xe U<|Xo W W<|Xw func90<|Hr hret hle ?_
  rw [check_zero hr];rfl
end Go.Lg.H
namespace Go.Lg.H
open Go Go.Conc Go.Lg Go.Proofs Go.Lg.B Go.Proofs.Tryz
variable {ws:List Int}{fv v:Value}{ro:RO}{L:List Hl}{f:Hl→Bool}{pre:List (Nat×Obj)}
abbrev cgL(n:Int)(ws:List Int):List Value:= .int .i64 n::ints ws
abbrev cgV(n:Int)(ws:List Int):Value:= .agg (cgL n ws).toArray
theorem cg_at(n:Int){i:Nat}(h:i<ws.length):(cgL n ws)[1+((i:Int)).toNat*1]? =some (.int .i64 (ws.getD i 0)):=by
 rw [Int.toNat_natCast,Nat.mul_one,Nat.add_comm,List.getElem?_cons_succ]
 simp [ints,List.getD_eq_getElem?_getD,h]
theorem cg_len(n:Int)(h:ws.length=5):(cgL n ws).length=6:=by simp [ints,h]
theorem mul_bd{x y:Int}(h1: -9≤x∧x≤9)(h2:0≤y∧y≤99): -891≤x*y∧x*y≤891:=by
 have h:x= -9∨x= -8∨x= -7∨x= -6∨x= -5∨x= -4∨x= -3∨x= -2∨x= -1∨x=0∨x=1∨x=2∨x=3∨x=4∨x=5∨x=6∨x=7∨x=8∨x=9:=O
 rcases h with rfl|rfl|rfl|rfl|rfl|rfl|rfl|rfl|rfl|rfl|rfl|rfl|rfl|rfl|rfl|rfl|rfl|rfl|rfl<;>omega
theorem momGo_bd{d ws:List Int}(hw:∀i,0≤ws.getD i 0∧ws.getD i 0≤99):∀ (l:List Pc) (i:Nat) (n:Int),(∀p∈l,p.fine)→n-891*l.length≤momGo d ws i n l∧momGo d ws i n l≤n+891*l.length
 | [],i,n,_=>by simp [momGo]
 |p::l,i,n,h=>by
  have hm:=mul_bd (h p Zi).arm (hw i)
  have ih:=momGo_bd (d:=d) hw l (i+1) (if(i:Int)∈d then n else n+p.arm*ws.getD i 0) fun q hq=>h q (by simp [hq])
  simp only [momGo,List.length_cons]
  split at ih
  ·rename_i e;rw [if_pos e];omega
  ·rename_i e;rw [if_neg e];omega
variable {main:Bool}{J:Goroutine→Mem→Prop}(hJ:Closed prog main J)
include hJ
theorem moment_c{b:Bk}(hv:BkV ro v b)(hb:b.good){n0:Int}(hw5:ws.length=5)(hw:∀i,0≤ws.getD i 0∧ws.getD i 0≤99)(hn0: -999≤n0∧n0≤999)(d:List Int):CallP prog J (fnv 201) [v,cgV n0 ws,arrV d] ro (.int .i64 (moment b (n0,ws) d)):=by
 obtain⟨vp,vo,vh,rfl,hp,ho,hh,hcp,hco⟩:=hv
 obtain⟨pb,pc,rfl⟩:=hp.form
 have hnp:=hb.np
 refine EP 36 hJ func201 W fun c cs tail hret C=>Xu W<|Bx Z fun p3=>Bx Z fun p4=>Bx Z fun p5=>Ae W<|Xu W<|Rv 0 W A193 U B3<|Rj W G3 V U<|Ae W<|Xx W<|Rv 0 W A181 U B66<|Rv 3 W A66 U B63<|Rj W G63 V U<|Rt W A63<|Ro W<|Rz<|Xb<|X.loopI (ι:=Nat×Int) C.1 (fun s=>s.1≤b.ps.length∧moment b (n0,ws) d=momGo d ws s.1 s.2 (b.ps.drop s.1)∧ -999-891*(s.1:Int)≤s.2∧s.2≤999+891*(s.1:Int))
  (fun s=> [(7, .int .i64 s.2),(14, .slice pb b.ps.length pc),(15, .int .i64 (b.ps.length:Int)),(16, .int .i64 (s.1:Int)),(3, .pointer (some ⟨p3,0,none⟩)),(4, .pointer (some ⟨p4,0,none⟩)),(5, .pointer (some ⟨p5,0,none⟩))])
  (fun _=>⟨ro,(p5, .cells (arrL d).toArray 243 (0,0))::(p4, .cells (cgL n0 ws).toArray 193 (0,0))::(p3, .cells [.int .i64 b.lim, .int .i64 b.bal.lo, .int .i64 b.bal.hi, .slice pb b.ps.length pc,vo,vh].toArray 181 (0,0))::tail⟩) (fun s=>b.ps.length-s.1) (0,n0) ⟨Nat.zero_le _,rfl,by simp only;omega,by simp only;omega⟩ rfl ⟨U,U,U,U,U,U,U,trivial⟩ fun s hi hnext=>?_
 obtain⟨i,n⟩:=s
 obtain⟨hi,hr,hn1,hn2⟩:=hi
 simp only at hi hr hn1 hn2 hnext⊢
 refine Xu W<|Ri Z b_lss<|Rz<|Xv<|Xj U (fun hlt=>?_) (fun hlt=>?_)
 ·have hi':i<b.ps.length:=O
  obtain⟨p,off,cap,l,t,fq,hsl',hrop,hsub⟩:=hp.at O
  cases hsl'
  obtain⟨qb,qc,hld,hqc,hq⟩:=hsub i hi'
  have hf:=hb.ps _ (List.getElem_mem hi')
  rw [List.drop_eq_getElem_cons hi'] at hr
  generalize b.ps[i]=q at hr hld hqc hq hf
  simp only [momGo] at hr
  have hm:=mul_bd hf.arm (hw i)
  by_cases hd:(i:Int)∈d
  ·rw [if_pos hd] at hr
   refine Xz<|Xv<|Xb<|Xm W W<|Ry Y A63 B174<|La Y G174 B174 hrop hld<|Al W K174 U fun p9=>Rg Y<|Rs Z B174 Y V Ph5<|Rz<|Xm W W<|R.indexAddrA C U U U U A243 B4 O O<|R.loadOne C U U U G4 V (arr_get d (n:=(i:Int)) O)<|Rh Y<|FF 24 U (by(exact congrArg Value.bool (by simp [hd])))<|Zc U (fun h=>nomatch h) (fun _=>?_)
   refine Xz<|Xi<|Xg W<|Rb Y<|Ro W<|Rz<|X.drop C.1 (own':=_::_::_::tail) (List.sublist_cons_self _ _)<|X.weaken ?_ (hnext (i+1,n) ⟨hi',hr,by simp only;omega,by simp only;omega⟩ (by simp only;omega))
   exact⟨rfl,rfl,rfl,by simp [look],rfl,rfl,rfl,trivial⟩
  ·rw [if_neg hd] at hr
   refine Xz<|Xv<|Xb<|Xm W W<|Ry Y A63 B174<|La Y G174 B174 hrop hld<|Al W K174 U fun p9=>Rg Y<|Rs Z B174 Y V Ph5<|Rz<|Xm W W<|R.indexAddrA C U U U U A243 B4 O O<|R.loadOne C U U U G4 V (arr_get d (n:=(i:Int)) O)<|Rh Y<|FT 24 U (by(exact congrArg Value.bool (by simp [hd])))<|Zc U (fun _=>?_) (fun h=>nomatch h)
   refine Xf fun hok=>Dt 0 Y<|Dh 1 1 Y A174 U B3<|Db 2 W G3 V U<|Dt 3 Y<|Dh 1 4 Y A193 U sizeOf191<|Dp 5 hok (fun _ _ _ A h=>R.indexAddrA C U (A.w U U) (A.x U U) (A.x U U) A191 B3 O O h)<|Db 6 W G3 V (cg_at n0 O)<|Dj 7 Y5 (b_mul O O)<|Dj 8 Y5 (b_add O O)<|Da C 9 hok U U<|Dn<|Xi<|Xg W<|Rb Y<|Ro W<|Rz<|X.drop C.1 (own':=_::_::_::tail) (List.sublist_cons_self _ _)<|X.weaken ?_ (hnext (i+1,n+q.arm*ws.getD i 0) ⟨hi',hr,by simp only;omega,by simp only;omega⟩ (by simp only;omega))
   exact⟨by simp [look],rfl,rfl,by simp [look],rfl,rfl,rfl,trivial⟩
 ·obtain rfl:i=b.ps.length:=by omega
  simp only [List.drop_length,momGo] at hr
  refine Xe U<|Xm W W<|Hq W func201 hret ?_
  rw [hr];rfl
theorem seen1_c{p1 p2:Nat}{n m:Int}(q:Hl)(ro:RO):
  CallV prog J (.func (.func 272) #[] [.pointer (some ⟨p1,0,none⟩), .pointer (some ⟨p2,0,none⟩)].toArray) [q.val] ro [(p2, .cells [.int .i64 m].toArray 3 (0,0)),(p1, .cells [.int .i64 n].toArray 3 (0,0))] (fun v ro' pre'=>v= .bool (q.after==n && q.side !=sideOf m)∧ro'=ro∧pre'= [(p2, .cells [.int .i64 m].toArray 3 (0,0)),(p1, .cells [.int .i64 n].toArray 3 (0,0))]):=by
 by_cases e:q.after=n
 ·have _:=e
  refine CallV.intro (first:= []) (vs:= [_]) (cap:= [_,_]) hJ Kr fun c cs tail hret=>enter_X (n:=16) func272 U U (Nl U) ?_
  have C:Ctx prog main J (bf 272 .normal):=⟨hJ,by decide⟩
  refine Xu W<|Bx Z fun p3=>Ae W<|Xv<|Xf fun hok=>Dh 0 0 Y A69 U B3<|Db 1 W G3 V U<|Db 2 W G3 V U<|Dj 3 Y5 b_eql<|D.fixv (t:=8) (v':= .bool true) U (by(exact congrArg Value.bool (by simp [e])))<|Dt 4 Y<|Dh 1 5 Y A69 U B67<|Db 6 W G67 V U<|Db 7 W G3 V U<|De 8 (some 13) [false,true,false,false] hok (fun _ _ A hk=>?_)
  refine R.callP C U (A.w U U) (A.x U U) (A.s U U) (side_c hJ _ _) (hk _ _ ⟨(QFs.cons (QF.of U (fun _ _ A h=>R.loadOne C U (A.w U U) (A.x U U) G67 V U h)) QFs.nil), ?_⟩)
  refine Dj 9 Y5 b_neq<|Dp 10 hok (fun _ _ _ A h=>R.pickT C U (A.w U U) (A.x U U) (A.x U U) h)<|Da C 11 hok U U<|Dn<|Xw func272 ?_
  exact hret _ _ [_,_] _ (RO.le_refl _) ⟨by simp [e,retVal],rfl,rfl⟩ (by repeat (first|exact Sr|apply Sk|apply Sc))
 ·have _:=e
  refine CallV.intro (first:= []) (vs:= [_]) (cap:= [_,_]) hJ Kr fun c cs tail hret=>enter_X (n:=16) func272 U U (Nl U) ?_
  have C:Ctx prog main J (bf 272 .normal):=⟨hJ,by decide⟩
  refine Xu W<|Bx Z fun p3=>Ae W<|Xv<|Xf fun hok=>Dh 0 0 Y A69 U B3<|Db 1 W G3 V U<|Db 2 W G3 V U<|Dj 3 Y5 b_eql<|D.fixv (t:=8) (v':= .bool false) U (by(exact congrArg Value.bool (by simp [e])))<|Dt 4 Y<|Dr 5 U<|Dr 6 U<|Dr 7 U<|Dr 8 U<|Dr 9 U<|Dp 10 hok (fun _ _ _ A h=>R.pickF C U (A.w U U) (A.x U U) (A.x U U) h)<|Da C 11 hok U U<|Dn<|Xw func272 ?_
  exact hret _ _ [_,_] _ (RO.le_refl _) ⟨by simp [e,retVal],rfl,rfl⟩ (by repeat (first|exact Sr|apply Sk|apply Sc))
theorem indexH_c(hl:Ls Hl.cells 2 ro v L)(hn:L.length≤1000000)
  (hf:∀q∈L,CallV prog J fv [q.val] ro pre (fun v ro' pre'=>v= .bool (f q)∧ro'=ro∧pre'=pre)):
  CallV prog J (fnv 313) [v,fv] ro pre (fun w ro' pre'=>w= .int .i64 (findA f L)∧ro'=ro∧pre'=pre):=by
 obtain⟨lb,lc,rfl⟩:=hl.form
 refine CallV.intro (first:= []) (vs:= [_,_]) (cap:= []) hJ Kr fun c cs tail hret=>enter_X (n:=19) func313 U U (Nl U) ?_
 have C:Ctx prog main J (bf 313 .normal):=⟨hJ,by decide⟩
 refine Xo W W<|Xx W<|Ro W<|Rt W A64<|Ro W<|Rz<|Xb<|X.loopI (ι:=Nat) C.1 (fun i=>i≤L.length∧∀j (h:j<L.length),j<i→f L[j]=false) (fun i=> [(0, .slice lb L.length lc),(1,fv),(7, .int .i64 (L.length:Int)),(8, .int .i64 (i:Int))])
  (fun _=>⟨ro,pre++tail⟩) (fun i=>L.length-i) 0 ⟨Nat.zero_le _,fun _ _ h=>absurd h (Nat.not_lt_zero _)⟩ rfl ⟨U,U,U,U,trivial⟩ fun i hi hnext=>?_
 obtain⟨hi,hb⟩:=hi
 refine Xu W<|Ri Z b_lss<|Rz<|Xv<|Xj U (fun hlt=>?_) (fun hlt=>?_)
 ·have hi':i<L.length:=O
  obtain⟨pp,off,cap,ll,t,fq,hsl,hrop,hsub⟩:=hl.at Hl.len O
  cases hsl
  refine Xz<|Xv<|Xb<|Xm W W<|Ae W<|Xm W W<|Oo W W<|Ry Y A64 B69<|La Y G69 B69 hrop (hsub i hi')<|R.call C U U U U (pre:=pre) (tail:=tail) U (hf _ (List.getElem_mem hi')) fun w ro2 pre2 hl2 hp2=>?_
  obtain⟨rfl,rfl,rfl⟩:=hp2
  refine Zc U (fun hr=>?_) (fun hr=>?_)
  ·refine Xm W W<|Ae W<|Xw func313<|hret _ _ _ _ (RO.le_refl _) ⟨?_,rfl,rfl⟩ Vs
   rw [findA_hit hi' hr hb];rfl
  ·refine Xz<|Xi<|Xg W<|Rb Y<|Ro W<|Rz<|X.weaken ?_ (hnext (i+1) ⟨hi',fun j hj hji=>?_⟩ O)
   ·exact⟨rfl,rfl,rfl,by simp [look],trivial⟩
   ·by_cases e:j=i
    ·subst e;exact hr
    ·exact hb j hj O
 ·obtain rfl:i=L.length:=by omega
  refine Xe U<|Xo W W<|Xw func313<|hret _ _ _ _ (RO.le_refl _) ⟨?_,rfl,rfl⟩ Vs
  rw [findA_miss (fun j hj=>hb j hj hj)];rfl
theorem containsH_c(hl:Ls Hl.cells 2 ro v L)(hn:L.length≤1000000)
  (hf:∀q∈L,CallV prog J fv [q.val] ro pre (fun v ro' pre'=>v= .bool (f q)∧ro'=ro∧pre'=pre)):
  CallV prog J (fnv 271) [v,fv] ro pre (fun w ro' pre'=>w= .bool (L.any f)∧ro'=ro∧pre'=pre):=by
 refine CallV.intro (first:= []) (vs:= [_,_]) (cap:= []) hJ Kr fun c cs tail hret=>enter_X (n:=9) func271 U U (Nl U) ?_
 have C:Ctx prog main J (bf 271 .normal):=⟨hJ,by decide⟩
 refine Xo W W<|Xm W W<|Ro W<|R.call C U U U U (pre:=pre) (tail:=tail) U (indexH_c hJ hl hn hf) fun w ro2 pre2 hl2 hp2=>?_
 obtain⟨rfl,rfl,rfl⟩:=hp2
 refine Ri Z b_geq<|Ae W<|Xw func271<|hret _ _ _ _ (RO.le_refl _) ⟨?_,rfl,rfl⟩ Vs
 simp only [retVal, ←findA_any]
end Go.Lg.H
namespace Go.Lg.H
open Go Go.Conc Go.Lg Go.Proofs Go.Lg.B Go.Proofs.Tryz
variable {b:Bk}{n0:Int}{ws:List Int}
theorem moment_bd(hb:b.good)(hw:∀i,0≤ws.getD i 0∧ws.getD i 0≤99)(hn0: -999≤n0∧n0≤999)(d:List Int): -1000000≤moment b (n0,ws) d∧moment b (n0,ws) d≤1000000:=by
 have h:=momGo_bd (d:=d) hw b.ps 0 n0 hb.ps
 have hnp:=hb.np
 unfold moment
 simp only
 omega
theorem liftGo_in{b:Bk}:∀ {l d:List Int},(b.liftGo d l).2=0→∀n∈l,0≤n∧n<b.ps.length
 |x::l,d,h,n,hn=>by
  simp only [Bk.liftGo] at h
  split at h
  ·cases h
  ·rename_i h1
   split at h
   ·cases h
   ·split at h
    ·cases h
    ·rcases List.mem_cons.1 hn with rfl|hn
     ·have h1:b.isPiece n=true:=by simpa using h1
      have:=between_iff.1 h1;omega
     ·exact liftGo_in h n hn
theorem out_in(h:checkBook b=0):∀n∈b.out,0≤n∧n<5:=fun n hn=>by
 have hnp:=(good_of h).np
 obtain⟨_,h⟩:=ite_same h
 obtain⟨_,h⟩:=ite_same h
 obtain⟨h3,_⟩:=ite_same h
 have:=liftGo_in h3 n hn
 omega
variable {main:Bool}{J:Goroutine→Mem→Prop}(hJ:Closed prog main J)
include hJ
theorem seen_c{v:Value}{ro:RO}(hv:BkV ro v b)(hs:b.short)(hch:checkBook b=0)(hw5:ws.length=5)(hw:∀i,0≤ws.getD i 0∧ws.getD i 0≤99)(hn0: -999≤n0∧n0≤999):CallP prog J (fnv 206) [v,cgV n0 ws] ro (.bool (seen b (n0,ws))):=by
 have hb:=good_of hch
 have hout:=out_in hch
 have hv0:=hv
 obtain⟨vp,vo,vh,rfl,hp,ho,hh,hcp,hco⟩:=hv
 obtain⟨ob,oc,rfl⟩:=ho.form
 obtain⟨eb,ec,rfl⟩:=hh.form
 obtain⟨_,_,_,ep,hco⟩:=hco
 cases ep
 have hso:=hs.out
 have hsh:=hs.hs
 refine EP 36 hJ func206 W fun c cs tail hret C=>Xu W<|Bx Z fun p2=>Bx Z fun p3=>Ae W<|Xx W<|Rv 0 W A181 U B66<|Rv 4 W A66 U B58<|Rj W G58 V U<|Rt W A58<|Rb Y<|Ro W<|Rz<|Xb<|X.loopI (ι:=Nat) C.1 (fun i=>i≤b.out.length+1∧∀j,j<i→seenAt b (n0,ws) j=true)
  (fun i=> [(11, .int .i64 ((b.out.length:Int)+1)),(12, .int .i64 (i:Int)),(2, .pointer (some ⟨p2,0,none⟩)),(3, .pointer (some ⟨p3,0,none⟩))])
  (fun _=>⟨ro,(p3, .cells (cgL n0 ws).toArray 193 (0,0))::(p2, .cells [.int .i64 b.lim, .int .i64 b.bal.lo, .int .i64 b.bal.hi,vp, .slice ob b.out.length oc, .slice eb b.hs.length ec].toArray 181 (0,0))::tail⟩) (fun i=>b.out.length+1-i) 0 ⟨Nat.zero_le _,fun j hj=>absurd hj (Nat.not_lt_zero _)⟩ rfl ⟨U,U,U,U,trivial⟩ fun i hi hnext=>?_
 obtain⟨hi,hall⟩:=hi
 refine Xu W<|Ri Z b_lss<|Rz<|Xv<|Xj U (fun hlt=>?_) (fun hlt=>?_)
 ·have hi':i<b.out.length+1:=O
  have hlt2:=lsI_take ho (show((i:Int)).toNat≤b.out.length by omega)
  have ed:([]:List Int)++b.out.take ((i:Int)).toNat=b.out.take i:=by simp
  have hbd:=moment_bd hb hw hn0 (b.out.take i)
  have hcg:=cg_len n0 hw5
  have hmc:CallP prog J (fnv 201) [.agg [.int .i64 b.lim, .int .i64 b.bal.lo, .int .i64 b.bal.hi,vp, .slice ob b.out.length oc, .slice eb b.hs.length ec].toArray,cgV n0 ws,arrV ([]++b.out.take ((i:Int)).toNat)] ro (.int .i64 (moment b (n0,ws) (b.out.take i))):=by
   rw [ed];exact moment_c hJ hv0 hb hw5 hw hn0 _
  refine Xz<|Xv<|Xb<|Xm W W<|Al W K3 U fun p5=>Rs Z B3 Y V (.here .nil)<|Rz<|Xv<|X.afterI (ι:=Nat) (fun _=>True) (fun s=> [(6, .pointer (some ⟨s,0,none⟩)),(5, .pointer (some ⟨p5,0,none⟩)),(11, .int .i64 ((b.out.length:Int)+1)),(12, .int .i64 (i:Int)),(2, .pointer (some ⟨p2,0,none⟩)),(3, .pointer (some ⟨p3,0,none⟩))])
   (fun s=>⟨ro,(s, .cells [.int .i64 (moment b (n0,ws) (b.out.take i))].toArray 3 (0,0))::(p5, .cells [.int .i64 (i:Int)].toArray 3 (0,0))::(p3, .cells (cgL n0 ws).toArray 193 (0,0))::(p2, .cells [.int .i64 b.lim, .int .i64 b.bal.lo, .int .i64 b.bal.hi,vp, .slice ob b.out.length oc, .slice eb b.hs.length ec].toArray 181 (0,0))::tail⟩) (fun s _=>?_) (fun hcont=>?_)
  rotate_left
  ·have _:=hbd
   refine Xf fun hok=>D5 C 0 hok U U G181 B181 V Tk6<|D5 C 1 hok U U G193 B193 V (sub_all hcg)<|Dp 2 hok (fun _ _ _ A h=>R.buildA0 C U (A.w U U) K243 U A243 B4 h)<|Dh 0 3 Y A181 U B66<|Dh 4 4 Y A66 U B58<|Db 5 W G58 V U<|Db 6 W G3 V U<|Dp 7 hok (fun _ _ _ A h=>R.sliceTo C U (A.w U U) (A.x U U) (A.x U U) A58 B3 O O h)<|D.eP2 (i:=8) (i':=10) (dst:=(some 23)) (dst':=(some 6)) [false,false,true,true] [true,true,true,true] hok U U Kr Kr Kr (fun _ _ A hk=>?_) (fun _ _ A hk=>?_)
   ·
    refine R.callP C U (A.w U U) (A.x U U) (A.s U U) (with_c hJ hlt2 Zo (fun x hx=>hout x (List.mem_of_mem_take hx)) []) (hk _ _ ⟨(QFs.cons (QF.of U (fun _ _ A h=>R.loadAgg C U (A.w U U) (A.x U U) G193 B193 V (sub_all hcg) h)) (QFs.cons (QF.of U (fun _ _ A h=>R.loadAgg C U (A.w U U) (A.x U U) G181 B181 V Tk6 h)) QFs.nil)), ?_⟩)
    refine D.eP2 (i:=9) (i':=10) (dst:=(some 24)) (dst':=(some 6)) [false,false] [true,true] hok U U Kr Kr Kr (fun _ _ A hk=>?_) (fun _ _ A hk=>?_)
    ·
     refine R.callP C U (A.w U U) (A.x U U) (A.s U U) (hmc) (hk _ _ ⟨QFs.nil, ?_⟩)
     refine De 10 (some 6) [] hok (fun _ _ A hk=>?_)
     refine R.alloc C U (A.w U U) K3 U fun p6=>hk _ _ ⟨QFs.nil, ?_⟩
     refine De 11 none [] hok (fun _ _ A hk=>?_)
     refine R.store C U (A.w U U) (A.x U U) (A.x U U) B3 U U U V (.here .nil) (hk undef _ ⟨QFs.nil, ?_⟩)
     refine Dn<|X.weaken ?_ (hcont p6 trivial)
     exact⟨U,U,U,U,U,U,trivial⟩
    ·
     refine R.alloc C U (A.w U U) K3 U fun p6=>hk _ _ ⟨(QFs.cons (QF.of U (fun _ _ A h=>R.loadAgg C U (A.w U U) (A.x U U) G193 B193 V (sub_all hcg) h)) (QFs.cons (QF.of U (fun _ _ A h=>R.loadAgg C U (A.w U U) (A.x U U) G181 B181 V Tk6 h)) QFs.nil)), ?_⟩
     refine De 9 (some 24) [false,false] hok (fun _ _ A hk=>?_)
     refine R.callP C U (A.w U U) (A.x U U) (A.s U U) (hmc) (hk _ _ ⟨QFs.nil, ?_⟩)
     refine De 11 none [] hok (fun _ _ A hk=>?_)
     refine R.store C U (A.w U U) (A.x U U) (A.x U U) B3 U U U V (.here .nil) (hk undef _ ⟨QFs.nil, ?_⟩)
     refine Dn<|X.weaken ?_ (hcont p6 trivial)
     exact⟨U,U,U,U,U,U,trivial⟩
   ·
    refine R.alloc C U (A.w U U) K3 U fun p6=>hk _ _ ⟨(QFs.cons (QF.of U (fun _ _ A h=>R.loadOne C U (A.w U U) (A.x U U) G3 V U h)) (QFs.cons (QF.of U (fun _ _ A h=>R.loadOne C U (A.w U U) (A.x U U) G58 V U h)) (QFs.cons (QF.of U (fun _ _ A h=>R.loadAgg C U (A.w U U) (A.x U U) G193 B193 V (sub_all hcg) h)) (QFs.cons (QF.of U (fun _ _ A h=>R.loadAgg C U (A.w U U) (A.x U U) G181 B181 V Tk6 h)) QFs.nil)))), ?_⟩
    refine De 8 (some 23) [false,false,true,true] hok (fun _ _ A hk=>?_)
    refine R.callP C U (A.w U U) (A.x U U) (A.s U U) (with_c hJ hlt2 Zo (fun x hx=>hout x (List.mem_of_mem_take hx)) []) (hk _ _ ⟨(QFs.cons (QF.of U (fun _ _ A h=>R.loadAgg C U (A.w U U) (A.x U U) G193 B193 V (sub_all hcg) h)) (QFs.cons (QF.of U (fun _ _ A h=>R.loadAgg C U (A.w U U) (A.x U U) G181 B181 V Tk6 h)) QFs.nil)), ?_⟩)
    refine De 9 (some 24) [false,false] hok (fun _ _ A hk=>?_)
    refine R.callP C U (A.w U U) (A.x U U) (A.s U U) (hmc) (hk _ _ ⟨QFs.nil, ?_⟩)
    refine De 11 none [] hok (fun _ _ A hk=>?_)
    refine R.store C U (A.w U U) (A.x U U) (A.x U U) B3 U U U V (.here .nil) (hk undef _ ⟨QFs.nil, ?_⟩)
    refine Dn<|X.weaken ?_ (hcont p6 trivial)
    exact⟨U,U,U,U,U,U,trivial⟩
  generalize hmm:moment b (n0,ws) (b.out.take i)=m at hbd⊢
  have hsat:seenAt b (n0,ws) i= !(rolls b m||b.hs.any fun h=>h.after==(i:Int) && h.side !=sideOf m):=by rw [←hmm];rfl
  by_cases hr:rolls b m=true
  ·have hfin:seen b (n0,ws)=false:=by
    unfold seen
    rw [Bool.eq_false_iff]
    intro e
    rw [List.all_eq_true] at e
    have:=e i (List.mem_range.2 hi')
    rw [hsat,hr] at this;simp at this
   refine Xu W<|Rq W G181 B181 V Tk6<|Rj W G3 V U<|Cp Z (rolls_c hJ hv0 hbd)<|Ro W<|FT 28 U (by(rw [hr]))<|Rp W<|Rp W<|Rp W<|Rp W<|Rp W<|Pp Z<|Zc U (fun _=>?_) (fun h=>nomatch h)
   refine Xu W<|Hq W func206 hret ?_
   rw [hfin];rfl
  ·have hr:rolls b m=false:=by simpa using hr
   refine Xu W<|Rq W G181 B181 V Tk6<|Rj W G3 V U<|Cp Z (rolls_c hJ hv0 hbd)<|Ro W<|FF 28 U (by(rw [hr]))<|Rv 0 W A181 U B66<|Rv 5 W A66 U B64<|Rj W G64 V U<|R.makeFunc C U U U U<|R.call C U U U U (pre:= [_,_]) (tail:=_::_::tail) U (containsH_c hJ (f:=fun q=>q.after==(i:Int) && q.side !=sideOf m) hh O fun q _=>seen1_c hJ q ro) fun w2 ro2 pre2 hl2 hp2=>?_
   obtain⟨rfl,rfl,rfl⟩:=hp2
   refine Pf Z<|Zc U (fun h2=>?_) (fun h2=>?_)
   ·have h2:(b.hs.any fun q=>q.after==(i:Int) && q.side !=sideOf m)=true:=by simpa using h2
    have hfin:seen b (n0,ws)=false:=by
     unfold seen
     rw [Bool.eq_false_iff]
     intro e
     rw [List.all_eq_true] at e
     have:=e i (List.mem_range.2 hi')
     rw [hsat,h2] at this;simp at this
    refine Xu W<|Hq W func206 hret ?_
    rw [hfin];rfl
   ·have h2:(b.hs.any fun q=>q.after==(i:Int) && q.side !=sideOf m)=false:=by simpa using h2
    refine Xz<|Xi<|Xg W<|Rb Y<|Ro W<|Rz<|X.drop C.1 (own':=_::_::tail) (.cons _ (List.sublist_cons_self _ _))<|X.weaken ?_ (hnext (i+1) ⟨hi',fun j hj=>?_⟩ O)
    ·exact⟨rfl,by simp [look],rfl,rfl,trivial⟩
    ·by_cases e:j=i
     ·rw [e,hsat,hr,h2];rfl
     ·exact hall j O
 ·obtain rfl:i=b.out.length+1:=by omega
  have hfin:seen b (n0,ws)=true:=by
   unfold seen
   rw [List.all_eq_true]
   intro j hj
   exact hall j (List.mem_range.1 hj)
  refine Xe U<|Xu W<|Hq W func206 hret ?_
  rw [hfin];rfl
end Go.Lg.H
namespace Go.Lg.H
open Go Go.Conc Go.Lg Go.Proofs Go.Lg.B Go.Proofs.Tryz
variable {b:Bk}{n n0:Int}{ws:List Int}{i:Nat}{items:List (List Value)}
theorem momGo_pad{d ws ws':List Int}(h:∀i,ws.getD i 0=ws'.getD i 0):∀ (l:List Pc) (i:Nat) (n:Int),momGo d ws i n l=momGo d ws' i n l
 | [],i,n=>rfl
 |p::l,i,n=>by simp only [momGo];rw [h i,momGo_pad h l]
theorem seen_pad{ws':List Int}(h:∀i,ws.getD i 0=ws'.getD i 0):seen b (n,ws)=seen b (n,ws'):=by
 have e:seenAt b (n,ws)=seenAt b (n,ws'):=by
  funext k
  unfold seenAt moment
  simp only
  rw [momGo_pad h]
 unfold seen
 rw [e]
theorem put_cg(h:i<ws.length):Put (1+((i:Int)).toNat*1) [.int .i64 n] (cgL n0 ws) (cgL n0 (ws.set i n)):=by
 have h1:=put_set (ints ws) i (.int .i64 n) (by simpa [ints] using h)
 have e:(ints ws).set i (.int .i64 n)=ints (ws.set i n):=by simp [ints]
 rw [e] at h1
 have:=Put.skip (x:= .int .i64 n0) h1
 simpa [Nat.add_comm] using this
abbrev cgOf(c:Cg):Value:=cgV c.1 (pad 5 c.2)
def nextV(a2 a3 a4:Nat):Value:= .func (.func 205) #[] [.pointer (some ⟨a2,0,none⟩), .pointer (some ⟨a3,0,none⟩), .pointer (some ⟨a4,0,none⟩)].toArray
theorem seg_one{k:Nat}{t:Cg}(h:Seg items k [t] cgOf):∃hk:k<items.length,items[k]= [cgOf t]:=by
 have h0:items[k]? =some [cgOf t]:=by simpa using h 0 Zi
 have hk:=(List.getElem?_eq_some_iff.1 h0).1
 rw [List.getElem?_eq_getElem hk] at h0
 exact⟨hk,Option.some.inj h0⟩
def leafs(b:Bk)(n0:Int)(pre:List Int)(i:Nat):List Cg:=((spread ((b.ps.drop i).map Pc.r)).map fun s=>((n0,pre++s):Cg)).filter (seen b)
theorem leafs_succ{pre:List Int}{q:Pc}(h:b.ps.drop i=q::b.ps.drop (i+1)):leafs b n0 pre i=(B.rz q.r.lo (q.r.hi+1-q.r.lo).toNat).flatMap fun n=>leafs b n0 (pre++ [n]) (i+1):=by
 unfold leafs
 rw [h,List.map_cons,spread_map_cons,List.filter_flatMap]
 show List.flatMap _ (B.rz _ _)=_
 congr 1
 funext n
 simp only [List.append_assoc,List.cons_append,List.nil_append]
theorem getD_set(h:∀j,0≤ws.getD j 0∧ws.getD j 0≤99)(hn:0≤n∧n≤99):∀j,0≤(ws.set i n).getD j 0∧(ws.set i n).getD j 0≤99:=fun j=>by
 have hj:=h j
 rw [List.getD_eq_getElem?_getD] at hj
 rw [List.getD_eq_getElem?_getD,List.getElem?_set]
 split
 ·split
  ·exact hn
  ·exact⟨Int.le_refl _,by decide⟩
 ·exact hj
variable {main:Bool}{J:Goroutine→Mem→Prop}(hJ:Closed prog main J)
include hJ
theorem next_c{vp vo vh yv:Value}{ro0:RO}(hv:BkP ro0 b vp vo vh)(hs:b.short)(hch:checkBook b=0){a2 a3 a4:Nat}{t2 t3 t4:TypeId}{f2 f3 f4:Nat×Nat}(h2:ro0 a2=some (.cells [.int .i64 b.lim, .int .i64 b.bal.lo, .int .i64 b.bal.hi,vp,vo,vh].toArray t2 f2))(h3:ro0 a3=some (.cells [yv].toArray t3 f3))
  (h4:ro0 a4=some (.cells [nextV a2 a3 a4].toArray t4 f4)) (I:Nat→RO→List (Nat×Obj)→Prop) (E:RO→List (Nat×Obj)→Prop)
  (hy:∀k (hk:k<items.length) ro1 p1,ro0.le ro1→I k ro1 p1→CallV prog J yv items[k] ro1 p1 fun v ro' p'=>(v= .bool true∧I (k+1) ro' p')∨(v= .bool false∧E ro' p')) (hn0: -999≤n0∧n0≤999):
  ∀ (mm i:Nat) (ws:List Int) (ro1:RO) (p1:List (Nat×Obj)) (k:Nat),i+mm=b.ps.length→ro0.le ro1→I k ro1 p1→ws.length=5→(∀j,0≤ws.getD j 0∧ws.getD j 0≤99)→ws.drop b.ps.length=List.replicate (5-b.ps.length) 0→
   Seg items k (leafs b n0 (ws.take i) i) cgOf→
   CallV prog J (nextV a2 a3 a4) [cgV n0 ws, .int .i64 (i:Int)] ro1 p1 fun v ro' p'=>(v= .bool true∧I (k+(leafs b n0 (ws.take i) i).length) ro' p')∨(v= .bool false∧E ro' p'):=by
 have hb:=good_of hch
 have hnp:=hb.np
 have hvp:=hv.1
 obtain⟨pb,pc,rfl⟩:=hv.1.form
 intro mm
 induction mm with
 |zero=>
  intro i ws ro1 p1 k hi hle hI hwl hwb hwz hseg
  obtain rfl:i=b.ps.length:=by omega
  have hpp:pad 5 (ws.take b.ps.length)=ws:=pad_take hwl O hwz
  have hse:seen b (n0,ws.take b.ps.length)=seen b (n0,ws):=seen_pad fun j=>by rw [←getD_pad _ 5,hpp]
  have hlf:leafs b n0 (ws.take b.ps.length) b.ps.length=if seen b (n0,ws)=true then [(n0,ws.take b.ps.length)] else []:=by
   unfold leafs
   rw [List.drop_length]
   simp only [List.map_nil,spread,List.map_cons,List.append_nil,List.filter_cons,List.filter_nil,hse]
  have hcl:=cg_len n0 hwl
  have hsc:=seen_c hJ (v:= .agg [.int .i64 b.lim, .int .i64 b.bal.lo, .int .i64 b.bal.hi, .slice pb b.ps.length pc,vo,vh].toArray) (ro:=ro1) ⟨_,_,_,rfl,hv.mono hle⟩ hs hch hwl hwb hn0
  rw [hlf] at hseg⊢
  by_cases hsn:seen b (n0,ws)=true
  ·rw [if_pos hsn] at hseg⊢
   obtain⟨hk,hki⟩:=seg_one hseg
   have hyk:=hy k hk ro1 p1 hle hI
   rw [hki] at hyk
   simp only [cgOf,hpp] at hyk
   refine CallV.intro (first:= []) (vs:= [_,_]) (cap:= [_,_,_]) hJ Kr fun c cs tail hret=>enter_X (n:=50) F205 U U (Nl U) ?_
   have C:Ctx prog main J (bf 205 .normal):=⟨hJ,by decide⟩
   refine Xu W<|Bx Z fun p5=>Ae W<|Xx W<|Ro W<|R.fieldAddr C U U U A181 U B66 U<|R.fieldAddr C U U U A66 U B63 U<|Lo Y G63 (hle _ _ h2) U<|Rt W A63<|Ri Z b_eql<|Zc U (fun he=>?_) (fun he=>?_)
   ·refine Xu W<|La Y G181 B181 (hle _ _ h2) Tk6<|Rq W G193 B193 V (sub_all hcl)<|Cp Z (hsc)<|Rh Y<|FF 19 U (by(rw [hsn];rfl))<|Ro W<|Lo Y isAgg333 (hle _ _ h3) U<|Rq W G193 B193 V (sub_all hcl)<|R.perm C.1 List.perm_middle.symm<|R.call C U U U U (pre:=p1) (tail:=_::tail) U hyk fun v ro' pre' hle' hp=>R.perm C.1 List.perm_middle<|Pf Z<|Ae W<|Xw F205<|hret _ _ pre' _ hle' ?_ (by exact List.sublist_cons_self _ _)
    rcases hp with⟨rfl,h⟩|⟨rfl,h⟩
    ·exact .inl ⟨rfl,h⟩
    ·exact .inr ⟨rfl,h⟩
   ·simp at he
  ·rw [if_neg hsn] at hseg⊢
   have hsn:seen b (n0,ws)=false:=by simpa using hsn
   refine CallV.intro (first:= []) (vs:= [_,_]) (cap:= [_,_,_]) hJ Kr fun c cs tail hret=>enter_X (n:=50) F205 U U (Nl U) ?_
   have C:Ctx prog main J (bf 205 .normal):=⟨hJ,by decide⟩
   refine Xu W<|Bx Z fun p5=>Ae W<|Xx W<|Ro W<|R.fieldAddr C U U U A181 U B66 U<|R.fieldAddr C U U U A66 U B63 U<|Lo Y G63 (hle _ _ h2) U<|Rt W A63<|Ri Z b_eql<|Zc U (fun he=>?_) (fun he=>?_)
   ·refine Xu W<|La Y G181 B181 (hle _ _ h2) Tk6<|Rq W G193 B193 V (sub_all hcl)<|Cp Z (hsc)<|Rh Y<|FT 19 U (by(rw [hsn];rfl))<|Ro W<|Rp W<|Rp W<|Rp W<|Pp Z<|Ae W<|Xw F205 ?_
    exact hret _ _ p1 _ (RO.le_refl _) (.inl ⟨rfl,hI⟩) (by exact List.sublist_cons_self _ _)
   ·simp at he
 |succ mm ih=>
  intro i ws ro1 p1 k hi hle hI hwl hwb hwz hseg
  have hi':i<b.ps.length:=O
  obtain⟨p,off,cap,l,t,fq,e,hrop,hsub⟩:=hvp.at O
  cases e
  obtain⟨qb,qc,hld,hqc,hq⟩:=hsub i hi'
  have hf:=(hb.ps _ (List.getElem_mem hi')).r
  have hdr:b.ps.drop i=b.ps[i]::b.ps.drop (i+1):=List.drop_eq_getElem_cons hi'
  generalize b.ps[i]=q at hf hld hqc hq hdr
  have hrc:Sub (off+i*5+2) 2 l [.int .i64 q.r.lo, .int .i64 q.r.hi]:=sub_part (k:=2) (m:=2) hld Dd rfl
  rw [leafs_succ hdr] at hseg⊢
  refine CallV.intro (first:= []) (vs:= [_,_]) (cap:= [_,_,_]) hJ Kr fun c cs tail hret=>enter_X (n:=50) F205 U U (Nl U) ?_
  have C:Ctx prog main J (bf 205 .normal):=⟨hJ,by decide⟩
  refine Xu W<|Bx Z fun p5=>Ae W<|Xx W<|Ro W<|R.fieldAddr C U U U A181 U B66 U<|R.fieldAddr C U U U A66 U B63 U<|Lo Y G63 (hle _ _ h2) U<|Rt W A63<|Ri Z b_eql<|Zc U (fun he=>?_) (fun he=>?_)
  ·simp at he;omega
  ·refine Xz<|Xu W<|R.fieldAddr C U U U A181 U B66 U<|R.fieldAddr C U U U A66 U B63 U<|Lo Y G63 (hle _ _ h2) U<|Ro W<|Ry Y A63 B174<|R.fieldAddr C U U U A174 U B45 U<|La Y G45 B45 (hle _ _ hrop) hrc<|Al W K45 U fun p8=>Rs Z B45 Y V Ph2<|Rz<|Xx W<|Rv 0 W A45 U B3<|Rj W G3 V U<|Ae W<|Xb ?_
   refine X.loopI (ι:=Int×Nat×List Int×List (Nat×Obj)×RO×Nat) C.1 (fun s=>s.1+s.2.1=q.r.hi+1∧1≤s.1∧s.2.2.1.length=5∧(∀j,0≤s.2.2.1.getD j 0∧s.2.2.1.getD j 0≤99)∧s.2.2.1.take i=ws.take i∧s.2.2.1.drop b.ps.length=ws.drop b.ps.length∧ro1.le s.2.2.2.2.1∧I s.2.2.2.2.2 s.2.2.2.2.1 s.2.2.2.1∧
     Seg items s.2.2.2.2.2 ((B.rz s.1 s.2.1).flatMap fun n=>leafs b n0 (ws.take i++ [n]) (i+1)) cgOf∧
     s.2.2.2.2.2+((B.rz s.1 s.2.1).flatMap fun n=>leafs b n0 (ws.take i++ [n]) (i+1)).length=k+((B.rz q.r.lo (q.r.hi+1-q.r.lo).toNat).flatMap fun n=>leafs b n0 (ws.take i++ [n]) (i+1)).length)
    (fun s=> [(9, .int .i64 s.1),(1, .int .i64 (i:Int)),(2, .pointer (some ⟨a2,0,none⟩)),(3, .pointer (some ⟨a3,0,none⟩)),(4, .pointer (some ⟨a4,0,none⟩)),(5, .pointer (some ⟨p5,0,none⟩)),(8, .pointer (some ⟨p8,0,none⟩))])
    (fun s=>⟨s.2.2.2.2.1,(p8, .cells [.int .i64 q.r.lo, .int .i64 q.r.hi].toArray 45 (0,0))::(p5, .cells (cgL n0 s.2.2.1).toArray 193 (0,0))::(s.2.2.2.1++tail)⟩) (fun s=>s.2.1) (q.r.lo,(q.r.hi+1-q.r.lo).toNat,ws,p1,ro1,k)
    ⟨by simp only;omega,hf.1,hwl,hwb,rfl,rfl,RO.le_refl _,hI,hseg,rfl⟩ rfl ⟨U,U,U,U,U,U,U,trivial⟩ fun s hst hnext=>?_
   obtain⟨n,m2,w2,q2,roc,kc⟩:=s
   obtain⟨g1,g0,gl,gb,gt,gd,gle,gI,gseg,glen⟩:=hst
   simp only at g1 g0 gl gb gt gd gle gI gseg glen hnext⊢
   refine Xx W<|Ro W<|Rv 1 W A45 U B3<|Rj W G3 V U<|Ri Z b_leq<|Zj U (fun hlt=>?_) (fun hlt=>?_)
   ·obtain⟨m',rfl⟩:∃m',m2=m'+1:=⟨m2-1,O⟩
    simp only [B.rz,List.flatMap_cons] at gseg glen
    obtain⟨hs1,hs2⟩:=gseg.split
    rw [List.length_append] at glen
    have htk:(w2.set i n).take (i+1)=ws.take i++ [n]:=by rw [take_set n O,gt]
    have hdz:(w2.set i n).drop b.ps.length=ws.drop b.ps.length:=by rw [List.drop_set_of_lt O,gd]
    have hln:(w2.set i n).length=5:=by simpa using gl
    have hbn:=getD_set (i:=i) (n:=n) gb O
    have hcl:=cg_len n0 hln
    have hrec:=ih (i+1) (w2.set i n) roc q2 kc O (RO.le_trans hle gle) gI hln hbn (by rw [hdz,hwz]) (by rw [htk];exact hs1)
    rw [htk] at hrec
    refine Xz<|Xv<|Xb<|Xm W W<|Ro W<|Rv 1 W A193 U sizeOf191<|R.indexAddrA C U U U U A191 B3 O O<|Rs Z B3 Y V (put_cg O)<|Rz<|Xu W<|Lo Y isAgg334 (gle _ _ (hle _ _ h4)) U<|Rq W G193 B193 V (sub_all hcl)<|Ro W<|Rb Y<|R.perm C.1 (by exact List.perm_append_comm_assoc [_,_] _ _)<|R.call C U U U U (pre:=q2) (tail:=_::_::tail) U hrec fun v ro' pre' hle' hp=>R.perm C.1 (by exact List.perm_append_comm_assoc _ [_,_] _) ?_
    rcases hp with⟨rfl,hI2⟩|⟨rfl,hE⟩
    ·
     refine Rh Y<|FF 49 U U<|Zc U (fun h=>nomatch h) (fun _=>?_)
     refine Xz<|Xi<|Xg W<|Ro W<|Rb Y<|Ae W<|X.weaken ?_ (hnext (n+1,m',w2.set i n,pre',ro',kc+(leafs b n0 (ws.take i++ [n]) (i+1)).length) ⟨?_, ?_,hln,hbn, ?_,hdz,RO.le_trans gle hle',hI2,hs2, ?_⟩ (Nat.lt_succ_self _))
     ·exact⟨by simp [look],rfl,rfl,rfl,rfl,rfl,rfl,trivial⟩
     ·simp only;omega
     ·simp only;omega
     ·simp only
      have:=congrArg (List.take i) htk
      rw [take_take_succ] at this
      rw [this,List.take_append_of_le_length Zo,List.take_take,Nat.min_self]
     ·simp only;omega
    ·
     refine Rh Y<|FT 49 U U<|Zc U (fun _=>?_) (fun h=>nomatch h)
     refine Xo W W<|Xw F205 ?_
     exact hret _ _ pre' _ (RO.le_trans gle hle') (.inr ⟨rfl,hE⟩) (by exact .cons _ (List.sublist_cons_self _ _))
   ·obtain rfl:m2=0:=by omega
    simp only [B.rz,List.flatMap_nil,List.length_nil,Nat.add_zero] at glen
    refine Xe U<|Xo W W<|Xw F205 ?_
    exact hret _ _ q2 _ gle (.inl ⟨rfl,by rw [←glen];exact gI⟩) (by exact .cons _ (List.sublist_cons_self _ _))
end Go.Lg.H
namespace Go.Lg.H
open Go Go.Conc Go.Lg Go.Proofs Go.Lg.B Go.Proofs.Tryz
theorem cases_leafs(b:Bk):cases b=(B.rz b.bal.lo (b.bal.hi+1-b.bal.lo).toNat).flatMap fun n=>leafs b n [] 0:=rfl
theorem zeros_bd:∀j,0≤([0,0,0,0,0]:List Int).getD j 0∧([0,0,0,0,0]:List Int).getD j 0≤99
 |0=>by decide
 |1=>by decide
 |2=>by decide
 |3=>by decide
 |4=>by decide
 |j+5=>by simp [List.getD_eq_getElem?_getD]
theorem zeros_drop{n:Nat}(h:1≤n∧n≤5):([0,0,0,0,0]:List Int).drop n=List.replicate (5-n) 0:=by
 have:n=1∨n=2∨n=3∨n=4∨n=5:=O
 rcases this with rfl|rfl|rfl|rfl|rfl<;>rfl
variable {main:Bool}{J:Goroutine→Mem→Prop}(hJ:Closed prog main J)
include hJ
theorem cases_it{b:Bk}{vp vo vh:Value}{ro:RO}(hv:BkP ro b vp vo vh)(hs:b.short)(hch:checkBook b=0):Iter prog J (.func (.func 120) [.agg [.int .i64 b.lim, .int .i64 b.bal.lo, .int .i64 b.bal.hi,vp,vo,vh].toArray].toArray #[]) ((cases b).map fun c=> [cgOf c]) ro:=by
 intro yv I E hyf hmono hy ro0 p0 hle hI0
 have hb:=good_of hch
 have hbl:=hb.bal
 have hnp:=hb.np
 have hall:=Seg.all (cases b) cgOf
 have hcl:=cases_leafs b
 have htot:0+((B.rz b.bal.lo (b.bal.hi+1-b.bal.lo).toNat).flatMap fun n=>leafs b n [] 0).length=(cases b).length:=by rw [←hcl,Nat.zero_add]
 rw [hcl] at hall
 rw [←hcl] at hall
 refine CallV.intro (first:= [_]) (vs:= [yv]) (cap:= []) hJ Kr fun c cs tail hret=>enter_X (n:=24) func120 U U (Nl U) ?_
 have C:Ctx prog main J (bf 120 .normal):=⟨hJ,by decide⟩
 refine Xu W<|Bx Z fun p2=>R.box C U U U (fnV.cells hyf) fun p3=>Rz<|Xu W<|Al W zeroValue334 U fun p4=>Rz<|Xu W<|R.makeFunc C U U U U<|Rs Z sizeOf334 Y V (.here .nil)<|Rz<|Xv<|X.persist C.1 fun r1 l1 h4=>X.persist C.1 fun r2 l2 h3=>X.persist C.1 fun r3 l3 h2=>?_
 have h4:=l3 _ _ (l2 _ _ h4)
 have h3:=l3 _ _ h3
 have k3:=RO.le_trans l1 (RO.le_trans l2 l3)
 have kr:=RO.le_trans hle k3
 refine Xg W<|Rv 0 W A181 U B66<|Rv 1 W A66 U B45<|Rv 1 W A45 U B3<|Lo Y G3 h2 U<|Ae W<|Xb ?_
 refine X.loopI (ι:=Int×Nat×List (Nat×Obj)×RO×Nat) C.1 (fun s=>s.1+s.2.1=b.bal.hi+1∧ -999≤s.1∧r3.le s.2.2.2.1∧I s.2.2.2.2 s.2.2.2.1 s.2.2.1∧Seg ((cases b).map fun c=> [cgOf c]) s.2.2.2.2 ((B.rz s.1 s.2.1).flatMap fun n=>leafs b n [] 0) cgOf∧
   s.2.2.2.2+((B.rz s.1 s.2.1).flatMap fun n=>leafs b n [] 0).length=(cases b).length)
  (fun s=> [(5, .int .i64 s.1),(2, .pointer (some ⟨p2,0,none⟩)),(4, .pointer (some ⟨p4,0,none⟩))])
  (fun s=>⟨s.2.2.2.1,s.2.2.1++tail⟩) (fun s=>s.2.1) (b.bal.lo,(b.bal.hi+1-b.bal.lo).toNat,p0,r3,0)
  ⟨by simp only;omega,hbl.1,RO.le_refl _,hmono _ _ _ _ k3 hI0,hall,htot⟩ rfl ⟨U,U,U,trivial⟩ fun s hst hnext=>?_
 obtain⟨n,m2,q2,roc,kc⟩:=s
 obtain⟨g1,g0,gle,gI,gseg,glen⟩:=hst
 simp only at g1 g0 gle gI gseg glen hnext⊢
 refine Xx W<|Ro W<|Rv 0 W A181 U B66<|Rv 1 W A66 U B45<|Rv 2 W A45 U B3<|Lo Y G3 (gle _ _ h2) U<|Ri Z b_leq<|Zj U (fun hlt=>?_) (fun hlt=>?_)
 ·obtain⟨m',rfl⟩:∃m',m2=m'+1:=⟨m2-1,O⟩
  simp only [B.rz,List.flatMap_cons] at gseg glen
  obtain⟨hs1,hs2⟩:=gseg.split
  rw [List.length_append] at glen
  have hnx:=next_c hJ (hv.mono kr) hs hch h2 h3 h4 I E (fun k hk ro1 p1 h=>hy k hk ro1 p1 (RO.le_trans kr h)) (n0:=n) O b.ps.length 0 [0,0,0,0,0] roc q2 kc O gle gI rfl zeros_bd (zeros_drop hnp) hs1
  refine Xz<|Xv<|Xb<|Xu W<|Lo Y isAgg334 (gle _ _ h4) U<|Ro W ?_;refine R.build C U U U K193 U A193 Kr (Fills.part U U B3 U (.here .nil) .nil)<|R.call C U U U U (pre:=q2) (tail:=tail) U hnx fun v ro' pre' hle' hp=>?_
  rcases hp with⟨rfl,hI2⟩|⟨rfl,hE⟩
  ·
   refine Rh Y<|FF 23 U U<|Zc U (fun h=>nomatch h) (fun _=>?_)
   refine Xz<|Xi<|Xg W<|Ro W<|Rb Y<|Ae W<|X.weaken ?_ (hnext (n+1,m',pre',ro',kc+(leafs b n [] 0).length) ⟨?_, ?_,RO.le_trans gle hle',hI2,hs2, ?_⟩ (Nat.lt_succ_self _))
   ·exact⟨by simp [look],rfl,rfl,trivial⟩
   ·simp only;omega
   ·simp only;omega
   ·simp only;omega
  ·
   refine Rh Y<|FT 23 U U<|Zc U (fun _=>?_) (fun h=>nomatch h)
   refine X.ret C U U func120 U (by exact .nil) ?_
   exact hret _ _ pre' _ (RO.le_trans k3 (RO.le_trans gle hle')) ⟨rfl, .inr hE⟩ (List.Sublist.refl _)
 ·obtain rfl:m2=0:=by omega
  simp only [B.rz,List.flatMap_nil,List.length_nil,Nat.add_zero] at glen
  refine Xe U<|X.fall C U U func120 U (by exact .nil) ?_
  exact hret _ _ q2 _ (RO.le_trans k3 gle) ⟨rfl, .inl (by rw [List.length_map, ←glen];exact gI)⟩ (List.Sublist.refl _)
end Go.Lg.H
namespace Go.Lg.H
open Go Go.Conc Go.Lg Go.Proofs Go.Lg.B Go.Proofs.Tryz
variable {b:Bk}{c:Cg}
def hc(c:Cg):List Value:=cgL c.1 ((pad 5 c.2).take 5)
theorem hc_len(c:Cg):(hc c).length=6:=by simp [hc,ints,pad];omega
theorem case_len(h:c∈cases b):c.2.length=b.ps.length:=by
 have:=(mem_spread.1 (mem_cases.1 h).1.2).1
 simpa using this
theorem hc_eq(hb:b.good)(h:c∈cases b):hc c=cgL c.1 (pad 5 c.2):=by
 have h1:=case_len h
 have h2:=hb.np
 rw [hc,List.take_of_length_le (by rw [pad_len O];omega)]
theorem hc_lit(hb:b.good)(h:c∈cases b):∃w1 w2 w3 w4 w5:Int,pad 5 c.2= [w1,w2,w3,w4,w5]∧cgL c.1 (pad 5 c.2)= [.int .i64 c.1, .int .i64 w1, .int .i64 w2, .int .i64 w3, .int .i64 w4, .int .i64 w5]:=by
 have h1:=case_len h
 have h2:=hb.np
 have h3:(pad 5 c.2).length=5:=pad_len O
 match e:pad 5 c.2,h3 with
 | [w1,w2,w3,w4,w5],_=>exact⟨w1,w2,w3,w4,w5,rfl,rfl⟩
abbrev LsC(ro:RO)(v:Value)(l:List Cg):Prop:=Ls hc 6 ro v l
variable {main:Bool}{J:Goroutine→Mem→Prop}(hJ:Closed prog main J)
include hJ
theorem some_c{vp vo vh:Value}{ro:RO}(hv:BkP ro b vp vo vh)(hs:b.short)(hch:checkBook b=0):CallR prog J (fnv 182) [.agg [.int .i64 b.lim, .int .i64 b.bal.lo, .int .i64 b.bal.hi,vp,vo,vh].toArray] ro (fun w _=>w= .bool (decide (cases b≠ []))):=by
 refine ER 6 hJ func182 W fun c cs tail hret C=>Xu W<|Bx Z fun p1=>Al W K4 U fun p2=>Rz<|Xx W<|Rq W G181 B181 V Tk6<|R.makeFunc C U U U U<|Rz<|Xb<|X.rangeFunc C (items:=(cases b).map fun c=> [cgOf c]) (ro0:=ro)
  (fun k ro' q=>q=(p2, .cells [.bool false].toArray 4 (0,0))::(p1, .cells [.int .i64 b.lim, .int .i64 b.bal.lo, .int .i64 b.bal.hi,vp,vo,vh].toArray 181 (0,0))::tail∧k=0)
  (fun x ro' q=>x= .ret∧q=(p2, .cells [.bool true].toArray 4 (0,0))::(p1, .cells [.int .i64 b.lim, .int .i64 b.bal.lo, .int .i64 b.bal.hi,vp,vo,vh].toArray 181 (0,0))::tail∧cases b≠ [])
  rfl rfl (cases_it hJ hv hs hch) (RO.le_refl _) rfl (fun x hx=>by obtain⟨a,_,rfl⟩:=List.mem_map.1 hx;rfl) ⟨rfl,rfl⟩ (fun _ _ _ _ _ h=>h) ?_ ?_ ?_
 ·rintro kk hk l cs H H1 ro1 q hle1 ⟨rfl,rfl⟩ C hbegin hdone hjump
  have hne:cases b≠ []:=fun e=>by rw [e] at hk;exact absurd hk (Nat.not_lt_zero _)
  rw [List.getElem_map]
  simp only [roundSlots]
  refine Xz<|hbegin _ _ (_::_::tail)<|Xb<|Xu W<|Rs Z B4 Y V (.here .nil)<|Rz ?_
  exact hjump _ _ _ _ (_::_::tail) (RO.le_refl _) trivial ⟨rfl,rfl,hne⟩
 ·rintro r ro' q' hl ⟨rfl,h0⟩
  have he:cases b= []:=by
   rw [List.length_map] at h0
   exact List.length_eq_zero_iff.1 h0
  refine Xi<|Xu W<|Rs Z B4 Y V (.here .nil)<|Rz<|X.retM C U U func182 U (.cons V (.nil)) (by exact(.one U G4 V U .nil))<|Hr hret hl ?_
  simp [he,retVal]
 ·rintro r x ro' q' hl ⟨rfl,rfl,hne⟩
  refine X.retM C U U func182 U (.cons V (.nil)) (by exact(.one U G4 V U .nil))<|Hr hret hl ?_
  simp [hne,retVal]
end Go.Lg.H
namespace Go.Lg.H
open Go Go.Conc Go.Lg Go.Proofs Go.Lg.B Go.Proofs.Tryz
variable {b:Bk}{vh vo vp:Value}{ro:RO}
theorem cases_le(hb:b.good):(cases b).length≤729:=by
 have hbl:=hb.bal
 have h0:∀r∈b.ps.map Pc.r,r.hi-r.lo<3:=fun r hr=>by
  obtain⟨p,hp,rfl⟩:=List.mem_map.1 hr
  exact(hb.ps p hp).r.2.2.2
 have h1:=spread_le h0
 have h2:3^ (b.ps.map Pc.r).length≤3^5:=Nat.pow_le_pow_right O (by simpa using hb.np.2)
 have h3:=flat_le (l:=b.bal.nums) (f:=fun n=>((spread (b.ps.map Pc.r)).map fun w=>((n,w):Cg)).filter (seen b)) (c:=243) fun n _=>by
  have:=List.length_filter_le (seen b) ((spread (b.ps.map Pc.r)).map fun w=>((n,w):Cg))
  rw [List.length_map] at this
  omega
 have h4:b.bal.nums.length≤3:=by
  unfold Rc.nums
  rw [rz_len];omega
 have h5:b.bal.nums.length*243≤3*243:=Nat.mul_le_mul_right _ h4
 unfold cases;omega
abbrev iterV(b:Bk)(vp vo vh:Value):Value:= .func (.func 120) [.agg [.int .i64 b.lim, .int .i64 b.bal.lo, .int .i64 b.bal.hi,vp,vo,vh].toArray].toArray #[]
variable {main:Bool}{J:Goroutine→Mem→Prop}(hJ:Closed prog main J)
include hJ
theorem appendSeq_c(hv:BkP ro b vp vo vh)(hs:b.short)(hch:checkBook b=0):CallR prog J (fnv 251) [.slice none 0 0,iterV b vp vo vh] ro (fun w ro'=>LsC ro' w (cases b)):=by
 have hb:=good_of hch
 have hcl:=cases_le hb
 refine ER 13 hJ func251 W fun c cs tail hret C=>Xu W<|Bx Z fun p2=>Ae W<|Xx W<|Ro W<|Rz<|Xb<|X.rangeFunc C (items:=(cases b).map fun c=> [cgOf c]) (ro0:=ro)
  (fun k ro' q=>∃v' own0,Buf 193 6 tail v' (((cases b).take k).flatMap hc) own0∧q=(p2, .cells [v'].toArray 182 (0,0))::own0)
  (fun x ro' q=>False)
  rfl rfl (cases_it hJ hv hs hch) (RO.le_refl _) rfl (fun x hx=>by obtain⟨a,_,rfl⟩:=List.mem_map.1 hx;rfl) ⟨.slice none 0 0,tail, .nil,rfl⟩ (fun _ _ _ _ _ h=>h) ?_ ?_ ?_
 ·rintro kk hk l cs H H1 ro1 q hle1 ⟨v0,own0,hbuf,rfl⟩ C hbegin hdone hjump
  have hk':kk<(cases b).length:=by simpa using hk
  rw [List.getElem_map]
  simp only [roundSlots]
  have hmem:=List.getElem_mem hk'
  have htk:(cases b).take (kk+1)=(cases b).take kk++ [(cases b)[kk]]:=List.take_succ_eq_append_getElem hk'
  generalize(cases b)[kk]=co at hmem htk
  have htc:=hc_eq hb hmem
  obtain⟨w1,w2,w3,w4,w5,m1,m3⟩:=hc_lit hb hmem
  rw [cgOf,cgV,m3]
  refine Xg W<|Al W K193 U fun p5=>Rs Z B193 Y V Ph6<|Rz<|hbegin _ _ (_::_::own0) ?_
  have hfl:(((cases b).take kk).flatMap hc).length=kk*6:=by rw [flatMap_len hc_len];simp;omega
  refine Xb<|Xg W<|Rj W isAgg182 V U<|Rq W G193 B193 V Tk6<|R.buildSlice C (vs:=_) U U (show pvals _ _=some (numbered 0 [_]) from rfl) U A182 B193 K193 Dd (Cat.one U U) fun p10=>R.append2 (kk:=6) C [_,_] U U U U A182 A182 (fun _=>nofun) (show prog.info? 193=some Tryz.t193 by kernel_rfl) U U U Dd Dd (hbuf.app H1) U U (by(try simp only [List.length_append,List.length_cons,List.length_nil]);omega) fun v' own' hb'=>?_
  obtain⟨own1,rfl,hb1⟩:=hb'.unapp
  refine R.store C U U U U B182 hb'.cells1 U hb'.ones1 V (.here .nil)<|Rz<|Xi<|X.drop C.1 (own':=_::(own1++H1)) (List.sublist_cons_self _ _)<|hdone _ _ (_::own1) (RO.le_refl _) ⟨v',own1, ?_,rfl⟩
  rw [htk,List.flatMap_append,List.flatMap_cons,List.flatMap_nil,List.append_nil,htc,m3]
  exact hb1
 ·rintro r ro' q' hl ⟨v',own0,hbuf,rfl⟩
  have hall:(cases b).take ((cases b).map fun c=> [cgOf c]).length=cases b:=by simp
  rw [hall] at hbuf
  refine Xi<|Xu W<|Rj W isAgg182 V U<|Ae W<|X.finishA [_,_] C.1 hc_len Dd hbuf fun ro2 hl2 hls=>X.retM C U U func251 U (.cons V (.nil)) (by exact(.tmp U .nil))<|Hr hret (RO.le_trans hl hl2) ?_
  exact hls
 ·rintro r x ro' q' hl hf
  exact hf.elim
theorem collect_c(hv:BkP ro b vp vo vh)(hs:b.short)(hch:checkBook b=0):CallR prog J (fnv 184) [iterV b vp vo vh] ro (fun w ro'=>LsC ro' w (cases b)):=by
 refine ER 5 hJ func184 W fun c cs tail hret C=>Xo W W<|Xm W W<|R.callR C U U U U (appendSeq_c hJ hv hs hch) fun v1 ro1 hl1 hp1=>Ae W<|Xw func184<|Hr hret hl1 ?_
 exact hp1
end Go.Lg.H
namespace Go.Lg.H
open Go Go.Conc Go.Lg Go.Proofs Go.Lg.B Go.Proofs.Tryz
variable {b:Bk}{fv vh vo vp:Value}{ro:RO}{p:Nat}{t:TypeId}{fq:Nat×Nat}{k:Int}
def noOpen:List Value:= [.int .i64 0, .int .i64 0, .int .i64 0, .slice none 0 0, .slice none 0 0, .slice none 0 0, .slice none 0 0, .map none]
def OpenP(b:Bk)(h:Int)(vp vo vh w:Value)(ro':RO)(pre':List (Nat×Obj)):Prop:=
 (openH b h≠0∧pre'= []∧w= .tuple [.agg noOpen.toArray, .int .i64 (openH b h)].toArray)∨
 (openH b h=0∧∃m vl,pre'= [(m,mapO [])]∧LsC ro' vl (cases b)∧w= .tuple [.agg [.int .i64 b.lim, .int .i64 b.bal.lo, .int .i64 b.bal.hi,vp,vo,vh,vl, .map (some m)].toArray, .int .i64 0].toArray)
variable {main:Bool}{J:Goroutine→Mem→Prop}(hJ:Closed prog main J)
include hJ
theorem open_c(he:Env ro)(hv:BkP ro b vp vo vh)(hs:b.short){h:Int}(hf:checkBook b=0→∀ro',ro.le ro'→CallP prog J fv [.agg [.int .i64 b.lim, .int .i64 b.bal.lo, .int .i64 b.bal.hi,vp,vo,vh].toArray] ro' (.int .i64 h)):
  CallV prog J (fnv 93) [.agg [.int .i64 b.lim, .int .i64 b.bal.lo, .int .i64 b.bal.hi,vp,vo,vh].toArray,fv] ro [] (OpenP b h vp vo vh):=by
 have hvv:BkV ro (.agg [.int .i64 b.lim, .int .i64 b.bal.lo, .int .i64 b.bal.hi,vp,vo,vh].toArray) b:=⟨_,_,_,rfl,hv⟩
 obtain⟨_,_,rfl⟩:=hv.1.form
 obtain⟨_,_,rfl⟩:=hv.2.1.form
 obtain⟨_,_,rfl⟩:=hv.2.2.1.form
 refine CallV.intro (first:= []) (vs:= [_,_]) (cap:= []) hJ Kr fun c cs tail hret=>enter_X (n:=38) func93 U U (Nl U) ?_
 have C:Ctx prog main J (bf 93 .normal):=⟨hJ,by decide⟩
 refine Xu W<|Bx Z fun p2=>Al W K185 U fun p4=>Ae W<|Xx W<|Rq W G66 B66 V Tk6<|R.callR C U U U U (checkBook_c hJ he hvv hs) fun v1 ro1 hl1 hp1=>?_
 subst hp1
 refine Ae W<|Xm W W<|Ri Z b_neq<|Zc U (fun hh=>?_) (fun hh=>?_)
 ·have hh:checkBook b≠0:=by simpa using hh
  have e:openH b h=checkBook b:=by rw [openH,if_pos hh]
  refine Xu W ?_;refine R.build C U U U K185 U A185 Kr .nil<|Ro W<|Rs Z B185 Y V (.here Ph7)<|Ae W<|X.ret C U U func93 U (by exact(.agg U G185 B185 V (.take (.take Tk6)) (.tmp U .nil))) ?_
  exact hret _ _ [] _ hl1 (.inl ⟨by rw [e];exact hh,rfl,by rw [e];rfl⟩) Vs
 ·have hh:checkBook b=0:=by simpa using hh
  have hb:=good_of hh
  have hcl:=cases_le hb
  have hff:=hf hh ro1 hl1
  refine Xz<|Xu W<|Rq W G66 B66 V Tk6 ?_;refine R.build C U U U zeroValue181 U A181 Kr (Fills.part U U B66 U Ph6 .nil)<|R.makeMapO C U U  fun p17=>?_;refine R.build C U U U K185 U A185 Kr (Fills.part U U B181 U Ph6 (Fills.part U U sizeOf183 U (.skip (.skip (.skip (.skip (.skip (.skip (.skip (.here .nil)))))))) .nil))<|Al W K185 U fun p7=>Rs Z B185 Y V (.here Ph7)<|Rz<|Xx W<|Ro W<|Rv 0 W A185 U B181<|Rq W G181 B181 V Tk6<|Cp Z (hff)<|Ae W<|Xm W W<|Ri Z b_neq<|Zc U (fun h1=>?_) (fun h1=>?_)
  ·have h1:h≠0:=by simpa using h1
   have e:openH b h=h:=by rw [openH,if_neg (fun e=>e hh),if_pos h1]
   refine Xu W ?_;refine R.build C U U U K185 U A185 Kr .nil<|Ro W<|Rs Z B185 Y V (.here Ph7)<|Ae W<|X.ret C U U func93 U (by exact(.agg U G185 B185 V (.take (.take Tk6)) (.tmp U .nil))) ?_
   exact hret _ _ [] _ hl1 (.inl ⟨by rw [e];exact h1,rfl,by rw [e];rfl⟩) Vs
  ·have h1:h=0:=by simpa using h1
   refine Xz<|Xx W<|Rv 0 W A185 U B181<|Rq W G181 B181 V Tk6<|R.makeFunc C U U U U<|R.callR C U U U U (collect_c hJ (hv.mono hl1) hs hh) fun v2 ro2 hl2 hp2=>?_
   obtain⟨lb,lc,rfl⟩:=hp2.form
   have k2:=RO.le_trans hl1 hl2
   refine Rv 6 W A185 U B182<|Rs Z B182 Y V (.skip (.skip (.skip (.skip (.skip (.skip (.here .nil)))))))<|Rz<|Xu W<|Rv 6 W A185 U B182<|Rj W isAgg182 V U<|Rt W A182<|Ri Z b_eql<|Zc U (fun h2=>?_) (fun h2=>?_)
   ·have h2:cases b= []:=by simpa using h2
    have e:openH b h=9:=by rw [openH,if_neg (fun e=>e hh),if_neg (fun e=>e h1),if_pos h2]
    refine Xu W ?_;refine R.build C U U U K185 U A185 Kr .nil<|Rs Z B185 Y V (.here Ph7)<|Ae W<|X.ret C U U func93 U (by exact(.agg U G185 B185 V (.take (.take Tk6)) (.tmp U .nil))) ?_
    exact hret _ _ [] _ k2 (.inl ⟨by rw [e];decide,rfl,by rw [e];rfl⟩) Vs
   ·have h2:cases b≠ []:=by simpa using h2
    have e:openH b h=0:=by rw [openH,if_neg (fun e=>e hh),if_neg (fun e=>e h1),if_neg h2]
    refine Xz<|Xu W<|Rq W G185 B185 V (.take (.take Tk6))<|Rs Z B185 Y V (.here Ph7)<|Ae W<|X.ret C U U func93 U (by exact(.agg U G185 B185 V (.take (.take Tk6)) (.tmp U .nil))) ?_
    exact hret _ _ [_] _ k2 (.inr ⟨e,_,_,rfl,hp2,rfl⟩) (by repeat (first|exact Sr|apply Sk|apply Sc))
theorem numbers_c{vl mv:Value}(hch:checkBook b=0)(hl:LsC ro vl (cases b)){f:Cg→Int}(hf:∀t∈cases b,CallP prog J fv [cgOf t] ro (.int .i64 (f t))):
  CallR prog J (fnv 96) [.agg [.int .i64 b.lim, .int .i64 b.bal.lo, .int .i64 b.bal.hi,vp,vo,vh,vl,mv].toArray,fv] ro (fun w ro'=>LsI ro' w (numbers ((cases b).map f))):=by
 have hb:=good_of hch
 obtain⟨lb,lc,rfl⟩:=hl.form
 have hcl:=cases_le hb
 refine ER 26 hJ func96 W fun c cs tail hret C=>Xu W<|Bx Z fun p2=>Ae W<|Xo W W<|Xx W<|Rv 6 W A185 U B182<|Rj W isAgg182 V U<|Rt W A182<|Ro W<|Rz<|Xb<|X.drop C.1 (own':=tail) Vs<|X.loopI (ι:=Nat×Value×List (Nat×Obj)) C.1 (fun s=>s.1≤(cases b).length∧Buf 3 1 tail s.2.1 ((((cases b).map f).take s.1).flatMap ic) s.2.2)
  (fun s=> [(1,fv),(5,s.2.1),(9, .slice lb (cases b).length lc),(10, .int .i64 ((cases b).length:Int)),(11, .int .i64 (s.1:Int))])
  (fun s=>⟨ro,s.2.2⟩) (fun s=>(cases b).length-s.1) (0, .slice none 0 0,tail) ⟨Nat.zero_le _, .nil⟩ rfl ⟨U,U,U,U,U,trivial⟩ fun s hs' hnext=>?_
 obtain⟨i,v0,own0⟩:=s
 obtain⟨hi,hbuf⟩:=hs'
 simp only at hi hbuf hnext⊢
 refine Xu W<|Ri Z b_lss<|Rz<|Xv<|Xj U (fun hlt=>?_) (fun hlt=>?_)
 ·have hi':i<(cases b).length:=O
  obtain⟨pp,off,cap,l,t,fq,hsl,hrop,hsub⟩:=hl.at hc_len O
  cases hsl
  have hmem:=List.getElem_mem hi'
  have hsi:=hsub i hi'
  have hta:((cases b).map f).take (i+1)=((cases b).map f).take i++ [f (cases b)[i]]:=by rw [List.take_succ_eq_append_getElem (by simpa using hi'),List.getElem_map]
  have hfl:=flat_len (((cases b).map f).take i)
  rw [List.length_take,List.length_map] at hfl
  generalize(cases b)[i]=co at hmem hsi hta
  obtain⟨w1,w2,w3,w4,w5,m1,m3⟩:=hc_lit hb hmem
  have hfc:=hf co hmem
  rw [hc_eq hb hmem,m3] at hsi
  rw [cgOf,cgV,m3] at hfc
  refine Xz<|Xv<|Xb<|Xu W<|Ry Y A182 B193<|La Y G193 B193 hrop hsi<|Al W K193 U fun p7=>Rs Z B193 Y V Ph6<|Rz<|Xg W<|Oo W W<|Rq W G193 B193 V Tk6<|Cp Z (hfc)<|R.buildSlice C (vs:=_) U U (show pvals _ _=some (numbered 0 [_]) from rfl) U A58 B3 K3 Dd (Cat.one U U) fun p19=>R.append2 (kk:=1) C [_] U U U U A58 A58 (fun _=>nofun) (show prog.info? 3=some Tryz.t3 by kernel_rfl) U U U Dd Dd hbuf U U (by(try simp only [List.length_append,List.length_cons,List.length_nil]);omega) fun v' own' hb'=>Ae W<|Xi<|Xg W<|Rb Y<|Ro W<|Rz<|X.drop C.1 (own':=own') (List.sublist_cons_self _ _)<|X.weaken ?_ (hnext (i+1,v',own') ⟨hi', ?_⟩ (by simp only;omega))
  ·exact⟨rfl,rfl,rfl,rfl,by simp [look],trivial⟩
  ·rw [hta,List.flatMap_append];exact hb'
 ·obtain rfl:i=(cases b).length:=by omega
  have hall:((cases b).map f).take (cases b).length=(cases b).map f:=by rw [List.take_of_length_le];simp
  rw [hall] at hbuf
  have hol:((cases b).map f).length=(cases b).length:=by simp
  generalize(cases b).map f=L at hbuf hol hret
  have hbuf2:Buf 3 1 ([]++tail) v0 (L.flatMap ic) own0:=hbuf
  obtain⟨own1,rfl,hb1⟩:=hbuf2.unapp
  have hX:=BufX.of hb1
  refine Xe U<|Xm W W<|R.call C U U U U U (sortX_c hJ O hX) fun w1 ro1 own2 hl1 hp1=>?_
  obtain⟨rfl,rfl,hX2⟩:=hp1
  refine Rz<|Xm W W<|R.call C U U U U U (compactX_c hJ (by rw [List.length_mergeSort];omega) hX2) fun w2 ro2 own3 hl2 hp2=>?_
  obtain⟨rfl,hX3⟩:=hp2
  refine Ae W<|hX3.fin C.1 fun ro3 hl3 hls=>Xw func96<|Hr hret hl3 ?_
  exact hls
theorem weights1_c{v:Value}(hv:BkV ro v b)(hn:b.ps.length≤1000)(hp:ro p=some (.cells [.int .i64 k].toArray t fq)):CallP prog J (.func (.func 94) #[] [.pointer (some ⟨p,0,none⟩)].toArray) [v] ro (.int .i64 (pieceH b k)):=by
 have hv0:=hv
 obtain⟨vp,vo,vh,rfl,_⟩:=hv
 by_cases e:b.isPiece k=true
 ·have _:=e
  refine CallP.introC hJ Kr fun c cs tail hret=>enter_X (n:=8) func94 U U (Nl U) ?_
  have C:Ctx prog main J (bf 94 .normal):=⟨hJ,by decide⟩
  refine Xu W<|Bx Z fun p2=>Ae W<|Xx W<|Rq W G181 B181 V Tk6<|Lo Y G3 hp U<|Cp Z (isPiece_c hJ hv0 hn k)<|Rh Y<|FF 7 U (by(rw [e];rfl))<|Zc U (fun h=>nomatch h) (fun _=>?_)
  refine Xz<|Xu W<|Hq W func94 hret ?_
  simp [pieceH,e,retVal]
 ·have e:b.isPiece k=false:=by simpa using e
  refine CallP.introC hJ Kr fun c cs tail hret=>enter_X (n:=8) func94 U U (Nl U) ?_
  have C:Ctx prog main J (bf 94 .normal):=⟨hJ,by decide⟩
  refine Xu W<|Bx Z fun p2=>Ae W<|Xx W<|Rq W G181 B181 V Tk6<|Lo Y G3 hp U<|Cp Z (isPiece_c hJ hv0 hn k)<|Rh Y<|FT 7 U (by(rw [e];rfl))<|Zc U (fun _=>?_) (fun h=>nomatch h)
  refine Xu W<|Hq W func94 hret ?_
  simp [pieceH,e,retVal]
theorem weights2_c(hb:b.good){c:Cg}(hmem:c∈cases b)(hp:ro p=some (.cells [.int .i64 k].toArray t fq))(hkn:0≤k∧k<5):CallP prog J (.func (.func 97) #[] [.pointer (some ⟨p,0,none⟩)].toArray) [cgOf c] ro (.int .i64 (nth c.2 k)):=by
 have h5:(pad 5 c.2).length=5:=by
  have h1:=case_len hmem
  have h2:=hb.np
  exact pad_len O
 have hx:=cg_at c.1 (ws:=pad 5 c.2) (i:=k.toNat) O
 have ek:((k.toNat:Nat):Int)=k:=O
 rw [ek,getD_pad] at hx
 refine CallP.introC hJ Kr fun c cs tail hret=>enter_X (n:=8) func97 U U (Nl U) ?_
 have C:Ctx prog main J (bf 97 .normal):=⟨hJ,by decide⟩
 refine Xu W<|Bx Z fun p2=>Ae W<|Xu W<|Lo Y G3 hp U<|Rv 1 W A193 U sizeOf191<|R.indexAddrA C U U U U A191 B3 O O<|R.loadOne C U U U G3 V hx<|Hq W func97 hret ?_
 rfl
end Go.Lg.H
namespace Go.Lg.H
open Go Go.Conc Go.Lg Go.Proofs Go.Lg.B Go.Proofs.Tryz
variable {b:Bk}
theorem openH_good{h:Int}(h0:openH b h=0):checkBook b=0∧h=0∧cases b≠ []:=by
 unfold openH at h0
 split at h0
 ·contradiction
 ·rename_i h1
  split at h0
  ·contradiction
  ·rename_i h2
   split at h0
   ·cases h0
   ·rename_i h3
    exact⟨Classical.not_not.1 h1,Classical.not_not.1 h2,h3⟩
theorem pieceH_zero{k:Int}(h:pieceH b k=0):0≤k∧k<b.ps.length:=by
 unfold pieceH at h
 split at h
 ·rename_i h1
  have:=between_iff.1 h1;omega
 ·cases h
variable {main:Bool}{J:Goroutine→Mem→Prop}(hJ:Closed prog main J)
include hJ
theorem weights_c{v:Value}{ro:RO}(he:Env ro)(hv:BkV ro v b)(hs:b.short)(k:Int):CallR prog J (fnv 25) [v, .int .i64 k] ro (fun w ro'=>∃vl,LsI ro' vl (weightsR b k).1∧w= .tuple [vl, .int .i64 (weightsR b k).2].toArray):=by
 obtain⟨vp,vo,vh,rfl,hv⟩:=hv
 have hv0:=hv
 obtain⟨_,_,rfl⟩:=hv.1.form
 obtain⟨_,_,rfl⟩:=hv.2.1.form
 obtain⟨_,_,rfl⟩:=hv.2.2.1.form
 refine ER 20 hJ func25 W fun c cs tail hret C=>Xu W<|Bx Z fun p2=>Bx Z fun p3=>Rg Y<|Ae W<|Xu W<|Rq W G66 B66 V Tk6<|R.persist C.1 fun ro1 hl1 hps=>R.makeFunc C U U U U<|R.call C U U U U (pre:= []) U (open_c hJ (he.mono hl1) (hv0.mono hl1) hs (h:=pieceH b k) fun _ ro' hle=>weights1_c hJ ⟨_,_,_,rfl,(hv0.mono hl1).mono hle⟩ hs.ps.1 (hle _ _ hps)) fun w2 ro2 pre2 hl2 hp2=>?_
 have k2:=RO.le_trans hl1 hl2
 rcases hp2 with⟨h0,rfl,rfl⟩|⟨h0,m,vl,rfl,hls,rfl⟩
 ·
  unfold noOpen
  refine Ro W<|Re Z<|Re Z<|Al W K185 U fun p6=>Rs Z B185 Y V (.here Ph7)<|Ae W<|Xx W<|Ro W<|Ri Z b_neq<|Zc U (fun hq=>?_) (fun hq=>?_)
  ·refine Xm W W<|Rg Y<|Ae W<|X.ret C U U func25 U (by exact(.tmp U (.tmp U .nil)))<|Hr hret k2 ?_
   exact⟨_,by rw [weightsR,if_pos h0];exact .nil,by rw [weightsR,if_pos h0];rfl⟩
  ·simp at hq;contradiction
 ·
  obtain⟨hch,hp0,hne⟩:=openH_good h0
  have hb:=good_of hch
  have hkb:=pieceH_zero hp0
  have hnp:=hb.np
  have hls0:=hls
  obtain⟨lb,lc,rfl⟩:=hls.form
  have hps2:=hl2 _ _ hps
  refine Ro W<|Re Z<|Re Z<|Al W K185 U fun p6=>Rs Z B185 Y V (.here Ph7)<|Ae W<|Xx W<|Ro W<|Ri Z b_neq<|Zc U (fun hq=>?_) (fun hq=>?_)
  ·simp at hq
  ·refine Xz<|Xu W<|Rq W G185 B185 V (.take (.take Tk6))<|R.makeFunc C U U U U<|R.callR C U U U U (numbers_c hJ hch hls0 (f:=fun t=>nth t.2 k) (fun t ht=>weights2_c hJ hb ht hps2 O)) fun v3 ro3 hl3 hp3=>Rg Y<|Ae W<|X.ret C U U func25 U (by exact(.tmp U (.tmp U .nil)))<|Hr hret (RO.le_trans k2 hl3) ?_
   have hr:weightsR b k=(weightsOf b k,0):=by rw [weightsR,if_neg (fun e=>e h0)]
   rw [hr]
   exact⟨_,hp3,rfl⟩
end Go.Lg.H
namespace Go.Lg.H
open Go Go.Conc Go.Lg Go.Proofs Go.Lg.B Go.Proofs.Tryz
variable {v:Value}{xs:List Hl}{ro:RO}
theorem ones_hl(xs:List Hl):ones (xs.flatMap Hl.cells)=true:=ones_flat (fun _=>rfl) xs
theorem ones_zp{zs:List Zp}(h:∀z∈zs,capOk z.1):ones (zs.flatMap zp)=true:=by
 induction zs with
 |nil=>rfl
 |cons z zs ih=>
  obtain⟨bs,len,cap,e,_⟩:=h z List.mem_cons_self
  simp only [List.flatMap_cons,zp,e,List.cons_append,List.nil_append,ones,oneCell,Bool.true_and]
  exact ih fun y hy=>h y (List.mem_cons_of_mem _ hy)
variable {main:Bool}{J:Goroutine→Mem→Prop}(hJ:Closed prog main J)
include hJ
theorem cloneH_c(hls:Ls Hl.cells 2 ro v xs)(hn:xs.length≤1000000):CallV prog J (fnv 91) [v] ro [] (fun v' ro' pre'=>ro'=ro∧Buf 69 2 [] v' (xs.flatMap Hl.cells) pre'):=by
 have hls0:=hls
 obtain⟨base,cap,rfl,hbase⟩:=hls
 refine CallV.intro (first:= []) (cap:= []) hJ Kr fun c cs tail hret=>?_
 have hfl:=flatMap_len Hl.len xs
 refine enter_X (n:=8) func91 U U (Nl U) ?_
 have C:Ctx prog main J (bf 91 .normal):=⟨hJ,by decide⟩
 refine Xo W W<|Xx W<|Ro W<|R.eqNil C U U U U A64<|Zc U (fun hz=>?_) (fun hz=>?_)
 ·have hx:xs= []:=by
   rcases hbase with h|⟨_,_,_,_,_,h,_⟩
   ·exact h
   ·rw [h] at hz;cases hz
  subst hx
  refine Xo W W<|Xw func91 ?_
  exact hret _ _ [] _ (RO.le_refl _) ⟨rfl, .nil⟩ (.refl _)
 ·refine Xz<|Xu W<|R.buildSlice C (vs:=_) U U (show pvals _ _=some (numbered 0 []) from rfl) U A64 B69 K69 Dd (.nil) fun p5=>Ro W<|R.append (kk:=2) C U U U U A64 A64 (fun _=>nofun) (show prog.info? 69=some Tryz.t69 by kernel_rfl) U U U Dd Dd (Buf.blk (cells:= []) (spare:= []) (len:=0) (cap:=0) U U (Nat.le_refl _)) (hls0.rd Hl.len) (ones_hl xs) (by simp only [List.length_nil];omega) fun v' own' hb'=>Ae W<|Xw func91 ?_
  obtain⟨own0,rfl,hb0⟩:=Buf.unapp (tail:= []) (H:=tail) hb'
  exact hret _ _ own0 _ (RO.le_refl _) ⟨rfl,hb0⟩ (.refl _)
theorem cloneZ_c{xs:List Zp}(hls:Ls zp 5 ro v xs)(hz1:∀z∈xs,capOk z.1)(hn:xs.length≤1000000):CallV prog J (fnv 183) [v] ro [] (fun v' ro' pre'=>ro'=ro∧Buf 174 5 [] v' (xs.flatMap zp) pre'):=by
 have hls0:=hls
 obtain⟨base,cap,rfl,hbase⟩:=hls
 refine CallV.intro (first:= []) (cap:= []) hJ Kr fun c cs tail hret=>?_
 have hfl:=flatMap_len zp_len xs
 refine enter_X (n:=8) func183 U U (Nl U) ?_
 have C:Ctx prog main J (bf 183 .normal):=⟨hJ,by decide⟩
 refine Xo W W<|Xx W<|Ro W<|R.eqNil C U U U U A63<|Zc U (fun hz=>?_) (fun hz=>?_)
 ·have hx:xs= []:=by
   rcases hbase with h|⟨_,_,_,_,_,h,_⟩
   ·exact h
   ·rw [h] at hz;cases hz
  subst hx
  refine Xo W W<|Xw func183 ?_
  exact hret _ _ [] _ (RO.le_refl _) ⟨rfl, .nil⟩ (.refl _)
 ·refine Xz<|Xu W<|R.buildSlice C (vs:=_) U U (show pvals _ _=some (numbered 0 []) from rfl) U A63 B174 K174 Dd (.nil) fun p5=>Ro W<|R.append (kk:=5) C U U U U A63 A63 (fun _=>nofun) (show prog.info? 174=some Tryz.t174 by kernel_rfl) U U U Dd Dd (Buf.blk (cells:= []) (spare:= []) (len:=0) (cap:=0) U U (Nat.le_refl _)) (hls0.rd zp_len) (ones_zp hz1) (by simp only [List.length_nil];omega) fun v' own' hb'=>Ae W<|Xw func183 ?_
  obtain⟨own0,rfl,hb0⟩:=Buf.unapp (tail:= []) (H:=tail) hb'
  exact hret _ _ own0 _ (RO.le_refl _) ⟨rfl,hb0⟩ (.refl _)
theorem cloneHR_c(hls:Ls Hl.cells 2 ro v xs)(hn:xs.length≤1000000):CallR prog J (fnv 91) [v] ro (fun v' ro'=>Ls Hl.cells 2 ro' v' xs∧capOk v'):=toR hJ Hl.len Dd (cloneH_c hJ hls hn)
end Go.Lg.H
namespace Go.Lg.H
open Go Go.Conc Go.Lg Go.Proofs Go.Lg.B Go.Proofs.Tryz
variable {zs:List Zp}{v:Value}
def noBk:Value:= .agg [.int .i64 0, .int .i64 0, .int .i64 0, .slice none 0 0, .slice none 0 0, .slice none 0 0].toArray
def NewV(ro:RO)(b:Bk)(h:Int)(w:Value):Prop:=(h≠0∧w= .tuple [noBk, .int .i64 h].toArray)∨(h=0∧∃v,BkV ro v b∧w= .tuple [v, .int .i64 0].toArray)
theorem zp_sub:∀ (zs:List Zp) (i:Nat) (h:i<zs.length) (sp:List Value),Sub (0+i*5) 5 (zs.flatMap zp++sp) (zp zs[i])
 |z::zs,0,_,sp=>by
  simp only [List.flatMap_cons,List.append_assoc]
  exact Sub.front (zp z) _
 |z::zs,i+1,h,sp=>by
  have ih:=zp_sub zs i (by simpa using h) sp
  simp only [List.flatMap_cons,List.append_assoc,List.getElem_cons_succ]
  rw [show 0+(i+1)*5=(0+i*5)+5 by omega]
  exact .skip (.skip (.skip (.skip (.skip ih))))
theorem zp_put:∀ (zs:List Zp) (i:Nat) (h:i<zs.length) (sp:List Value) (v:Value),Put (0+i*5+4) [v] (zs.flatMap zp++sp) ((zs.set i (v,zs[i].2)).flatMap zp++sp)
 |z::zs,0,_,sp,v=>by
  simp only [List.flatMap_cons,List.set_cons_zero,List.append_assoc,List.getElem_cons_zero]
  exact .skip (.skip (.skip (.skip (.here .nil))))
 |z::zs,i+1,h,sp,v=>by
  have ih:=zp_put zs i (by simpa using h) sp v
  simp only [List.flatMap_cons,List.set_cons_succ,List.append_assoc,List.getElem_cons_succ]
  rw [show 0+(i+1)*5+4=(0+i*5+4)+5 by omega]
  exact .skip (.skip (.skip (.skip (.skip ih))))
theorem zset_snd{i:Nat}(h:i<zs.length)(v:Value):(zs.set i (v,zs[i].2)).map (·.2)=zs.map (·.2):=by
 rw [List.map_set]
 apply List.ext_getElem?
 intro j
 rw [List.getElem?_set]
 split
 ·rename_i e;subst e;simp [h]
 ·rfl
theorem blkOf{e:TypeId}{own:List (Nat×Obj)}(h:Buf e 5 [] v (zs.flatMap zp) own)(hz:zs≠ []):∃p cap spare,v= .slice (some ⟨p,0,none⟩) zs.length cap∧zs.length≤cap∧own= [(p, .cells (zs.flatMap zp++spare).toArray e (0,0))]:=by
 have hl:=flatMap_len zp_len zs
 generalize hc:zs.flatMap zp=cl at h hl
 cases h with
 |nil=>
  simp only [List.length_nil] at hl
  exact absurd (List.length_eq_zero_iff.1 O) hz
 | @blk p len cap _ spare h1 h2 h3=>
  obtain rfl:len=zs.length:=by omega
  exact⟨p,cap,spare,rfl,h3,rfl⟩
variable {main:Bool}{J:Goroutine→Mem→Prop}(hJ:Closed prog main J)
include hJ
theorem agreed_c{b:Bk}{ro:RO}(he:Env ro)(hv:BkV ro v b)(hs:b.short):CallR prog J (fnv 92) [v] ro (fun w ro'=>NewV ro' b (agreedH b) w):=by
 have hvv:=hv
 obtain⟨vp,vo,vh,rfl,hv⟩:=hv
 have hv':=hv
 obtain⟨_,_,rfl⟩:=hv.1.form
 obtain⟨_,_,rfl⟩:=hv.2.1.form
 obtain⟨_,_,rfl⟩:=hv.2.2.1.form
 refine ER 48 hJ func92 W fun c cs tail hret C=>Xu W<|Bx Z fun p1=>Al W K66 U fun p2=>Ae W<|Xx W<|Rq W G66 B66 V Tk6<|R.callR C U U U U (checkBook_c hJ he hvv hs) fun v1 ro1 hl1 hp1=>?_
 subst hp1
 refine Ae W<|Xm W W<|Ri Z b_neq<|Zc U (fun hh=>?_) (fun hh=>?_)
 ·have hh:checkBook b≠0:=by simpa using hh
  have e:agreedH b=checkBook b:=by rw [agreedH,if_pos hh]
  refine Xu W ?_;refine R.build C U U U K66 U A66 Kr .nil<|Ro W<|Rs Z B66 Y V Ph6<|Ae W<|X.ret C U U func92 U (by exact(.agg U G66 B66 V Tk6 (.tmp U .nil)))<|Hr hret hl1 ?_
  rw [e];exact .inl ⟨hh,rfl⟩
 ·have hh:checkBook b=0:=by simpa using hh
  have hb:=good_of hh
  have hnp:=hb.np
  have hso:=hs.out
  have hsh:=hs.hs
  refine Xz<|Xx W<|Rq W G66 B66 V Tk6 ?_;refine R.build C U U U zeroValue181 U A181 Kr (Fills.part U U B66 U Ph6 .nil)<|R.callR C U U U U (some_c hJ (hv'.mono hl1) hs hh) fun v4 ro4 hl4 hp4=>?_
  subst hp4
  have k4:=RO.le_trans hl1 hl4
  refine Rh Y<|Zc U (fun hc=>?_) (fun hc=>?_)
  ·have hc:cases b= []:=by simpa using hc
   have e:agreedH b=9:=by rw [agreedH,if_neg (fun h=>h hh),if_pos hc]
   refine Xu W ?_;refine R.build C U U U K66 U A66 Kr .nil<|Rs Z B66 Y V Ph6<|Ae W<|X.ret C U U func92 U (by exact(.agg U G66 B66 V Tk6 (.tmp U .nil)))<|Hr hret k4 ?_
   rw [e];exact .inl ⟨by decide,rfl⟩
  ·have hc:cases b≠ []:=by simpa using hc
   have e:agreedH b=0:=by rw [agreedH,if_neg (fun h=>h hh),if_neg hc]
   have hv4:=hv'.mono k4
   obtain⟨zs,hzl,hzg,hzo⟩:=hv4.1
   have hzlen:zs.length=b.ps.length:=by rw [←hzg,List.length_map]
   rw [←hzlen] at hzl
   refine Xz<|Xv<|Xf fun hok=>Dh 3 0 Y A66 U B63<|Dl 1 hok (fun _ _ A h=>R.loadOne C U (A.w U U) (A.x U U) G63 Vm U h)<|Dh 4 3 Y A66 U B58<|Dl 4 hok (fun _ _ A h=>R.loadOne C U (A.w U U) (A.x U U) G58 Vm U h)<|Dh 5 6 Y A66 U B64<|Dl 7 hok (fun _ _ A h=>R.loadOne C U (A.w U U) (A.x U U) G64 Vm U h)<|De 2 (some 20) [true,true,false] hok (fun _ _ A hk=>?_)
   refine R.call C U (A.w U U) (A.x U U) (A.s U U) (pre:= []) U (cloneZ_c hJ (hzlen▸hzl) (fun z hz=>(hzo z hz).2) O) fun v20 ro20 pre20 hl20 hp20=>hk _ _ ⟨(QFs.cons (QF.of U (fun _ _ A h=>R.loadOne C U (A.w U U) (A.x U U) G64 Vm U h)) (QFs.cons (QF.of U (fun _ _ A h=>R.loadOne C U (A.w U U) (A.x U U) G58 Vm U h)) QFs.nil)), ?_⟩
   refine Dh 3 9 Y A66 U B63<|De 5 (some 23) [true,false] hok (fun _ _ A hk=>?_)
   obtain⟨hro20,hbG⟩:=hp20
   subst hro20
   obtain⟨pg,capg,spg,rfl,hcapg,rfl⟩:=blkOf hbG (by intro h;rw [h] at hzlen;simp at hzlen;omega)
   refine R.callR C U (A.w U U) (A.x U U) (A.s U U) (cloneIR_c hJ hv4.2.1 O) fun v23 ro23 hl23 hp23=>hk _ _ ⟨(QFs.cons (QF.of U (fun _ _ A h=>R.loadOne C U (A.w U U) (A.x U U) G64 Vm U h)) QFs.nil), ?_⟩
   refine De 8 (some 26) [false] hok (fun _ _ A hk=>?_)
   obtain⟨hls23,hco23⟩:=hp23
   obtain⟨b23,c23,rfl⟩:=hls23.form
   refine R.callR C U (A.w U U) (A.x U U) (A.s U U) (cloneHR_c hJ (hv4.2.2.1.mono hl23) O) fun v26 ro26 hl26 hp26=>hk _ _ ⟨QFs.nil, ?_⟩
   refine De 10 none [] hok (fun _ _ A hk=>?_)
   obtain⟨hls26,hco26⟩:=hp26
   obtain⟨b26,c26,rfl⟩:=hls26.form
   refine R.store C U (A.w U U) (A.x U U) (A.x U U) B63 U U U (by repeat (first|exact Uh|apply Ut|apply Upd.app)) (.skip (.skip (.skip (.here .nil)))) (hk undef _ ⟨QFs.nil, ?_⟩)
   refine Dh 4 11 Y A66 U B58<|De 12 none [] hok (fun _ _ A hk=>?_)
   refine R.store C U (A.w U U) (A.x U U) (A.x U U) B58 U U U (by repeat (first|exact Uh|apply Ut|apply Upd.app)) (.skip (.skip (.skip (.skip (.here .nil))))) (hk undef _ ⟨QFs.nil, ?_⟩)
   refine Dh 5 13 Y A66 U B64<|De 14 none [] hok (fun _ _ A hk=>?_)
   refine R.store C U (A.w U U) (A.x U U) (A.x U U) B64 U U U (by repeat (first|exact Uh|apply Ut|apply Upd.app)) (.skip (.skip (.skip (.skip (.skip (.here .nil)))))) (hk undef _ ⟨QFs.nil, ?_⟩)
   refine Dn<|Xx W<|Rv 3 W A66 U B63<|R.loadOne C U U U G63 Vm U<|Rt W A63<|Ro W<|Rz<|Xb ?_
   have hl426:=RO.le_trans hl23 hl26
   refine X.loopI (ι:=Nat×List Zp×RO) C.1 (fun s=>s.1≤b.ps.length∧s.2.1.map (·.2)=b.ps∧ro26.le s.2.2∧∀z∈s.2.1,LsI s.2.2 z.1 z.2.on∧capOk z.1)
    (fun s=> [(1, .pointer (some ⟨p1,0,none⟩)),(2, .pointer (some ⟨p2,0,none⟩)),(31, .slice (some ⟨pg,0,none⟩) b.ps.length capg),(32, .int .i64 (b.ps.length:Int)),(33, .int .i64 (s.1:Int))])
    (fun s=>⟨s.2.2,(pg, .cells (s.2.1.flatMap zp++spg).toArray 174 (0,0))::(p2,_)::(p1,_)::tail⟩) (fun s=>b.ps.length-s.1) (0,zs,ro26) ⟨Nat.zero_le _,hzg,RO.le_refl _,fun z hz=>⟨(hzo z hz).1.mono hl426,(hzo z hz).2⟩⟩ rfl ⟨rfl,rfl,by rw [hzlen];rfl,by rw [hzlen];rfl,rfl,trivial⟩ fun s hs' hnext=>?_
   obtain⟨i,zs2,ro2⟩:=s
   obtain⟨hi,hmap,hle2,hz2⟩:=hs'
   simp only at hi hmap hle2 hz2 hnext⊢
   have hz2len:zs2.length=b.ps.length:=by rw [←hmap,List.length_map]
   refine Xu W<|Ri Z b_lss<|Rz<|Xv<|Xj U (fun hlt=>?_) (fun hlt=>?_)
   ·have hi':i<zs2.length:=O
    have hzm:=hz2 _ (List.getElem_mem hi')
    have hgi:zs2[i].2∈b.ps:=by rw [←hmap];exact List.mem_map.2 ⟨_,List.getElem_mem hi',rfl⟩
    have hgl:=(hs.ps.2 _ hgi).2
    have hput:=fun v=>zp_put zs2 i hi' spg v
    have hset:=fun v=>zset_snd hi' v
    have hat:=zp_sub zs2 i hi' spg
    have hmem2:=fun(v:Value) (z:Zp)=>List.mem_or_eq_of_mem_set (l:=zs2) (i:=i) (a:=z) (b:=(v,zs2[i].2))
    generalize zs2[i]=zi at hzm hgl hput hset hat hmem2
    obtain⟨bz,cz,hzf⟩:=hzm.1.form
    have hzc:zp zi= [strV zi.2.nm, .int .i64 zi.2.arm, .int .i64 zi.2.r.lo, .int .i64 zi.2.r.hi, .slice bz zi.2.on.length cz]:=by simp only [zp,hzf]
    have hzl2:=hzm.1
    rw [hzf] at hzl2
    rw [hzc] at hat
    refine Xz<|Xv<|Xb<|Xm W W<|Ry Y A63 B174<|R.loadAgg C U U U G174 B174 V hat<|Al W K174 U fun p6=>Rg Y<|Rs Z B174 Y V Ph5<|Rz<|Xf fun hok=>Dh 3 0 Y A66 U B63<|Db 1 W G63 V U<|Dt 2 Y<|Dh 4 3 Y A174 U B58<|Db 4 W G58 V U<|De 5 (some 43) [false,true] hok (fun _ _ A hk=>?_)
    refine R.callR C U (A.w U U) (A.x U U) (A.s U U) (cloneIR_c hJ hzl2 O) fun v43 ro43 hl43 hp43=>hk _ _ ⟨(QFs.cons (QF.of U (fun _ _ A h=>R.loadOne C U (A.w U U) (A.x U U) G63 V U h)) QFs.nil), ?_⟩
    obtain⟨hls43,hco43⟩:=hp43
    obtain⟨b43,c43,rfl⟩:=hls43.form
    refine Dw 6 Y A63 B174<|Df C 7 hok U U U A174 U B58 U<|De 8 none [false] hok (fun _ _ A hk=>?_)
    refine R.store C U (A.w U U) (A.x U U) (A.x U U) B58 U U U V (hput _) (hk undef _ ⟨QFs.nil, ?_⟩)
    refine Dn<|Xi<|Xg W<|Rb Y<|Ro W<|Rz<|X.drop C.1 (own':=_::_::_::tail) (List.sublist_cons_self _ _)<|X.weaken ?_ (hnext (i+1,zs2.set i (.slice b43 zi.2.on.length c43,zi.2),ro43) ⟨O,by rw [hset,hmap],RO.le_trans hle2 hl43,fun z hz=>?_⟩ (by simp only;omega))
    ·exact⟨rfl,rfl,rfl,rfl,by simp [look],trivial⟩
    ·rcases hmem2 _ z hz with h|h
     ·exact⟨(hz2 z h).1.mono hl43,(hz2 z h).2⟩
     ·subst h;exact⟨hls43,hco43⟩
   ·refine Xe U<|Xu W<|Rq W G66 B66 V Tk6<|Rs Z B66 Y V Ph6<|Ae W<|X.persist C.1 fun ro3 hl3 hpg=>?_
    have hl43:=RO.le_trans hle2 hl3
    refine X.ret C U U func92 U (by exact(.agg U G66 B66 V Tk6 (.tmp U .nil)))<|Hr hret (RO.le_trans k4 (RO.le_trans hl426 hl43)) ?_
    rw [e]
    refine .inr ⟨rfl,_,⟨_,_,_,rfl,⟨zs2,⟨_,_,by rw [hz2len, ←hzlen], .inr ⟨pg,0,_,_,_,rfl,hpg, ?_⟩⟩,hmap,fun z hz=>⟨(hz2 z hz).1.mono hl3,(hz2 z hz).2⟩⟩,hls23.mono (RO.le_trans hl26 hl43),hls26.mono hl43,⟨_,_,_,rfl,O⟩,hco23⟩,rfl⟩
    have:=Sub.front (zs2.flatMap zp) spg
    rw [flatMap_len zp_len] at this
    exact this
end Go.Lg.H
namespace Go.Lg.H
open Go Go.Conc Go.Lg Go.Proofs Go.Lg.B Go.Proofs.Tryz
variable {main:Bool}{J:Goroutine→Mem→Prop}(hJ:Closed prog main J)
include hJ
theorem heel_c{b:Bk}{v:Value}{ro:RO}(he:Env ro)(hv:BkV ro v b)(hs:b.short)(x:Hl):CallR prog J (fnv 24) [v,x.val] ro (fun w ro'=>NewV ro' (b.heeled x) (heelH b x) w):=by
 have hvv:=hv
 obtain⟨vp,vo,vh,rfl,hp,ho,hh,hcp,hco⟩:=hv
 obtain⟨pb,pc,rfl⟩:=hp.form
 obtain⟨ob,oc,rfl⟩:=ho.form
 obtain⟨eb,ec,rfl⟩:=hh.form
 refine ER 24 hJ F24 W fun c cs tail hret C=>Xu W<|Bx Z fun p2=>Bx Z fun p3=>Al W K66 U fun p4=>Ae W<|Xx W<|Rq W G66 B66 V Tk6<|R.callR C U U U U (checkBook_c hJ he hvv hs) fun v1 ro1 hl1 hp1=>?_
 subst hp1
 refine Ae W<|Xm W W<|Ri Z b_neq<|Zc U (fun hq=>?_) (fun hq=>?_)
 ·have hq:checkBook b≠0:=by simpa using hq
  refine Xu W ?_;refine R.build C U U U K66 U A66 Kr .nil<|Ro W<|Rs Z B66 Y V Ph6<|Ae W<|X.ret C U U F24 U (by exact(.agg U G66 B66 V Tk6 (.tmp U .nil)))<|Hr hret hl1 ?_
  exact .inl ⟨by rw [heelH,if_pos hq];exact hq,by rw [heelH,if_pos hq];rfl⟩
 ·have hq:checkBook b=0:=by simpa using hq
  have hb:=good_of hq
  have hnh:=hb.nh
  have hfl:=flatMap_len Hl.len b.hs
  have hfin:heelH b x=agreedH (b.heeled x):=by rw [heelH,if_neg (fun e=>e hq)]
  have hcat:b.hs.flatMap Hl.cells++x.cells=(b.hs++ [x]).flatMap Hl.cells:=by simp
  have hsh:(b.heeled x).short:=⟨hs.ps,hs.out,by show(b.hs++ [x]).length≤1000;simp;omega⟩
  rw [hfin] at hret
  refine Xz<|Xv<|Xf fun hok=>Dh 5 0 Y A66 U B64<|Dl 1 hok (fun _ _ A h=>R.loadOne C U (A.w U U) (A.x U U) G64 Vm U h)<|Dl 3 hok (fun _ _ A h=>R.loadAgg C U (A.w U U) (A.x U U) G69 B69 Vm Tk2 h)<|D.eP2 (i:=2) (i':=4) (dst:=(some 15)) (dst':=(some 17)) [true,false] [false,true] hok U U Kr Kr Kr (fun _ _ A hk=>?_) (fun _ _ A hk=>?_)
  ·
   refine R.call C U (A.w U U) (A.x U U) (A.s U U) (pre:= []) U (cloneH_c hJ (hh.mono hl1) O) fun vW roW preW hleW hqW=>hk _ _ ⟨(QFs.cons (QF.of U (fun _ _ A h=>R.loadAgg C U (A.w U U) (A.x U U) G69 B69 Vm Tk2 h)) QFs.nil), ?_⟩
   refine De 4 (some 17) [false] hok (fun _ _ A hk=>?_)
   refine R.buildSlice C (vs:=_) U (A.w U U) (show pvals _ _=some (numbered 0 [_]) from(A.p U U)) U A64 B69 K69 Dd (Cat.one U U) fun p17=>hk _ _ ⟨QFs.nil, ?_⟩
   refine De 5 (some 18) [] hok (fun _ _ A hk=>?_)
   obtain⟨hroW,hbW⟩:=hqW
   subst hroW
   refine R.append1 (kk:=2) C U (A.w U U) (A.x U U) (A.x U U) A64 A64 (fun _=>nofun) (show prog.info? 69=some Tryz.t69 by kernel_rfl) U U U Dd Dd (hbW.app _) U U (by(try simp only [List.length_append,List.length_cons,List.length_nil]);omega) fun v' own' hb'=>hk _ _ ⟨QFs.nil, ?_⟩
   refine Dh 5 6 Y A66 U B64<|De 7 none [] hok (fun _ _ A hk=>?_)
   obtain⟨own1,rfl,hb1⟩:=hb'.unapp
   replace hb1:Buf 69 2 [] v' ((b.hs++ [x]).flatMap Hl.cells) own1:=by rw [←hcat];exact hb1
   obtain⟨bs1,cap1,rfl⟩:=hb1.form Dd
   refine R.store C U (A.w U U) (A.x U U) (A.x U U) B64 U U U (by repeat (first|exact Uh|apply Ut|apply Upd.app)) (.skip (.skip (.skip (.skip (.skip (.here .nil)))))) (hk undef _ ⟨QFs.nil, ?_⟩)
   refine Dn<|Xu W<|R.finish C.1 Hl.len Dd (hb1.app _) fun ro3 hl3 hls3=>?_
   have k3:=RO.le_trans hl1 hl3
   have hv3:BkV ro3 (.agg [.int .i64 b.lim, .int .i64 b.bal.lo, .int .i64 b.bal.hi, .slice pb b.ps.length pc, .slice ob b.out.length oc, .slice bs1 (((b.hs++ [x]).flatMap Hl.cells).length/2) cap1].toArray) (b.heeled x):=⟨_,_,_,rfl,hp.mono k3,ho.mono k3,hls3,hcp,hco⟩
   have he3:=he.mono k3
   refine R.loadAgg C U U U G66 B66 Vm Tk6<|R.callR C U U U U (agreed_c hJ (by assumption) (by assumption) (by assumption)) fun v1 ro2 hl2 hp=>?_
   rcases hp with⟨h0,rfl⟩|⟨h0,v2,⟨vp2,vo2,vh2,rfl,hp2⟩,rfl⟩
   ·
    unfold noBk
    refine Re Z<|Re Z<|Rs Z B66 Y (by repeat (first|exact Uh|apply Ut|apply Upd.app)) Ph6<|Ae W<|X.ret C U U F24 U (by exact(.agg U G66 B66 Vm Tk6 (.tmp U .nil)))<|hret _ _ _ (RO.le_trans k3 hl2) (by repeat (first|exact List.Sublist.refl _|apply List.Sublist.cons|apply List.sublist_append_of_sublist_right)) ?_
    exact .inl ⟨h0,rfl⟩
   ·
    obtain⟨_,_,rfl⟩:=hp2.1.form
    obtain⟨_,_,rfl⟩:=hp2.2.1.form
    obtain⟨_,_,rfl⟩:=hp2.2.2.1.form
    refine Re Z<|Re Z<|Rs Z B66 Y (by repeat (first|exact Uh|apply Ut|apply Upd.app)) Ph6<|Ae W<|X.ret C U U F24 U (by exact(.agg U G66 B66 Vm Tk6 (.tmp U .nil)))<|hret _ _ _ (RO.le_trans k3 hl2) (by repeat (first|exact List.Sublist.refl _|apply List.Sublist.cons|apply List.sublist_append_of_sublist_right)) ?_
    exact .inr ⟨h0,_,⟨_,_,_,rfl,hp2⟩,rfl⟩
  ·
   refine R.buildSlice C (vs:=_) U (A.w U U) (show pvals _ _=some (numbered 0 [_]) from(A.p U U)) U A64 B69 K69 Dd (Cat.one U U) fun p17=>hk _ _ ⟨(QFs.cons (QF.of U (fun _ _ A h=>R.loadOne C U (A.w U U) (A.x U U) G64 Vm U h)) QFs.nil), ?_⟩
   refine De 2 (some 15) [false] hok (fun _ _ A hk=>?_)
   refine R.call C U (A.w U U) (A.x U U) (A.s U U) (pre:= []) U (cloneH_c hJ (hh.mono hl1) O) fun vW roW preW hleW hqW=>hk _ _ ⟨QFs.nil, ?_⟩
   refine De 5 (some 18) [] hok (fun _ _ A hk=>?_)
   obtain⟨hroW,hbW⟩:=hqW
   subst hroW
   refine R.perm C.1 List.perm_middle<|R.append1 (kk:=2) C U (A.w U U) (A.x U U) (A.x U U) A64 A64 (fun _=>nofun) (show prog.info? 69=some Tryz.t69 by kernel_rfl) U U U Dd Dd (hbW.app _) U U (by(try simp only [List.length_append,List.length_cons,List.length_nil]);omega) fun v' own' hb'=>hk _ _ ⟨QFs.nil, ?_⟩
   refine Dh 5 6 Y A66 U B64<|De 7 none [] hok (fun _ _ A hk=>?_)
   obtain⟨own1,rfl,hb1⟩:=hb'.unapp
   replace hb1:Buf 69 2 [] v' ((b.hs++ [x]).flatMap Hl.cells) own1:=by rw [←hcat];exact hb1
   obtain⟨bs1,cap1,rfl⟩:=hb1.form Dd
   refine R.store C U (A.w U U) (A.x U U) (A.x U U) B64 U U U (by repeat (first|exact Uh|apply Ut|apply Upd.app)) (.skip (.skip (.skip (.skip (.skip (.here .nil)))))) (hk undef _ ⟨QFs.nil, ?_⟩)
   refine Dn<|Xu W<|R.finish C.1 Hl.len Dd (hb1.app _) fun ro3 hl3 hls3=>?_
   have k3:=RO.le_trans hl1 hl3
   have hv3:BkV ro3 (.agg [.int .i64 b.lim, .int .i64 b.bal.lo, .int .i64 b.bal.hi, .slice pb b.ps.length pc, .slice ob b.out.length oc, .slice bs1 (((b.hs++ [x]).flatMap Hl.cells).length/2) cap1].toArray) (b.heeled x):=⟨_,_,_,rfl,hp.mono k3,ho.mono k3,hls3,hcp,hco⟩
   have he3:=he.mono k3
   refine R.loadAgg C U U U G66 B66 Vm Tk6<|R.callR C U U U U (agreed_c hJ (by assumption) (by assumption) (by assumption)) fun v1 ro2 hl2 hp=>?_
   rcases hp with⟨h0,rfl⟩|⟨h0,v2,⟨vp2,vo2,vh2,rfl,hp2⟩,rfl⟩
   ·
    unfold noBk
    refine Re Z<|Re Z<|Rs Z B66 Y (by repeat (first|exact Uh|apply Ut|apply Upd.app)) Ph6<|Ae W<|X.ret C U U F24 U (by exact(.agg U G66 B66 Vm Tk6 (.tmp U .nil)))<|hret _ _ _ (RO.le_trans k3 hl2) (by repeat (first|exact List.Sublist.refl _|apply List.Sublist.cons|apply List.sublist_append_of_sublist_right)) ?_
    exact .inl ⟨h0,rfl⟩
   ·
    obtain⟨_,_,rfl⟩:=hp2.1.form
    obtain⟨_,_,rfl⟩:=hp2.2.1.form
    obtain⟨_,_,rfl⟩:=hp2.2.2.1.form
    refine Re Z<|Re Z<|Rs Z B66 Y (by repeat (first|exact Uh|apply Ut|apply Upd.app)) Ph6<|Ae W<|X.ret C U U F24 U (by exact(.agg U G66 B66 Vm Tk6 (.tmp U .nil)))<|hret _ _ _ (RO.le_trans k3 hl2) (by repeat (first|exact List.Sublist.refl _|apply List.Sublist.cons|apply List.sublist_append_of_sublist_right)) ?_
    exact .inr ⟨h0,_,⟨_,_,_,rfl,hp2⟩,rfl⟩
end Go.Lg.H
namespace Go.Lg.H
open Go Go.Conc Go.Lg Go.Proofs Go.Lg.B Go.Proofs.Tryz
variable {main:Bool}{J:Goroutine→Mem→Prop}(hJ:Closed prog main J)
include hJ
theorem isPieceR_c{b:Bk}{v:Value}{ro:RO}(hv:BkV ro v b)(hn:b.ps.length≤1000)(k:Int):CallP prog J (fnv 249) [v, .int .i64 k] ro (.bool (b.isPiece k)):=by
 obtain⟨vp,vo,vh,rfl,hp,ho,hh,hcp,hco⟩:=hv
 obtain⟨pb,pc,rfl⟩:=hp.form
 refine EP 11 hJ func249 W fun c cs tail hret C=>Xu W<|Bx Z fun p2=>Ae W<|Xm W W<|Rv 3 W A66 U B63<|Rj W G63 V U<|Rt W A63<|Ri Z (b_sub O O)<|Cp Z (betweenR_c hJ _ _ _ _)<|Hq W func249 hret ?_
 rfl
theorem sideR_c(n:Int)(ro:RO):CallP prog J (fnv 181) [.int .i64 n] ro (.int .i64 (sideOf n)):=by
 refine EP 7 hJ func181 W fun c cs tail hret C=>Xo W W<|Xx W<|Ro W<|Ri Z b_gtr<|Zc U (fun h1=>?_) (fun h1=>?_)
 ·have h1:0<n:=by simpa using h1
  refine Xu W<|Hq W func181 hret ?_
  simp [sideOf,h1,retVal]
 ·have h1:¬0<n:=by simpa using h1
  refine Xz<|Xx W<|Ro W<|Ri Z b_lss<|Zc U (fun h2=>?_) (fun h2=>?_)
  ·have h2:n<0:=by simpa using h2
   refine Xu W<|Hq W func181 hret ?_
   simp [sideOf,h1,h2,retVal]
  ·have h2:¬n<0:=by simpa using h2
   refine Xz<|Xu W<|Hq W func181 hret ?_
   simp [sideOf,h1,h2,retVal]
end Go.Lg.H
namespace Go.Lg.H
open Go Go.Conc Go.Lg Go.Proofs Go.Lg.B Go.Proofs.Tryz
variable {v:Value}{pre:List (Nat×Obj)}
variable {main:Bool}{J:Goroutine→Mem→Prop}(hJ:Closed prog main J)
include hJ
theorem holdsB_c{l:List Int}(n:Int)(hb:Buf 3 1 [] v (l.flatMap ic) pre)(hn:l.length≤1000000)(ro:RO):
  CallV prog J (fnv 166) [v, .int .i64 n] ro pre (fun w ro' pre'=>w= .bool (l.contains n)∧ro'=ro∧pre'=pre):=by
 obtain⟨bs,cap,rfl,hsrc⟩:=bufSrc hb
 have hfl:=flat_len l
 rw [hfl] at hb⊢
 refine CallV.intro (first:= []) (vs:= [_,_]) (cap:= []) hJ Kr fun c cs tail hret=>enter_X (n:=18) func166 U U (Nl U) ?_
 have C:Ctx prog main J (bf 166 .normal):=⟨hJ,by decide⟩
 refine Xo W W<|Xx W<|Ae W<|Xb<|X.loopI (ι:=Nat) C.1 (fun i=>i≤l.length∧n∉l.take i) (fun i=> [(0, .slice bs l.length cap),(1, .int .i64 n),(5, .int .i64 (i:Int))])
  (fun _=>⟨ro,pre++tail⟩) (fun i=>l.length-i) 0 ⟨Nat.zero_le _,by simp⟩ rfl ⟨U,U,U,trivial⟩ fun i hi hnext=>?_
 obtain⟨hi,hinv⟩:=hi
 refine Xx W<|Oo W W<|Rt W A58<|Ri Z b_lss<|Zj U (fun hlt=>?_) (fun hlt=>?_)
 ·have hi':i<l.length:=O
  rcases hsrc with h0|⟨p,spare,rfl,rfl⟩
  ·rw [h0] at hfl;simp at hfl;omega
  ·have hx:(l.flatMap ic++spare)[0+((i:Int)).toNat*1]? =some (.int .i64 l[i]):=by
    rw [ic_ints,Int.toNat_natCast,Nat.zero_add,Nat.mul_one,List.getElem?_append_left (by simpa [ints] using hi')]
    simp [ints,hi']
   refine Xz<|Xv<|Xb<|Xm W W<|Ro W<|Ry Y A58 B3<|R.loadOne C U U U G3 V hx<|Ro W<|Ri Z b_eql<|Zc U (fun g1=>?_) (fun g1=>?_)
   ·have e1:l[i]=n:=by simpa using g1
    refine Xo W W<|Xw func166<|hret _ _ _ _ (RO.le_refl _) ⟨?_,rfl,rfl⟩ Vs
    rw [List.contains_iff_mem.2 (e1▸List.getElem_mem hi')];rfl
   ·have e1:l[i]≠n:=by simpa using g1
    refine Xz<|Xi<|Xg W<|Ro W<|Rb Y<|Ae W<|X.weaken ?_ (hnext (i+1) ⟨hi', ?_⟩ O)
    ·exact⟨rfl,rfl,by simp [look],trivial⟩
    ·show n∉l.take (i+1)
     rw [List.take_succ_eq_append_getElem hi',List.mem_append,List.mem_singleton]
     exact fun h=>h.elim hinv (fun e=>e1 e.symm)
 ·obtain rfl:i=l.length:=by omega
  rw [List.take_length] at hinv
  refine Xe U<|Xo W W<|Xw func166<|hret _ _ _ _ (RO.le_refl _) ⟨?_,rfl,rfl⟩ Vs
  have:l.contains n=false:=by rw [Bool.eq_false_iff,Ne,List.contains_iff_mem];exact hinv
  rw [this];rfl
theorem canLiftB_c{b:Bk}{vd:Value}{ro:RO}(hv:BkV ro v b)(hs:b.short){d:List Int}(hd:Buf 3 1 [] vd (d.flatMap ic) pre)(hdn:d.length≤1000)(k:Int):
  CallV prog J (fnv 250) [v,vd, .int .i64 k] ro pre (fun w ro' pre'=>w= .bool (b.free d k)∧ro'=ro∧pre'=pre):=by
 obtain⟨vp,vo,vh,rfl,hp,ho,hh,hcp,hco⟩:=hv
 obtain⟨pb,pc,rfl⟩:=hp.form
 have hsl:=hs.ps
 have hfree:k∉d→b.free d k= !(b.above k).any fun n=> !decide (n∈d):=fun h=>by simp [Bk.free,h]
 refine CallV.intro (first:= []) (vs:= [_,_,_]) (cap:= []) hJ Kr fun c cs tail hret=>enter_X (n:=32) func250 U U (Nl U) ?_
 have C:Ctx prog main J (bf 250 .normal):=⟨hJ,by decide⟩
 refine Xu W<|Bx Z fun p3=>Ae W<|Xx W<|Oo W W<|R.perm C.1 List.perm_middle.symm<|R.call C U U U U (pre:=pre) (tail:=_::tail) U (holdsB_c hJ k hd O ro) fun w2 ro2 pre2 hl2 hp2=>?_
 obtain⟨rfl,hro2,hpr2⟩:=hp2
 rw [hro2,hpr2]
 refine R.perm C.1 List.perm_middle<|Zc U (fun h1=>?_) (fun h1=>?_)
 ·have h1:k∈d:=by simpa using h1
  refine Xo W W<|Xw func250<|hret _ _ _ _ (RO.le_refl _) ⟨?_,rfl,rfl⟩ (by exact List.sublist_cons_self _ _)
  simp [Bk.free,h1,retVal]
 ·have h1:k∉d:=by simpa using h1
  refine Xz<|Xx W<|Ae W<|Xb<|X.loopI (ι:=Nat) C.1 (fun i=>i≤b.ps.length∧((b.aboveTo k i).any fun n=> !decide (n∈d))=false)
   (fun i=> [(1,vd),(2, .int .i64 k),(7, .int .i64 (i:Int)),(3, .pointer (some ⟨p3,0,none⟩))])
   (fun _=>⟨ro,(p3, .cells [.int .i64 b.lim, .int .i64 b.bal.lo, .int .i64 b.bal.hi, .slice pb b.ps.length pc,vo,vh].toArray 66 (0,0))::(pre++tail)⟩) (fun i=>b.ps.length-i) 0 ⟨Nat.zero_le _,rfl⟩ rfl ⟨U,U,U,U,trivial⟩ fun i hi hnext=>?_
  obtain⟨hi,hr⟩:=hi
  refine Xx W<|Ro W<|Rv 3 W A66 U B63<|Rj W G63 V U<|Rt W A63<|Ri Z b_lss<|Zj U (fun hlt=>?_) (fun hlt=>?_)
  ·have hi':i<b.ps.length:=O
   obtain⟨p,off,cap,l,t,fq,hsl',hrop,hsub⟩:=hp.at O
   cases hsl'
   obtain⟨qb,qc,hld,hqc,hq⟩:=hsub i hi'
   have hnm:=hsl.2 _ (List.getElem_mem hi')
   have hsu:=above_succ b k i
   have eg:b.ps.getD i default=b.ps[i]:=by simp [List.getD_eq_getElem?_getD,hi']
   have hmemA:k∈(b.ps[i]).on→(i:Int)∈b.above k:=fun h=>by
    rw [←above_all]
    unfold Bk.aboveTo
    exact List.mem_map.2 ⟨i,List.mem_filter.2 ⟨List.mem_range.2 hi',by rw [eg];simpa using h⟩,rfl⟩
   rw [eg] at hsu
   generalize b.ps[i]=q at hld hqc hq hnm hsu hmemA
   have hon:l[off+i*5+4]? =some (.slice qb q.on.length qc):=hld.get 4 Dd
   refine Xz<|Xv<|Xb<|Xm W W<|Ro W<|R.perm C.1 List.perm_middle.symm<|R.call C U U U U (pre:=pre) (tail:=_::tail) U (holdsB_c hJ (i:Int) hd O ro) fun w3 ro3 pre3 hl3 hp3=>?_
   obtain⟨rfl,hro3,hpr3⟩:=hp3
   rw [hro3,hpr3]
   refine R.perm C.1 List.perm_middle ?_
   by_cases hd1:(i:Int)∈d
   ·have hnx:((b.aboveTo k (i+1)).any fun n=> !decide (n∈d))=false:=by
     rw [hsu,List.any_append,hr]
     split<;>simp [hd1]
    refine Rh Y<|FF 21 U (by(exact congrArg Value.bool (by simp [hd1])))<|Ro W<|Rp W<|Rp W<|Rp W<|Rp W<|Rp W<|Rp W<|Rp W<|Rp W<|Pf Z<|Zc U (fun h=>nomatch h) (fun _=>?_)
    refine Xz<|Xi<|Xg W<|Ro W<|Rb Y<|Ae W<|X.weaken ?_ (hnext (i+1) ⟨hi',hnx⟩ O)
    exact⟨rfl,rfl,by simp [look],rfl,trivial⟩
   ·have _:=hd1
    refine Rh Y<|FT 21 U (by(exact congrArg Value.bool (by simp [hd1])))<|Ro W<|Rv 3 W A66 U B63<|Rj W G63 V U<|Ro W<|Ry Y A63 B174<|R.fieldAddr C U U U A174 U B58 U<|Lo Y G58 hrop hon<|Ro W<|Cp Z (holdsR_c hJ hq O k)<|Pp Z<|Zc U (fun h3=>?_) (fun h3=>?_)
    ·have h3:k∈q.on:=by simpa using h3
     have ha:((b.above k).any fun n=> !decide (n∈d))=true:=List.any_eq_true.2 ⟨(i:Int),hmemA h3,by simp [hd1]⟩
     refine Xo W W<|Xw func250<|hret _ _ _ _ (RO.le_refl _) ⟨?_,rfl,rfl⟩ (by exact List.sublist_cons_self _ _)
     rw [hfree h1,ha];rfl
    ·have h3:¬k∈q.on:=by simpa using h3
     rw [if_neg h3,List.append_nil] at hsu
     refine Xz<|Xi<|Xg W<|Ro W<|Rb Y<|Ae W<|X.weaken ?_ (hnext (i+1) ⟨hi',by rw [hsu];exact hr⟩ O)
     exact⟨rfl,rfl,by simp [look],rfl,trivial⟩
  ·obtain rfl:i=b.ps.length:=by omega
   rw [above_all] at hr
   refine Xe U<|Xo W W<|Xw func250<|hret _ _ _ _ (RO.le_refl _) ⟨?_,rfl,rfl⟩ (by exact List.sublist_cons_self _ _)
   rw [hfree h1,hr];rfl
end Go.Lg.H
namespace Go.Lg.H
open Go Go.Conc Go.Lg Go.Proofs Go.Lg.B Go.Proofs.Tryz
variable {main:Bool}{J:Goroutine→Mem→Prop}(hJ:Closed prog main J)
include hJ
theorem liftedR_c{b:Bk}{v vl:Value}{ro:RO}(hv:BkV ro v b)(hs:b.short){l:List Int}(hl:LsI ro vl l)(hn:l.length≤1000):CallP prog J (fnv 178) [v, .slice none 0 0,vl] ro (.int .i64 (b.liftGo [] l).2):=by
 have hv0:=hv
 obtain⟨vp,vo,vh,rfl,hp,ho,hh,hcp,hco⟩:=hv
 obtain⟨lb,lc,rfl⟩:=hl.form
 have hnil:LsI ro (.slice none 0 0) []:= .nil
 refine EP 46 hJ func178 W fun c cs tail hret C=>Xu W<|Bx Z fun p3=>Ae W<|Xu W<|R.buildSlice C (vs:=_) U U (show pvals _ _=some (numbered 0 []) from rfl) U A58 B3 K3 Dd (.nil) fun p9=>Ro W<|R.append (kk:=1) C U U U U A58 A58 (fun _=>nofun) (show prog.info? 3=some Tryz.t3 by kernel_rfl) U U U Dd Dd (Buf.blk (cells:= []) (spare:= []) (len:=0) (cap:=0) U U (Nat.le_refl _)) (hnil.rd ic_len) U Zi fun v' own' hb'=>Ae W<|Xx W<|Ae W<|Xb ?_
 obtain⟨own0,rfl,hb0⟩:=Buf.unapp (tail:= []) (H:=_::tail) hb'
 refine X.loopI (ι:=Nat×List Int×Value×List (Nat×Obj)) C.1 (fun s=>s.1≤l.length∧(b.liftGo [] l).2=(b.liftGo s.2.1 (l.drop s.1)).2∧s.2.1.length=s.1∧Buf 3 1 [] s.2.2.1 (s.2.1.flatMap ic) s.2.2.2)
  (fun s=> [(2, .slice lb l.length lc),(7,s.2.2.1),(8, .int .i64 (s.1:Int)),(3, .pointer (some ⟨p3,0,none⟩))])
  (fun s=>⟨ro,s.2.2.2++(p3, .cells [.int .i64 b.lim, .int .i64 b.bal.lo, .int .i64 b.bal.hi,vp,vo,vh].toArray 66 (0,0))::tail⟩) (fun s=>l.length-s.1) (0, [],_,own0) ⟨Nat.zero_le _,rfl,rfl,hb0⟩ rfl ⟨U,U,U,U,trivial⟩ fun s hi hnext=>?_
 obtain⟨i,e,v0,pre⟩:=s
 obtain⟨hi,hr,hel,hb⟩:=hi
 simp only at hi hr hel hb hnext⊢
 refine Xx W<|Oo W W<|Rt W A58<|Ri Z b_lss<|Zj U (fun hlt=>?_) (fun hlt=>?_)
 ·have hi':i<l.length:=O
  obtain⟨pp,off,cap,ll,t,fq,hsl,hrop,hsub⟩:=hl.at ic_len O
  cases hsl
  have hx:=ic_at hsub hi'
  have hfc:=flat_len e
  rw [List.drop_eq_getElem_cons hi'] at hr
  generalize l[i]=n at hr hx
  simp only [Bk.liftGo] at hr
  refine Xz<|Xv<|Xb<|Xv<|Xv<|Xf fun hok=>Dl 0 hok (fun _ _ A h=>R.loadAgg C U (A.w U U) (A.x U U) G66 B66 Vm Tk6 h)<|Dt 1 Y<|Dt 2 Y<|Dw 3 Y A58 B3<|Dc 4 W G3 hrop hx<|De 5 (some 23) [false,false] hok (fun _ _ A hk=>?_)
  refine R.callP C U (A.w U U) (A.x U U) (A.s U U) (isPieceR_c hJ hv0 hs.ps.1 n) (hk _ _ ⟨QFs.nil, ?_⟩)
  refine Dp 6 hok (fun _ _ _ A h=>R.not C U (A.w U U) (A.x U U) h)<|Dn<|Xc U (fun h1=>?_) (fun h1=>?_)
  ·have h1:b.isPiece n=false:=by simpa using h1
   rw [h1] at hr
   refine Xo W W<|Xw func178<|hret _ _ ?_ (by repeat (first|exact List.Sublist.refl _|apply List.Sublist.cons|apply List.sublist_append_of_sublist_right))
   rw [hr];rfl
  ·have h1:b.isPiece n=true:=by simpa using h1
   rw [h1] at hr
   simp only [Bool.not_true,Bool.false_eq_true,if_false] at hr
   refine Xz<|Xx W<|Oo W W<|Ro W<|Ry Y A58 B3<|Lo Y G3 hrop hx<|R.call C U U U U (pre:=pre) (tail:=_::tail) U (holdsB_c hJ n hb O ro) fun w2 ro2 pre2 hl2 hp2=>?_
   obtain⟨rfl,hro2,hpr2⟩:=hp2
   rw [hro2,hpr2]
   refine Zc U (fun h2=>?_) (fun h2=>?_)
   ·have h2:n∈e:=by simpa using h2
    rw [if_pos h2] at hr
    refine Xo W W<|Xw func178<|hret _ _ ?_ (by repeat (first|exact List.Sublist.refl _|apply List.Sublist.cons|apply List.sublist_append_of_sublist_right))
    rw [hr];rfl
   ·have h2:¬n∈e:=by simpa using h2
    rw [if_neg h2] at hr
    refine Xz<|Xv<|Xv<|Xf fun hok=>Dl 0 hok (fun _ _ A h=>R.loadAgg C U (A.w U U) (A.x U U) G66 B66 Vm Tk6 h)<|Dt 1 Y<|Dt 2 Y<|Dt 3 Y<|Dw 4 Y A58 B3<|Dc 5 W G3 hrop hx<|De 6 (some 37) [false,false] hok (fun _ _ A hk=>?_)
    refine R.call C U (A.w U U) (A.x U U) (A.s U U) (pre:=pre) (tail:=_::tail) U (canLiftB_c hJ hv0 hs hb O n) fun w3 ro3 pre3 hl3 hp3=>hk _ _ ⟨QFs.nil, ?_⟩
    obtain⟨rfl,hro3,hpr3⟩:=hp3
    rw [hro3,hpr3]
    refine Dp 7 hok (fun _ _ _ A h=>R.not C U (A.w U U) (A.x U U) h)<|Dn<|Xc U (fun h3=>?_) (fun h3=>?_)
    ·have h3:b.free e n=false:=by simpa using h3
     rw [h3] at hr
     refine Xo W W<|Xw func178<|hret _ _ ?_ (by repeat (first|exact List.Sublist.refl _|apply List.Sublist.cons|apply List.sublist_append_of_sublist_right))
     rw [hr];rfl
    ·have h3:b.free e n=true:=by simpa using h3
     rw [h3] at hr
     simp only [Bool.not_true,Bool.false_eq_true,if_false] at hr
     refine Xz<|Xg W<|Oo W W<|Ro W<|Ry Y A58 B3<|Lo Y G3 hrop hx<|R.buildSlice C (vs:=_) U U (show pvals _ _=some (numbered 0 [_]) from rfl) U A58 B3 K3 Dd (Cat.one U U) fun p44=>R.append1 (kk:=1) C U U U U A58 A58 (fun _=>nofun) (show prog.info? 3=some Tryz.t3 by kernel_rfl) U U U Dd Dd (hb.app _) U U (by simp only [List.length_append,List.length_cons,List.length_nil];omega) fun v' own' hb'=>Ae W<|Xi<|Xg W<|Ro W<|Rb Y<|Ae W ?_
     obtain⟨pre4,rfl,hb4⟩:=hb'.unapp (H:=_::tail)
     refine X.weaken ?_ (hnext (i+1,e++ [n],v',pre4) ⟨hi',hr,by simp [hel], ?_⟩ (by simp only;omega))
     ·exact⟨rfl,rfl,by simp [look],rfl,trivial⟩
     ·rw [List.flatMap_append];exact hb4
 ·obtain rfl:i=l.length:=by omega
  simp only [List.drop_length,Bk.liftGo] at hr
  refine Xe U<|Xo W W<|Xw func178<|hret _ _ ?_ (by repeat (first|exact List.Sublist.refl _|apply List.Sublist.cons|apply List.sublist_append_of_sublist_right))
  rw [hr];rfl
end Go.Lg.H
namespace Go.Lg.H
open Go Go.Conc Go.Lg Go.Proofs Go.Lg.B Go.Proofs.Tryz
theorem isReach_two(x:Rc)(l m k:Int):isReach x l m k=(B.isReach x l m && decide (x.hi-x.lo<k)):=rfl
variable {main:Bool}{J:Goroutine→Mem→Prop}(hJ:Closed prog main J)
include hJ
theorem checkPiecesR_c{b:Bk}{v:Value}{ro:RO}(hv:BkV ro v b)(hs:b.short):CallP prog J (fnv 177) [v] ro (.int .i64 b.piecesH):=by
 obtain⟨vp,vo,vh,rfl,hp,ho,hh,hcp,hco⟩:=hv
 obtain⟨pb,pc,rfl⟩:=hp.form
 have hsl:=hs.ps
 refine EP 69 hJ F177 W fun c cs tail hret C=>Xu W<|Bx Z fun p1=>Ae W<|Xx W<|Rv 3 W A66 U B63<|Rj W G63 V U<|Rt W A63<|Cp Z (betweenR_c hJ _ _ _ _)<|Rh Y<|Zc U (fun hn=>?_) (fun hn=>?_)
 ·have hn:between (b.ps.length:Int) 1 5=false:=by simpa using hn
  refine Xu W<|Hq W F177 hret ?_
  rw [Bk.piecesH,if_pos (by simp [hn])];rfl
 ·have hn:between (b.ps.length:Int) 1 5=true:=by simpa using hn
  rw [Bk.piecesH,if_neg (by simp [hn])] at hret
  refine Xz<|Xx W<|Ae W<|Xb<|X.loopI (ι:=Nat) C.1 (fun i=>i≤b.ps.length∧piecesGo [] b.ps=piecesGo ((b.ps.take i).map Pc.nm) (b.ps.drop i))
   (fun i=> [(3, .int .i64 (i:Int)),(1, .pointer (some ⟨p1,0,none⟩))])
   (fun _=>⟨ro,(p1, .cells [.int .i64 b.lim, .int .i64 b.bal.lo, .int .i64 b.bal.hi, .slice pb b.ps.length pc,vo,vh].toArray 66 (0,0))::tail⟩) (fun i=>b.ps.length-i) 0 ⟨Nat.zero_le _,by simp⟩ rfl ⟨U,U,trivial⟩ fun i hi hnext=>?_
  obtain⟨hi,hr⟩:=hi
  refine Xx W<|Ro W<|Rv 3 W A66 U B63<|Rj W G63 V U<|Rt W A63<|Ri Z b_lss<|Zj U (fun hlt=>?_) (fun hlt=>?_)
  ·have hi':i<b.ps.length:=O
   obtain⟨p,off,cap,l,t,fq,hsl',hrop,hsub⟩:=hp.at O
   cases hsl'
   have hnames:∀j (hj:j<b.ps.length),l[off+j*5]? =some (strV b.ps[j].nm):=fun j hj=>by
    obtain⟨_,_,hld,_,_⟩:=hsub j hj
    simpa using hld.get 0 Dd
   obtain⟨qb,qc,hld,hqc,hq⟩:=hsub i hi'
   have hnm:=hsl.2 _ (List.getElem_mem hi')
   have hmt:=map_take (f:=Pc.nm) hi'
   have hbl:((b.ps.take i).map Pc.nm).length=i:=by simp;omega
   rw [List.drop_eq_getElem_cons hi'] at hr
   generalize b.ps[i]=q at hr hld hqc hq hnm hmt
   simp only [piecesGo,hbl] at hr
   refine Xz<|Xv<|Xb<|Xu W<|Rv 3 W A66 U B63<|Rj W G63 V U<|Ro W<|Ry Y A63 B174<|La Y G174 B174 hrop hld<|Al W K174 U fun p4=>Rs Z B174 Y V Ph5<|Rz<|Xx W<|Rv 0 W A174 U B9<|Rj W G9 V U<|Cp Z (isLabelR_c hJ q.nm O ro)<|Rh Y<|Zc U (fun h1=>?_) (fun h1=>?_)
   ·have h1:isLabel q.nm=false:=by simpa using h1
    refine Xu W<|Hq W F177 hret ?_
    rw [h1] at hr
    rw [hr];rfl
   ·have h1:isLabel q.nm=true:=by simpa using h1
    rw [h1] at hr
    simp only [Bool.not_true,Bool.false_eq_true,if_false] at hr
    refine Xz<|Xx W<|Ae W<|Xb<|X.loopI (ι:=Nat) C.1 (fun j=>j≤i∧q.nm∉ (b.ps.take j).map Pc.nm)
     (fun j=> [(5, .int .i64 (j:Int)),(3, .int .i64 (i:Int)),(1, .pointer (some ⟨p1,0,none⟩)),(4, .pointer (some ⟨p4,0,none⟩))])
     (fun _=>⟨ro,(p4, .cells [strV q.nm, .int .i64 q.arm, .int .i64 q.r.lo, .int .i64 q.r.hi, .slice qb q.on.length qc].toArray 174 (0,0))::(p1, .cells [.int .i64 b.lim, .int .i64 b.bal.lo, .int .i64 b.bal.hi, .slice (some ⟨p,off,none⟩) b.ps.length pc,vo,vh].toArray 66 (0,0))::tail⟩) (fun j=>i-j) 0 ⟨Nat.zero_le _,by simp⟩ rfl ⟨U,U,U,U,trivial⟩ fun j hj hnext2=>?_
    obtain⟨hj,hno⟩:=hj
    refine Xx W<|Oo W W<|Ri Z b_lss<|Zj U (fun hlt2=>?_) (fun hlt2=>?_)
    ·have hj':j<b.ps.length:=O
     have hnj:=hnames j hj'
     have htj:=map_take (f:=Pc.nm) hj'
     have hmj:(b.ps[j]).nm∈(b.ps.take i).map Pc.nm:=List.mem_map.2 ⟨b.ps[j],by rw [List.mem_take_iff_getElem];exact⟨j,O,rfl⟩,rfl⟩
     generalize b.ps[j]=y at hnj htj hmj
     refine Xz<|Xv<|Xb<|Xv<|Xf fun hok=>Dh 3 0 Y A66 U B63<|Db 1 W G63 V U<|Dt 2 Y<|Dw 3 Y A63 B174<|Df C 4 hok U U U A174 U B9 U<|Dc 5 W G9 hrop hnj<|Dh 0 6 Y A174 U B9<|Db 7 W G9 V U<|Dp 8 hok (fun _ _ _ A h=>R.str C U (A.w U U) (A.x U U) (A.x U U) b_seql h)<|Dn<|Xc U (fun g1=>?_) (fun g1=>?_)
     ·have g1:y.nm=q.nm:=by simpa using g1
      rw [if_pos (by rw [←g1];exact hmj)] at hr
      refine Xu W<|Hq W F177 hret ?_
      rw [hr];rfl
     ·have g1:y.nm≠q.nm:=by simpa using g1
      refine Xz<|Xi<|Xg W<|Ro W<|Rb Y<|Ae W<|X.weaken ?_ (hnext2 (j+1) ⟨O, ?_⟩ O)
      ·exact⟨by simp [look],rfl,rfl,rfl,trivial⟩
      ·rw [htj,List.mem_append,List.mem_singleton]
       exact fun h=>h.elim hno (fun e=>g1 e.symm)
    ·obtain rfl:j=i:=by omega
     rw [if_neg hno,isReach_two] at hr
     by_cases h3:between q.arm (-9) 9=true
     ·by_cases h4:B.isReach q.r 1 99=true
      ·have hbd:1≤q.r.lo∧q.r.lo≤q.r.hi∧q.r.hi≤99:=by simpa [B.isReach,and_assoc] using h4
       by_cases h5:q.r.hi-q.r.lo<3
       ·have e5:decide (q.r.hi-q.r.lo<3)=true:=decide_eq_true h5
        rw [h3,h4,e5] at hr
        simp only [Bool.and_self,Bool.not_true,Bool.or_self,Bool.false_eq_true,if_false] at hr
        refine Xe U<|Xx W<|Rv 1 W A174 U B3<|Rj W G3 V U<|Cp Z (betweenR_c hJ _ _ _ _)<|Rh Y<|FF 45 U (by(rw [h3];rfl))<|Ro W<|Rv 2 W A174 U B45<|Rq W G45 B45 V (.skip (.skip Tk2))<|Cp Z (insideR_c hJ q.r _ _ _)<|Rh Y<|FF 50 U (by(rw [h4];rfl))<|Pf Z<|Ro W<|Rv 2 W A174 U B45<|Rv 3 W A45 U B3<|Rj W G3 V U<|Rv 2 W A174 U B45<|Rv 2 W A45 U B3<|Rj W G3 V U<|Ri Z (b_sub O O)<|Ri Z b_geq<|FF 60 U (by(exact congrArg Value.bool Zo))<|Pf Z<|Zc U (fun h=>nomatch h) (fun _=>?_)
        refine Xz<|Xu W<|Rv 4 W A174 U B58<|Rj W G58 V U<|Ro W<|Cp Z (climbsR_c hJ hq O O)<|Ae W<|Xm W W<|Ri Z b_neq<|Zc U (fun h6=>?_) (fun h6=>?_)
        ·have h6:climbsH (j:Int) none q.on≠0:=by simpa using h6
         rw [if_pos h6] at hr
         refine Xm W W<|Hq W F177 hret ?_
         rw [hr];rfl
        ·have h6:climbsH (j:Int) none q.on=0:=by simpa using h6
         rw [if_neg (fun e=>e h6), ←hmt] at hr
         refine Xz<|Xi<|Xg W<|Ro W<|Rb Y<|Ae W<|X.drop C.1 (own':=_::tail) (List.sublist_cons_self _ _)<|X.weaken ?_ (hnext (j+1) ⟨hi',hr⟩ O)
         exact⟨by simp [look],rfl,trivial⟩
       ·have e5:decide (q.r.hi-q.r.lo<3)=false:=decide_eq_false h5
        rw [h3,h4,e5,if_pos (by rfl)] at hr
        refine Xe U<|Xx W<|Rv 1 W A174 U B3<|Rj W G3 V U<|Cp Z (betweenR_c hJ _ _ _ _)<|Rh Y<|FF 45 U (by(rw [h3];rfl))<|Ro W<|Rv 2 W A174 U B45<|Rq W G45 B45 V (.skip (.skip Tk2))<|Cp Z (insideR_c hJ q.r _ _ _)<|Rh Y<|FF 50 U (by(rw [h4];rfl))<|Pf Z<|Ro W<|Rv 2 W A174 U B45<|Rv 3 W A45 U B3<|Rj W G3 V U<|Rv 2 W A174 U B45<|Rv 2 W A45 U B3<|Rj W G3 V U<|Ri Z (b_sub O O)<|Ri Z b_geq<|FT 60 U (by(exact congrArg Value.bool Zo))<|Pf Z<|Zc U (fun _=>?_) (fun h=>nomatch h)
        refine Xu W<|Hq W F177 hret ?_
        rw [hr];rfl
      ·have h4:B.isReach q.r 1 99=false:=by simpa using h4
       rw [h3,h4,if_pos (by rfl)] at hr
       refine Xe U<|Xx W<|Rv 1 W A174 U B3<|Rj W G3 V U<|Cp Z (betweenR_c hJ _ _ _ _)<|Rh Y<|FF 45 U (by(rw [h3];rfl))<|Ro W<|Rv 2 W A174 U B45<|Rq W G45 B45 V (.skip (.skip Tk2))<|Cp Z (insideR_c hJ q.r _ _ _)<|Rh Y<|FT 50 U (by(rw [h4];rfl))<|Pf Z<|Ro W<|Rp W<|Rp W<|Rp W<|Rp W<|Rp W<|Rp W<|Rp W<|Rp W<|Pp Z<|Zc U (fun _=>?_) (fun h=>nomatch h)
       refine Xu W<|Hq W F177 hret ?_
       rw [hr];rfl
     ·have h3:between q.arm (-9) 9=false:=by simpa using h3
      rw [h3,if_pos (by rfl)] at hr
      refine Xe U<|Xx W<|Rv 1 W A174 U B3<|Rj W G3 V U<|Cp Z (betweenR_c hJ _ _ _ _)<|Rh Y<|FT 45 U (by(rw [h3];rfl))<|Ro W<|Rp W<|Rp W<|Rp W<|Rp W<|Pp Z<|Ro W<|Rp W<|Rp W<|Rp W<|Rp W<|Rp W<|Rp W<|Rp W<|Rp W<|Pp Z<|Zc U (fun _=>?_) (fun h=>nomatch h)
      refine Xu W<|Hq W F177 hret ?_
      rw [hr];rfl
  ·obtain rfl:i=b.ps.length:=by omega
   simp only [List.drop_length,piecesGo] at hr
   refine Xe U<|Xu W<|Hq W F177 hret ?_
   rw [hr];rfl
end Go.Lg.H
namespace Go.Lg.H
open Go Go.Conc Go.Lg Go.Proofs Go.Lg.B Go.Proofs.Tryz
theorem side_btw(s:Int):between s 0 2=(s==0||s==1||s==2):=by
 rw [Bool.eq_iff_iff,between_iff]
 simp only [Bool.or_eq_true,beq_iff_eq]
 omega
variable {main:Bool}{J:Goroutine→Mem→Prop}(hJ:Closed prog main J)
include hJ
theorem checkBookR_c{b:Bk}{v:Value}{ro:RO}(hv:BkV ro v b)(hs:b.short):CallP prog J (fnv 88) [v] ro (.int .i64 (checkBook b)):=by
 have hv0:=hv
 obtain⟨vp,vo,vh,rfl,hp,ho,hh,hcp,hco⟩:=hv
 have ho0:=ho
 obtain⟨ob,oc,rfl⟩:=ho.form
 obtain⟨eb,ec,rfl⟩:=hh.form
 have hso:=hs.out
 have hsh:=hs.hs
 have hbal:CallP prog J (fnv 14) [.agg [.int .i64 b.bal.lo, .int .i64 b.bal.hi].toArray, .int .i64 (-999), .int .i64 999] ro (.bool (B.isReach b.bal (-999) 999)):=insideR_c hJ b.bal _ _ _
 by_cases h0:b.hullH=0
 ·have h0':between b.lim 0 9999=true∧B.isReach b.bal (-999) 999=true∧b.bal.hi-b.bal.lo<3:=by
   unfold Bk.hullH at h0
   split at h0
   ·cases h0
   ·rename_i h
    simp only [Bool.or_eq_true,Bool.not_eq_true',not_or,Bool.not_eq_false,isReach_two,Bool.and_eq_true,decide_eq_true_eq] at h
    exact⟨h.1,h.2.1,h.2.2⟩
  obtain⟨g1,g2,g3⟩:=h0'
  have hbd: -999≤b.bal.lo∧b.bal.lo≤b.bal.hi∧b.bal.hi≤999:=by simpa [B.isReach,and_assoc] using g2
  have e0:checkBook b=if b.piecesH≠0 then b.piecesH else if b.outH≠0 then b.outH else b.heelsH:=by rw [checkBook,if_neg (fun e=>e h0)]
  rw [e0]
  refine EP 68 hJ F88 W fun c cs tail hret C=>Xu W<|Bx Z fun p1=>Ae W<|Xx W<|Rv 0 W A66 U B3<|Rj W G3 V U<|Cp Z (betweenR_c hJ _ _ _ _)<|Rh Y<|FF 9 U (by(rw [g1];rfl))<|Ro W<|Rv 1 W A66 U B45<|Rq W G45 B45 V (.skip Tk2)<|Cp Z (hbal)<|Rh Y<|FF 14 U (by(rw [g2];rfl))<|Pf Z<|Ro W<|Rv 1 W A66 U B45<|Rv 2 W A45 U B3<|Rj W G3 V U<|Rv 1 W A66 U B45<|Rv 1 W A45 U B3<|Rj W G3 V U<|Ri Z (b_sub O O)<|Ri Z b_geq<|FF 24 U (by(exact congrArg Value.bool Zo))<|Pf Z<|Zc U (fun h=>nomatch h) (fun _=>?_)
  refine Xz<|Xx W<|Rq W G66 B66 V Tk6<|Cp Z (checkPiecesR_c hJ hv0 hs)<|Ae W<|Xm W W<|Ri Z b_neq<|Zc U (fun h1=>?_) (fun h1=>?_)
  ·have h1:b.piecesH≠0:=by simpa using h1
   refine Xm W W<|Hq W F88 hret ?_
   rw [if_pos h1];rfl
  ·have h1:b.piecesH=0:=by simpa using h1
   rw [if_neg (fun e=>e h1)] at hret
   refine Xz<|Xx W<|Rq W G66 B66 V Tk6<|Rv 4 W A66 U B58<|Rj W G58 V U<|Cp Z (liftedR_c hJ hv0 hs ho0 O)<|Ae W<|Xm W W<|Ri Z b_neq<|Zc U (fun h2=>?_) (fun h2=>?_)
   ·have h2:b.outH≠0:=by simpa [Bk.outH] using h2
    refine Xm W W<|Hq W F88 hret ?_
    rw [if_pos h2];rfl
   ·have h2:b.outH=0:=by simpa [Bk.outH] using h2
    rw [if_neg (fun e=>e h2)] at hret
    refine Xz<|Xx W<|Rv 5 W A66 U B64<|Rj W G64 V U<|Rt W A64<|Ri Z b_gtr<|Zc U (fun hn=>?_) (fun hn=>?_)
    ·refine Xu W<|Hq W F88 hret ?_
     simp only [dT] at hn
     rw [Bk.heelsH,if_pos O];rfl
    ·simp only [dF] at hn
     have hH:b.heelsH=heelsGo b.out.length b.hs:=by rw [Bk.heelsH,if_neg O]
     rw [hH] at hret
     refine Xz<|Xx W<|Ae W<|Xb<|X.loopI (ι:=Nat) C.1 (fun i=>i≤b.hs.length∧heelsGo b.out.length b.hs=heelsGo b.out.length (b.hs.drop i))
      (fun i=> [(5, .int .i64 (i:Int)),(1, .pointer (some ⟨p1,0,none⟩))])
      (fun i=>⟨ro,(p1, .cells [.int .i64 b.lim, .int .i64 b.bal.lo, .int .i64 b.bal.hi,vp, .slice ob b.out.length oc, .slice eb b.hs.length ec].toArray 66 (0,0))::tail⟩) (fun i=>b.hs.length-i) 0 ⟨Nat.zero_le _,by simp⟩ rfl ⟨U,U,trivial⟩ fun i hi hnext=>?_
     obtain⟨hi,hr⟩:=hi
     refine Xx W<|Ro W<|Rv 5 W A66 U B64<|Rj W G64 V U<|Rt W A64<|Ri Z b_lss<|Zj U (fun hlt=>?_) (fun hlt=>?_)
     ·have hi':i<b.hs.length:=O
      obtain⟨p,off,cap,l,t,fq,hsl',hrop,hsub⟩:=hh.at Hl.len O
      cases hsl'
      rw [List.drop_eq_getElem_cons hi'] at hr
      have hs0:=(hsub i hi').get 0 Dd
      have hs1:=(hsub i hi').get 1 Dd
      generalize b.hs[i]=q at hr hs0 hs1
      have hs0:l[off+i*2]? =some (.int .i64 q.after):=by simpa [Hl.cells] using hs0
      have hs1:l[off+i*2+1]? =some (.int .i64 q.side):=by simpa [Hl.cells] using hs1
      simp only [heelsGo, ←side_btw] at hr
      refine Xz<|Xv<|Xb<|Xv<|Xv<|Xf fun hok=>Dh 5 0 Y A66 U B64<|Db 1 W G64 V U<|Dt 2 Y<|Dw 3 Y A64 B69<|Df C 4 hok U U U A69 U B3 U<|Dc 5 W G3 hrop hs0<|Dh 4 6 Y A66 U B58<|Db 7 W G58 V U<|Ds C 8 hok U U A58<|De 9 (some 58) [false,false,false] hok (fun _ _ A hk=>?_)
      refine R.callP C U (A.w U U) (A.x U U) (A.s U U) (betweenR_c hJ _ _ _ _) (hk _ _ ⟨QFs.nil, ?_⟩)
      refine Dp 10 hok (fun _ _ _ A h=>R.not C U (A.w U U) (A.x U U) h)<|Dn<|Xc U (fun h3=>?_) (fun h3=>?_)
      ·have h3:between q.after 0 b.out.length=false:=by simpa using h3
       rw [h3] at hr
       refine Xu W<|Hq W F88 hret ?_
       rw [hr];rfl
      ·have h3:between q.after 0 b.out.length=true:=by simpa using h3
       rw [h3] at hr
       simp only [Bool.not_true,Bool.false_eq_true,if_false] at hr
       refine Xz<|Xu W<|Rv 5 W A66 U B64<|Rj W G64 V U<|Ro W<|Ry Y A64 B69<|R.fieldAddr C U U U A69 U B67 U<|Lo Y G67 hrop hs1<|Cp Z (betweenR_c hJ _ _ _ _)<|Rh Y<|Zc U (fun h4=>?_) (fun h4=>?_)
       ·have h4:between q.side 0 2=false:=by simpa using h4
        rw [h4] at hr
        refine Xu W<|Hq W F88 hret ?_
        rw [hr];rfl
       ·have h4:between q.side 0 2=true:=by simpa using h4
        rw [h4] at hr
        simp only [Bool.not_true,Bool.false_eq_true,if_false] at hr
        refine Xz<|Xi<|Xg W<|Ro W<|Rb Y<|Ae W<|X.weaken ?_ (hnext (i+1) ⟨hi',hr⟩ O)
        exact⟨by simp [look],rfl,trivial⟩
     ·obtain rfl:i=b.hs.length:=by omega
      simp only [List.drop_length,heelsGo] at hr
      refine Xe U<|Xu W<|Hq W F88 hret ?_
      rw [hr];rfl
 ·have e0:checkBook b=1:=by
   rw [checkBook,if_pos h0]
   unfold Bk.hullH at h0⊢
   split
   ·rfl
   ·rename_i h;rw [if_neg h] at h0;exact absurd rfl h0
  rw [e0]
  by_cases g1:between b.lim 0 9999=true
  ·by_cases g2:B.isReach b.bal (-999) 999=true
   ·have hbd: -999≤b.bal.lo∧b.bal.lo≤b.bal.hi∧b.bal.hi≤999:=by simpa [B.isReach,and_assoc] using g2
    have g3:¬b.bal.hi-b.bal.lo<3:=fun g3=>h0 (by
     unfold Bk.hullH
     rw [isReach_two,g1,g2,decide_eq_true g3];rfl)
    refine EP 68 hJ F88 W fun c cs tail hret C=>Xu W<|Bx Z fun p1=>Ae W<|Xx W<|Rv 0 W A66 U B3<|Rj W G3 V U<|Cp Z (betweenR_c hJ _ _ _ _)<|Rh Y<|FF 9 U (by(rw [g1];rfl))<|Ro W<|Rv 1 W A66 U B45<|Rq W G45 B45 V (.skip Tk2)<|Cp Z (hbal)<|Rh Y<|FF 14 U (by(rw [g2];rfl))<|Pf Z<|Ro W<|Rv 1 W A66 U B45<|Rv 2 W A45 U B3<|Rj W G3 V U<|Rv 1 W A66 U B45<|Rv 1 W A45 U B3<|Rj W G3 V U<|Ri Z (b_sub O O)<|Ri Z b_geq<|FT 24 U (by(exact congrArg Value.bool Zo))<|Pf Z<|Zc U (fun _=>?_) (fun h=>nomatch h)
    refine Xu W<|Hq W F88 hret ?_
    rfl
   ·have g2:B.isReach b.bal (-999) 999=false:=by simpa using g2
    refine EP 68 hJ F88 W fun c cs tail hret C=>Xu W<|Bx Z fun p1=>Ae W<|Xx W<|Rv 0 W A66 U B3<|Rj W G3 V U<|Cp Z (betweenR_c hJ _ _ _ _)<|Rh Y<|FF 9 U (by(rw [g1];rfl))<|Ro W<|Rv 1 W A66 U B45<|Rq W G45 B45 V (.skip Tk2)<|Cp Z (hbal)<|Rh Y<|FT 14 U (by(rw [g2];rfl))<|Pf Z<|Ro W<|Rp W<|Rp W<|Rp W<|Rp W<|Rp W<|Rp W<|Rp W<|Rp W<|Pp Z<|Zc U (fun _=>?_) (fun h=>nomatch h)
    refine Xu W<|Hq W F88 hret ?_
    rfl
  ·have g1:between b.lim 0 9999=false:=by simpa using g1
   refine EP 68 hJ F88 W fun c cs tail hret C=>Xu W<|Bx Z fun p1=>Ae W<|Xx W<|Rv 0 W A66 U B3<|Rj W G3 V U<|Cp Z (betweenR_c hJ _ _ _ _)<|Rh Y<|FT 9 U (by(rw [g1];rfl))<|Ro W<|Rp W<|Rp W<|Rp W<|Rp W<|Pp Z<|Ro W<|Rp W<|Rp W<|Rp W<|Rp W<|Rp W<|Rp W<|Rp W<|Rp W<|Pp Z<|Zc U (fun _=>?_) (fun h=>nomatch h)
   refine Xu W<|Hq W F88 hret ?_
   rfl
end Go.Lg.H
namespace Go.Lg.H
open Go Go.Conc Go.Lg Go.Proofs Go.Lg.B Go.Proofs.Tryz
variable {b:Bk}{v:Value}{ro:RO}
def bigP(p:Pc):Bool:=decide (100<p.nm.length)||decide (20<p.on.length)
def great(b:Bk):Bool:=decide (20<b.ps.length)||decide (20<b.out.length)||decide (20<b.hs.length)||b.ps.any bigP
theorem short_of(h:great b=false):b.short:=by
 simp only [great,Bool.or_eq_false_iff,decide_eq_false_iff_not,List.any_eq_false,bigP,Bool.or_eq_true,decide_eq_true_eq] at h
 obtain⟨⟨⟨h1,h2⟩,h3⟩,h4⟩:=h
 exact⟨⟨O,fun p hp=>by have:=h4 p hp;omega⟩,O,O⟩
variable {main:Bool}{J:Goroutine→Mem→Prop}(hJ:Closed prog main J)
include hJ
theorem greatR_c(hv:BkV ro v b):CallP prog J (fnv 87) [v] ro (.bool (great b)):=by
 obtain⟨vp,vo,vh,rfl,hp,ho,hh,hcp,hco⟩:=hv
 obtain⟨pb,pc,rfl⟩:=hp.form
 obtain⟨ob,oc,rfl⟩:=ho.form
 obtain⟨eb,ec,rfl⟩:=hh.form
 by_cases a1:20<b.ps.length
 ·have _:=a1
  refine EP 45 hJ F87 W fun c cs tail hret C=>Xu W<|Bx Z fun p1=>Ae W<|Xx W<|Rv 3 W A66 U B63<|Rj W G63 V U<|Rt W A63<|Ri Z b_gtr<|FT 7 U (by(exact congrArg Value.bool Zo))<|Ro W<|Rp W<|Rp W<|Rp W<|Rp W<|Pp Z<|Ro W<|Rp W<|Rp W<|Rp W<|Rp W<|Pp Z<|Zc U (fun _=>?_) (fun h=>nomatch h)
  refine Xu W<|Hq W F87 hret ?_
  simp [great,a1,retVal]
 ·by_cases a2:20<b.out.length
  ·have _:=a1
   refine EP 45 hJ F87 W fun c cs tail hret C=>Xu W<|Bx Z fun p1=>Ae W<|Xx W<|Rv 3 W A66 U B63<|Rj W G63 V U<|Rt W A63<|Ri Z b_gtr<|FF 7 U (by(exact congrArg Value.bool Zo))<|Ro W<|Rv 4 W A66 U B58<|Rj W G58 V U<|Rt W A58<|Ri Z b_gtr<|FT 12 U (by(exact congrArg Value.bool Zo))<|Pf Z<|Ro W<|Rp W<|Rp W<|Rp W<|Rp W<|Pp Z<|Zc U (fun _=>?_) (fun h=>nomatch h)
   refine Xu W<|Hq W F87 hret ?_
   simp [great,a2,retVal]
  ·by_cases a3:20<b.hs.length
   ·have _:=a1
    refine EP 45 hJ F87 W fun c cs tail hret C=>Xu W<|Bx Z fun p1=>Ae W<|Xx W<|Rv 3 W A66 U B63<|Rj W G63 V U<|Rt W A63<|Ri Z b_gtr<|FF 7 U (by(exact congrArg Value.bool Zo))<|Ro W<|Rv 4 W A66 U B58<|Rj W G58 V U<|Rt W A58<|Ri Z b_gtr<|FF 12 U (by(exact congrArg Value.bool Zo))<|Pf Z<|Ro W<|Rv 5 W A66 U B64<|Rj W G64 V U<|Rt W A64<|Ri Z b_gtr<|FT 18 U (by(exact congrArg Value.bool Zo))<|Pf Z<|Zc U (fun _=>?_) (fun h=>nomatch h)
    refine Xu W<|Hq W F87 hret ?_
    simp [great,a3,retVal]
   ·have hg:great b=b.ps.any bigP:=by simp [great,a1,a2,a3]
    rw [hg]
    refine EP 45 hJ F87 W fun c cs tail hret C=>Xu W<|Bx Z fun p1=>Ae W<|Xx W<|Rv 3 W A66 U B63<|Rj W G63 V U<|Rt W A63<|Ri Z b_gtr<|FF 7 U (by(exact congrArg Value.bool Zo))<|Ro W<|Rv 4 W A66 U B58<|Rj W G58 V U<|Rt W A58<|Ri Z b_gtr<|FF 12 U (by(exact congrArg Value.bool Zo))<|Pf Z<|Ro W<|Rv 5 W A66 U B64<|Rj W G64 V U<|Rt W A64<|Ri Z b_gtr<|FF 18 U (by(exact congrArg Value.bool Zo))<|Pf Z<|Zc U (fun h=>nomatch h) (fun _=>?_)
    refine Xz<|Xx W<|Ae W<|Xb<|X.loopI (ι:=Nat) C.1 (fun i=>i≤b.ps.length∧b.ps.any bigP=(b.ps.drop i).any bigP)
     (fun i=> [(3, .int .i64 (i:Int)),(1, .pointer (some ⟨p1,0,none⟩))])
     (fun _=>⟨ro,(p1, .cells [.int .i64 b.lim, .int .i64 b.bal.lo, .int .i64 b.bal.hi, .slice pb b.ps.length pc, .slice ob b.out.length oc, .slice eb b.hs.length ec].toArray 66 (0,0))::tail⟩) (fun i=>b.ps.length-i) 0 ⟨Nat.zero_le _,rfl⟩ rfl ⟨U,U,trivial⟩ fun i hi hnext=>?_
    obtain⟨hi,hr⟩:=hi
    refine Xx W<|Ro W<|Rv 3 W A66 U B63<|Rj W G63 V U<|Rt W A63<|Ri Z b_lss<|Zj U (fun hlt=>?_) (fun hlt=>?_)
    ·have hi':i<b.ps.length:=O
     obtain⟨p,off,cap,l,t,fq,hsl',hrop,hsub⟩:=hp.at O
     cases hsl'
     obtain⟨qb,qc,hld,hqc,hq⟩:=hsub i hi'
     rw [List.drop_eq_getElem_cons hi',List.any_cons] at hr
     generalize b.ps[i]=q at hr hld hqc hq
     have hx0:l[off+i*5]? =some (strV q.nm):=by simpa using hld.get 0 Dd
     have hx4:l[off+i*5+4]? =some (.slice qb q.on.length qc):=hld.get 4 Dd
     by_cases c1:100<q.nm.length
     ·have hb:bigP q=true:=by simp [bigP,c1]
      rw [hb,Bool.true_or] at hr
      refine Xz<|Xv<|Xb<|Xu W<|Rv 3 W A66 U B63<|Rj W G63 V U<|Ro W<|Ry Y A63 B174<|R.fieldAddr C U U U A174 U B9 U<|Lo Y G9 hrop hx0<|R.sLen C U U U A9<|Ri Z b_gtr<|FT 34 U (by(exact congrArg Value.bool Zo))<|Ro W<|Rp W<|Rp W<|Rp W<|Rp W<|Rp W<|Rp W<|Rp W<|Rp W<|Pp Z<|Zc U (fun _=>?_) (fun h=>nomatch h)
      refine Xu W<|Hq W F87 hret ?_
      rw [hr];rfl
     ·by_cases c2:20<q.on.length
      ·have hb:bigP q=true:=by simp [bigP,c2]
       rw [hb,Bool.true_or] at hr
       refine Xz<|Xv<|Xb<|Xu W<|Rv 3 W A66 U B63<|Rj W G63 V U<|Ro W<|Ry Y A63 B174<|R.fieldAddr C U U U A174 U B9 U<|Lo Y G9 hrop hx0<|R.sLen C U U U A9<|Ri Z b_gtr<|FF 34 U (by(exact congrArg Value.bool Zo))<|Ro W<|Rv 3 W A66 U B63<|Rj W G63 V U<|Ro W<|Ry Y A63 B174<|R.fieldAddr C U U U A174 U B58 U<|Lo Y G58 hrop hx4<|Rt W A58<|Ri Z b_gtr<|FT 43 U (by(exact congrArg Value.bool Zo))<|Pf Z<|Zc U (fun _=>?_) (fun h=>nomatch h)
       refine Xu W<|Hq W F87 hret ?_
       rw [hr];rfl
      ·have hb:bigP q=false:=by simp [bigP,c1,c2]
       rw [hb,Bool.false_or] at hr
       refine Xz<|Xv<|Xb<|Xu W<|Rv 3 W A66 U B63<|Rj W G63 V U<|Ro W<|Ry Y A63 B174<|R.fieldAddr C U U U A174 U B9 U<|Lo Y G9 hrop hx0<|R.sLen C U U U A9<|Ri Z b_gtr<|FF 34 U (by(exact congrArg Value.bool Zo))<|Ro W<|Rv 3 W A66 U B63<|Rj W G63 V U<|Ro W<|Ry Y A63 B174<|R.fieldAddr C U U U A174 U B58 U<|Lo Y G58 hrop hx4<|Rt W A58<|Ri Z b_gtr<|FF 43 U (by(exact congrArg Value.bool Zo))<|Pf Z<|Zc U (fun h=>nomatch h) (fun _=>?_)
       refine Xz<|Xi<|Xg W<|Ro W<|Rb Y<|Ae W<|X.weaken ?_ (hnext (i+1) ⟨hi',hr⟩ O)
       exact⟨by simp [look],rfl,trivial⟩
    ·obtain rfl:i=b.ps.length:=by omega
     rw [List.drop_length,List.any_nil] at hr
     refine Xe U<|Xu W<|Hq W F87 hret ?_
     rw [hr];rfl
def fit(b:Bk):Bool:= !great b && (checkBook b==0)
theorem fitR_c(hv:BkV ro v b):CallP prog J (fnv 22) [v] ro (.bool (fit b)):=by
 have hv0:=hv
 obtain⟨vp,vo,vh,rfl,_⟩:=hv
 by_cases hg:great b=true
 ·have _:=hg
  refine EP 11 hJ func22 W fun c cs tail hret C=>Xu W<|Bx Z fun p1=>Ae W<|Xu W<|Rq W G66 B66 V Tk6<|Cp Z (greatR_c hJ hv0)<|Rh Y<|FF 5 U (by(rw [hg];rfl))<|Ro W<|Rp W<|Rp W<|Rp W<|Pf Z<|Hq W func22 hret ?_
  simp [fit,hg,retVal]
 ·have hg:great b=false:=by simpa using hg
  refine EP 11 hJ func22 W fun c cs tail hret C=>Xu W<|Bx Z fun p1=>Ae W<|Xu W<|Rq W G66 B66 V Tk6<|Cp Z (greatR_c hJ hv0)<|Rh Y<|FT 5 U (by(rw [hg];rfl))<|Ro W<|Rq W G66 B66 V Tk6<|Cp Z (checkBookR_c hJ hv0 (short_of hg))<|Ri Z b_eql<|Pp Z<|Hq W func22 hret ?_
  simp [fit,hg,retVal]
end Go.Lg.H
namespace Go.Lg.H
open Go Go.Conc Go.Lg Go.Proofs Go.Lg.B Go.Proofs.Tryz
variable {b:Bk}{v:Value}{ro:RO}
variable {main:Bool}{J:Goroutine→Mem→Prop}(hJ:Closed prog main J)
include hJ
theorem rollsR_c(hv:BkV ro v b)(hb:b.good)(n:Int):∃z:Bool,CallP prog J (fnv 179) [v, .int .i64 n] ro (.bool z):=by
 obtain⟨vp,vo,vh,rfl,hp,ho,hh,hcp,hco⟩:=hv
 have hlim:=hb.lim
 by_cases e:b.lim<n
 ·have _:=e
  refine⟨true, ?_⟩
  refine EP 16 hJ func179 W fun c cs tail hret C=>Xu W<|Bx Z fun p2=>Ae W<|Xm W W<|Rv 0 W A66 U B3<|Rj W G3 V U<|Ri Z b_gtr<|FT 8 U (by(exact congrArg Value.bool Zo))<|Ro W<|Rp W<|Rp W<|Rp W<|Rp W<|Rp W<|Pp Z<|Hq W func179 hret ?_
  rfl
 ·refine⟨decide (n< -b.lim), ?_⟩
  refine EP 16 hJ func179 W fun c cs tail hret C=>Xu W<|Bx Z fun p2=>Ae W<|Xm W W<|Rv 0 W A66 U B3<|Rj W G3 V U<|Ri Z b_gtr<|FF 8 U (by(exact congrArg Value.bool Zo))<|Oo W W<|Rv 0 W A66 U B3<|Rj W G3 V U<|R.neg C U U U O O<|Ri Z b_lss<|Pf Z<|Hq W func179 hret ?_
  rfl
theorem momentR_c(hv:BkV ro v b)(hb:b.good){n0:Int}{wv dv:Value}{ws d:List Int}(hw:LsI ro wv ws)(hwl:ws.length=b.ps.length)(hwb:∀i,0≤ws.getD i 0∧ws.getD i 0≤99)(hn0: -999≤n0∧n0≤999)(hd:LsI ro dv d)(hdn:d.length≤1000):
  CallP prog J (fnv 180) [v, .agg [.int .i64 n0,wv].toArray,dv] ro (.int .i64 (moment b (n0,ws) d)):=by
 obtain⟨vp,vo,vh,rfl,hp,ho,hh,hcp,hco⟩:=hv
 obtain⟨pb,pc,rfl⟩:=hp.form
 obtain⟨wb,wc,rfl⟩:=hw.form
 have hd0:=hd
 obtain⟨db,dc,rfl⟩:=hd.form
 have hnp:=hb.np
 refine EP 37 hJ func180 W fun c cs tail hret C=>Xu W<|Bx Z fun p3=>Bx Z fun p4=>Ae W<|Xu W<|Rv 0 W A176 U B3<|Rj W G3 V U<|Ae W<|Xx W<|Ae W<|Xb<|X.loopI (ι:=Nat×Int) C.1 (fun s=>s.1≤b.ps.length∧moment b (n0,ws) d=momGo d ws s.1 s.2 (b.ps.drop s.1)∧ -999-891*(s.1:Int)≤s.2∧s.2≤999+891*(s.1:Int))
  (fun s=> [(2, .slice db d.length dc),(7, .int .i64 s.2),(8, .int .i64 (s.1:Int)),(3, .pointer (some ⟨p3,0,none⟩)),(4, .pointer (some ⟨p4,0,none⟩))])
  (fun _=>⟨ro,(p4, .cells [.int .i64 n0, .slice wb ws.length wc].toArray 176 (0,0))::(p3, .cells [.int .i64 b.lim, .int .i64 b.bal.lo, .int .i64 b.bal.hi, .slice pb b.ps.length pc,vo,vh].toArray 66 (0,0))::tail⟩) (fun s=>b.ps.length-s.1) (0,n0) ⟨Nat.zero_le _,rfl,by simp only;omega,by simp only;omega⟩ rfl ⟨U,U,U,U,U,trivial⟩ fun s hi hnext=>?_
 obtain⟨i,n⟩:=s
 obtain⟨hi,hr,hn1,hn2⟩:=hi
 simp only at hi hr hn1 hn2 hnext⊢
 refine Xx W<|Ro W<|Rv 3 W A66 U B63<|Rj W G63 V U<|Rt W A63<|Ri Z b_lss<|Zj U (fun hlt=>?_) (fun hlt=>?_)
 ·have hi':i<b.ps.length:=O
  obtain⟨p,off,cap,l,t,fq,hsl',hrop,hsub⟩:=hp.at O
  cases hsl'
  obtain⟨qb,qc,hld,hqc,hq⟩:=hsub i hi'
  have hf:=hb.ps _ (List.getElem_mem hi')
  have hwi:i<ws.length:=O
  obtain⟨p2,off2,cap2,l2,t2,fq2,hsl2,hrop2,hsub2⟩:=hw.at ic_len O
  cases hsl2
  have hx2:=ic_at hsub2 hwi
  have ew:ws[i]=ws.getD i 0:=by simp [List.getD_eq_getElem?_getD,hwi]
  rw [ew] at hx2
  rw [List.drop_eq_getElem_cons hi'] at hr
  generalize b.ps[i]=q at hr hld hqc hq hf
  simp only [momGo] at hr
  have hm:=mul_bd hf.arm (hwb i)
  have hx1:l[off+i*5+1]? =some (.int .i64 q.arm):=hld.get 1 Dd
  by_cases hdi:(i:Int)∈d
  ·rw [if_pos hdi] at hr
   refine Xz<|Xv<|Xb<|Xm W W<|Ro W<|Cp Z (holdsR_c hJ hd0 O (i:Int))<|Rh Y<|FF 21 U (by(exact congrArg Value.bool (by simp [hdi])))<|Zc U (fun h=>nomatch h) (fun _=>?_)
   refine Xz<|Xi<|Xg W<|Ro W<|Rb Y<|Ae W<|X.weaken ?_ (hnext (i+1,n) ⟨hi',hr,by simp only;omega,by simp only;omega⟩ (by simp only;omega))
   exact⟨rfl,rfl,by simp [look],rfl,rfl,trivial⟩
  ·rw [if_neg hdi] at hr
   refine Xz<|Xv<|Xb<|Xm W W<|Ro W<|Cp Z (holdsR_c hJ hd0 O (i:Int))<|Rh Y<|FT 21 U (by(exact congrArg Value.bool (by simp [hdi])))<|Zc U (fun _=>?_) (fun h=>nomatch h)
   refine Xf fun hok=>Dt 0 Y<|Dh 3 1 Y A66 U B63<|Db 2 W G63 V U<|Dt 3 Y<|Dw 4 Y A63 B174<|Df C 5 hok U U U A174 U B3 U<|Dc 6 W G3 hrop hx1<|Dh 1 7 Y A176 U B58<|Db 8 W G58 V U<|Dt 9 Y<|Dw 10 Y A58 B3<|Dc 11 W G3 hrop2 hx2<|Dj 12 Y5 (b_mul O O)<|Dj 13 Y5 (b_add O O)<|Da C 14 hok U U<|Dn<|Xi<|Xg W<|Ro W<|Rb Y<|Ae W<|X.weaken ?_ (hnext (i+1,n+q.arm*ws.getD i 0) ⟨hi',hr,by simp only;omega,by simp only;omega⟩ (by simp only;omega))
   exact⟨rfl,by simp [look],by simp [look],rfl,rfl,trivial⟩
 ·obtain rfl:i=b.ps.length:=by omega
  simp only [List.drop_length,momGo] at hr
  refine Xe U<|Xm W W<|Hq W func180 hret ?_
  rw [hr];rfl
end Go.Lg.H
namespace Go.Lg.H
open Go Go.Conc Go.Lg Go.Proofs Go.Lg.B Go.Proofs.Tryz
variable {b:Bk}
theorem heels_in{m:Int}:∀ {l:List Hl},heelsGo m l=0→∀x∈l,0≤x.after∧x.after≤m
 |y::l,h,x,hx=>by
  simp only [heelsGo] at h
  split at h
  ·cases h
  ·rename_i h1
   split at h
   ·cases h
   ·rcases List.mem_cons.1 hx with rfl|hx
    ·exact between_iff.1 (by simpa using h1)
    ·exact heels_in h x hx
theorem after_in(h:checkBook b=0):∀x∈b.hs,0≤x.after∧x.after≤b.out.length:=by
 obtain⟨_,h⟩:=ite_same h
 obtain⟨_,h⟩:=ite_same h
 obtain⟨_,h4⟩:=ite_same h
 obtain⟨_,h4⟩:=ite_zero Dd h4
 exact heels_in h4
variable {main:Bool}{J:Goroutine→Mem→Prop}(hJ:Closed prog main J)
include hJ
theorem caseR_c{v:Value}{ro:RO}(hv:BkV ro v b)(hs:b.short)(hch:checkBook b=0){n0:Int}{wv:Value}{ws:List Int}(hw:LsI ro wv ws)(hwl:ws.length=b.ps.length)(hwb:∀i,0≤ws.getD i 0∧ws.getD i 0≤99)(hn0: -999≤n0∧n0≤999):
  CallR prog J (fnv 89) [v, .agg [.int .i64 n0,wv].toArray] ro (fun w _=>∃z:Bool,w= .bool z):=by
 have hb:=good_of hch
 have haf:=after_in hch
 have hv0:=hv
 obtain⟨vp,vo,vh,rfl,hp,ho,hh,hcp,hco⟩:=hv
 have hw0:=hw
 obtain⟨wb,wc,rfl⟩:=hw.form
 obtain⟨ob,oc,rfl⟩:=ho.form
 obtain⟨eb,ec,rfl⟩:=hh.form
 obtain⟨_,_,_,ep,hco⟩:=hco
 cases ep
 have hso:=hs.out
 have hsh:=hs.hs
 refine ER 48 hJ func89 W fun c cs tail hret C=>Xu W<|Bx Z fun p2=>Bx Z fun p3=>Ae W<|Xx W<|Ae W<|Xb<|X.loopI (ι:=Nat) C.1 (fun i=>i≤b.out.length+1)
  (fun i=> [(5, .int .i64 (i:Int)),(2, .pointer (some ⟨p2,0,none⟩)),(3, .pointer (some ⟨p3,0,none⟩))])
  (fun _=>⟨ro,(p3, .cells [.int .i64 n0, .slice wb ws.length wc].toArray 176 (0,0))::(p2, .cells [.int .i64 b.lim, .int .i64 b.bal.lo, .int .i64 b.bal.hi,vp, .slice ob b.out.length oc, .slice eb b.hs.length ec].toArray 66 (0,0))::tail⟩) (fun i=>b.out.length+1-i) 0 (Nat.zero_le _) rfl ⟨U,U,U,trivial⟩ fun i hi hnext=>?_
 refine Xx W<|Ro W<|Rv 4 W A66 U B58<|Rj W G58 V U<|Rt W A58<|Ri Z b_leq<|Zc U (fun hlt=>?_) (fun hlt=>?_)
 ·simp only [dT] at hlt
  have hlt2:=lsI_take ho (show((i:Int)).toNat≤b.out.length by omega)
  obtain⟨z,hz⟩:=rollsR_c hJ hv0 hb (moment b (n0,ws) (b.out.take ((i:Int)).toNat))
  refine Xz<|Xv<|Xb<|Xv<|Xf fun hok=>D5 C 0 hok U U G66 B66 V Tk6<|D5 C 1 hok U U G66 B66 V Tk6<|D5 C 2 hok U U isAgg176 B176 V Tk2<|Dh 4 3 Y A66 U B58<|Db 4 W G58 V U<|Dt 5 Y<|Dp 6 hok (fun _ _ _ A h=>R.sliceTo C U (A.w U U) (A.x U U) (A.x U U) A58 B3 O O h)<|De 7 (some 22) [false,false,false,true] hok (fun _ _ A hk=>?_)
  refine R.callP C U (A.w U U) (A.x U U) (A.s U U) (momentR_c hJ hv0 hb hw0 hwl hwb hn0 hlt2 Zo) (hk _ _ ⟨(QFs.cons (QF.of U (fun _ _ A h=>R.loadAgg C U (A.w U U) (A.x U U) G66 B66 V Tk6 h)) QFs.nil), ?_⟩)
  refine De 8 (some 23) [false] hok (fun _ _ A hk=>?_)
  refine R.callP C U (A.w U U) (A.x U U) (A.s U U) (hz) (hk _ _ ⟨QFs.nil, ?_⟩)
  refine Dn<|Xc U (fun hg=>?_) (fun hg=>?_)
  ·refine Xo W W<|Xw func89<|Hr hret (RO.le_refl _) ?_
   exact⟨_,rfl⟩
  ·refine Xz<|Xi<|Xg W<|Ro W<|Rb Y<|Ae W<|X.weaken ?_ (hnext (i+1) O O)
   exact⟨by simp [look],rfl,rfl,trivial⟩
 ·refine Xe U<|Xx W<|Ae W<|Xb<|X.loopI (ι:=Nat) C.1 (fun j=>j≤b.hs.length)
   (fun j=> [(6, .int .i64 (j:Int)),(2, .pointer (some ⟨p2,0,none⟩)),(3, .pointer (some ⟨p3,0,none⟩))])
   (fun _=>⟨ro,(p3, .cells [.int .i64 n0, .slice wb ws.length wc].toArray 176 (0,0))::(p2, .cells [.int .i64 b.lim, .int .i64 b.bal.lo, .int .i64 b.bal.hi,vp, .slice ob b.out.length oc, .slice eb b.hs.length ec].toArray 66 (0,0))::tail⟩) (fun j=>b.hs.length-j) 0 (Nat.zero_le _) rfl ⟨U,U,U,trivial⟩ fun j hj hnext2=>?_
  refine Xx W<|Ro W<|Rv 5 W A66 U B64<|Rj W G64 V U<|Rt W A64<|Ri Z b_lss<|Zc U (fun hlt2=>?_) (fun hlt2=>?_)
  ·simp only [dT] at hlt2
   have hj':j<b.hs.length:=O
   obtain⟨p,off,cap,l,t,fq,hsl',hrop,hsub⟩:=hh.at Hl.len O
   cases hsl'
   have hsi:=hsub j hj'
   have hqa:=haf _ (List.getElem_mem hj')
   generalize b.hs[j]=q at hsi hqa
   have hlt3:=lsI_take ho (show q.after.toNat≤b.out.length by omega)
   refine Xz<|Xv<|Xb<|Xu W<|Rv 5 W A66 U B64<|Rj W G64 V U<|Ro W<|Ry Y A64 B69<|La Y G69 B69 hrop hsi<|Al W K69 U fun p7=>Rs Z B69 Y V Ph2<|Rz<|Xv<|Xf fun hok=>D5 C 0 hok U U G66 B66 V Tk6<|D5 C 1 hok U U isAgg176 B176 V Tk2<|Dh 4 2 Y A66 U B58<|Db 3 W G58 V U<|Dh 0 4 Y A69 U B3<|Db 5 W G3 V U<|Dp 6 hok (fun _ _ _ A h=>R.sliceTo C U (A.w U U) (A.x U U) (A.x U U) A58 B3 O O h)<|Dh 1 9 Y A69 U B67<|Db 10 W G67 V U<|De 7 (some 43) [true,false,false,false,false] hok (fun _ _ A hk=>?_)
   refine R.callP C U (A.w U U) (A.x U U) (A.s U U) (momentR_c hJ hv0 hb hw0 hwl hwb hn0 hlt3 Zo) (hk _ _ ⟨(QFs.cons (QF.of U (fun _ _ A h=>R.loadOne C U (A.w U U) (A.x U U) G67 V U h)) QFs.nil), ?_⟩)
   refine De 8 (some 44) [true] hok (fun _ _ A hk=>?_)
   refine R.callP C U (A.w U U) (A.x U U) (A.s U U) (sideR_c hJ _ _) (hk _ _ ⟨(QFs.cons (QF.of U (fun _ _ A h=>R.loadOne C U (A.w U U) (A.x U U) G67 V U h)) QFs.nil), ?_⟩)
   refine Dj 11 Y5 b_neq<|Dn<|Xc U (fun hg=>?_) (fun hg=>?_)
   ·refine Xo W W<|Xw func89<|Hr hret (RO.le_refl _) ?_
    exact⟨_,rfl⟩
   ·refine Xz<|Xi<|Xg W<|Ro W<|Rb Y<|Ae W<|X.drop C.1 (own':=_::_::tail) (List.sublist_cons_self _ _)<|X.weaken ?_ (hnext2 (j+1) hj' O)
    exact⟨by simp [look],rfl,rfl,trivial⟩
  ·refine Xe U<|Xo W W<|Xw func89<|Hr hret (RO.le_refl _) ?_
   exact⟨_,rfl⟩
end Go.Lg.H
namespace Go.Lg.B
open Go Go.Conc Go.Lg Go.Proofs Go.Proofs.Tryz
section
variable {b:Bk}{v vp':Value}{ro:RO}{g l:Int}{p:List Int}
theorem getLastD_snoc(l:List Int)(x:Int):(l++ [x]).getLastD 0=x:=by simp [List.getLastD_eq_getLast?]
variable {main:Bool}{J:Goroutine→Mem→Prop}(hJ:Closed prog main J)
include hJ
theorem behindR_c{n s:Int}(hn:0≤n∧n≤99)(hs:0≤s∧s≤4)(ro:RO):CallP prog J (fnv 323) [.int .i64 n, .int .i64 s] ro (.int .i64 (behind n s)):=by
 have hm:=mul_bd hn.1 hn.2 hs.1 hs.2
 refine EP 18 hJ func323 W fun c cs tail hret C=>Xo W W<|Xm W W<|Rb Y<|Ri Z (b_mul O O)<|Ae W<|Xm W W<|Ro W<|Rb Y<|Ri Z (b_mul O O)<|Ro W<|Rb Y<|Ri Z (b_sub O O)<|Ro W<|Ri Z (b_quoP O O O)<|Hq W func323 hret ?_
 rfl
theorem pullsOfR_c(hv:BkV ro v b)(hb:b.good)(hg:0≤g∧g<b.gs.length)(hl:0≤l∧l≤99):CallR prog J (fnv 307) [v, .int .i64 g, .int .i64 l] ro (fun w ro'=>LsI ro' w (pulls b g l)):=by
 obtain⟨vp,vg,vc,vt,rfl,hp,hgs,hc,ht⟩:=hv
 obtain⟨pb,pc,rfl⟩:=hp.form
 obtain⟨cb,cc,rfl⟩:=hc.form
 obtain⟨tb,tc,rfl⟩:=ht.form
 obtain⟨pp,po,pcap,pl,ptt,pfq,hpe,hpro,hpsub⟩:=hp.at Pt.len (by have:=hb.np;omega)
 cases hpe
 obtain⟨gp,go,gcap,gl,gt,gfq,rfl,hgro,hgsub⟩:=hgs.at O
 obtain⟨qb,qc,hqat,hqcap,hq⟩:=hgsub g.toNat O
 have hgear:b.gs[g.toNat]' O=b.gear g:=by simp [Bk.gear,List.getD_eq_getElem?_getD,show g.toNat<b.gs.length by omega]
 rw [hgear] at hqat hqcap hq
 have hgn:=hb.gear hg.1 hg.2
 have hgl:=hb.gearLen hg.1 hg.2
 have hpl:pulls b g l=l::pullsGo b l (b.gear g):=rfl
 rw [hpl]
 generalize b.gear g=q at hqat hqcap hq hgn hgl
 refine ER 39 hJ func307 W fun c cs tail hret C=>Xu W<|Bx Z fun p3=>Ae W<|Xm W W<|R.buildSlice C (vs:=_) U U (show pvals _ _=some (numbered 0 [_]) from rfl) U A58 B3 K3 Dd (Cat.one U U) fun p11=>Ae W<|Xu W<|Rv 2 W A27 U B23<|Rj W G23 V U<|Ro W<|Ry Y A23 B58<|Lo Y G58 hgro hqat<|Ae W<|Xx W<|Ae W<|Xb<|X.loopI (ι:=Nat×Value×List (Nat×Obj)) C.1 (fun s=>s.1≤q.length∧Buf 3 1 ((p3, .cells [.int .i64 b.w, .slice (some ⟨pp,po,none⟩) b.ps.length pc, .slice (some ⟨gp,go,none⟩) b.gs.length gcap, .slice cb b.cs.length cc, .slice tb b.ts.length tc].toArray 27 (0,0))::tail) s.2.1 ((l::pullsGo b l (q.take s.1)).flatMap ic) s.2.2)
  (fun s=> [(2, .int .i64 ((l::pullsGo b l (q.take s.1)).getLastD 0)),(7,s.2.1),(8, .slice qb q.length qc),(9, .int .i64 (s.1:Int)),(3, .pointer (some ⟨p3,0,none⟩))])
  (fun s=>⟨ro,s.2.2⟩) (fun s=>q.length-s.1) (0,_,_) ⟨Nat.zero_le _, ?_⟩ rfl ⟨U,U,U,U,U,trivial⟩ fun s hi hnext=>?_
 ·exact .blk (p:=p11) (cells:= [.int .i64 l]) (spare:= []) (cap:=1) (len:=1) rfl rfl (Nat.le_refl _)
 obtain⟨i,vo,own⟩:=s
 obtain⟨hi,hbuf⟩:=hi
 simp only at hi hbuf hnext⊢
 obtain⟨p9,cap9,spare9,rfl,rfl⟩:=bufAt hbuf (by simp [ic])
 refine Xx W<|Oo W W<|Rt W A58<|Ri Z b_lss<|Zj U (fun hlt=>?_) (fun hlt=>?_)
 ·have hi':i<q.length:=O
  obtain⟨p,off,cap,ll,t,fq,hsl',hrop,hsub⟩:=hq.at ic_len O
  cases hsl'
  have hat:=ic_at hsub hi'
  have hn:=hgn.2.1 _ (List.getElem_mem hi')
  have htk:q.take (i+1)=q.take i++ [q[i]]:=List.take_succ_eq_append_getElem hi'
  have hacc:=pullsGo_snoc b (q.take i) l q[i]
  rw [←htk] at hacc
  generalize q[i]=m at hat hn hacc
  have hs:=hb.sheaves hn.1 hn.2
  have hsh:(b.ps[m.toNat]' O).sh=b.sheaves m:=by simp [Bk.sheaves,List.getD_eq_getElem?_getD,show m.toNat<b.ps.length by omega]
  have hpt:=pt_sh (hpsub m.toNat O)
  rw [hsh] at hpt
  have hbd:0≤(l::pullsGo b l (q.take i)).getLastD 0∧(l::pullsGo b l (q.take i)).getLastD 0≤99:=by
   have h1:(l::pullsGo b l (q.take i)).getLastD 0∈l::pullsGo b l (q.take i):=by
    rw [List.getLastD_eq_getLast?,List.getLast?_eq_getLast Zi];exact List.getLast_mem _
   rcases List.mem_cons.1 h1 with h2|h2
   ·rw [h2];exact hl
   ·have:=pullsGo_bd hb (fun x hx=>hgn.2.1 x (List.mem_of_mem_take hx)) hl.1 _ h2;omega
  have hlen:(pullsGo b l (q.take i)).length=i:=by rw [pullsGo_len];simp;omega
  have hfl:((l::pullsGo b l (q.take i)).flatMap ic).length=i+1:=by rw [flat_len,List.length_cons,hlen]
  have hlast:(l::pullsGo b l (q.take (i+1))).getLastD 0=behind ((l::pullsGo b l (q.take i)).getLastD 0) (b.sheaves m):=by
   rw [hacc, ←List.cons_append,getLastD_snoc]
  generalize hx:(l::pullsGo b l (q.take i)).getLastD 0=x at hbd hacc hlast
  generalize b.sheaves m=sm at hs hpt hacc hlast
  refine Xz<|Xv<|Xb<|Xv<|Xf fun hok=>Dt 0 Y<|Dh 1 1 Y A27 U B22<|Db 2 W G22 V U<|Dt 3 Y<|Dt 4 Y<|Dw 5 Y A58 B3<|Dc 6 W G3 hrop hat<|Dw 7 Y A22 B169<|Df C 8 hok U U U A169 U B3 U<|Dc 9 W G3 hpro hpt<|De 10 (some 33) [false,false,false] hok (fun _ _ A hk=>?_)
  refine R.callP C U (A.w U U) (A.x U U) (A.s U U) (behindR_c hJ hbd hs _) (hk _ _ ⟨QFs.nil, ?_⟩)
  refine Da C 11 hok U U<|Dn<|Xg W<|Oo W W<|R.buildSlice C (vs:=_) U U (show pvals _ _=some (numbered 0 [_]) from rfl) U A58 B3 K3 Dd (Cat.one U U) fun p36=>R.append1 (kk:=1) C U U U U A58 A58 (fun _=>nofun) (show prog.info? 3=some Tryz.t3 by kernel_rfl) U U U Dd Dd hbuf U U (by simp only [List.length_append,List.length_cons,List.length_nil];omega) fun v' own' hb'=>Ae W<|Xi<|Xg W<|Ro W<|Rb Y<|Ae W<|X.weaken ?_ (hnext (i+1,v',own') ⟨hi', ?_⟩ ?_)
  ·exact⟨by simp only [look];rw [hlast],rfl,rfl,by simp [look],rfl,trivial⟩
  ·rw [hacc, ←List.cons_append,List.flatMap_append]
   exact hb'
  ·simp only;omega
 ·obtain rfl:i=q.length:=by omega
  rw [List.take_length] at hbuf⊢
  refine Xe U<|Xu W<|R.finish C.1 ic_len Dd hbuf fun ro' hle hls=>Ro W<|Ae W<|Xw func307<|Hr hret hle ?_
  exact hls
theorem givesOfR_c(hv:BkV ro v b)(hb:b.good)(hp0:LsI ro vp' p)(hpl:p.length=b.ps.length)(hg:0≤g∧g<b.gs.length)(hl:0≤l∧l≤99):CallR prog J (fnv 248) [v,vp', .int .i64 g, .int .i64 l] ro (fun w ro'=>LsI ro' w (gives b p g l)):=by
 have hvv:=hv
 obtain⟨vp,vg,vc,vt,rfl,hp,hgs,hc,ht⟩:=hv
 obtain⟨pb,pc,rfl⟩:=hp.form
 obtain⟨cb,cc,rfl⟩:=hc.form
 obtain⟨tb,tc,rfl⟩:=ht.form
 obtain⟨gp,go,gcap,gl,gt,gfq,rfl,hgro,hgsub⟩:=hgs.at O
 obtain⟨qb,qc,hqat,hqcap,hq⟩:=hgsub g.toNat O
 have hgear:b.gs[g.toNat]' O=b.gear g:=by simp [Bk.gear,List.getD_eq_getElem?_getD,show g.toNat<b.gs.length by omega]
 rw [hgear] at hqat hqcap hq
 have hgn:=hb.gear hg.1 hg.2
 have hgl:=hb.gearLen hg.1 hg.2
 have hpn:=pulls_len b g l
 have hnp:=hb.np
 have hwb:=hb.w
 have hpb:=pulls_bd hb hg.1 hg.2 hl.1
 obtain⟨kp,ko,kcap,kl,kt,kfq,hks,hkro,hksub⟩:=hp0.at ic_len O
 subst hks
 have hgv:gives b p g l=givesTo p (b.gear g) (pulls b g l) (b.gear g).length++(if b.w<(pulls b g l).getD (b.gear g).length 0 then [((b.gear g).length:Int)] else []):=rfl
 have hpo:=pullsOfR_c hJ hvv hb hg hl
 rw [hgv]
 generalize b.gear g=q at hqat hqcap hq hgn hgl hpn
 generalize pulls b g l=ls at hpn hpo hpb
 refine ER 58 hJ func248 W fun c cs tail hret C=>Xu W<|Bx Z fun p4=>Ae W<|Xv<|Xf fun hok=>Dh 2 0 Y A27 U B23<|Db 1 W G23 V U<|Dt 2 Y<|Dw 3 Y A23 B58<|Dc 4 W G58 (by first|exact hgro|exact hl1 _ _ hgro) hqat<|D5 C 5 hok U U G27 B27 V Tk5<|Dt 6 Y<|Dt 7 Y<|De 8 (some 21) [false,true,true] hok (fun _ _ A hk=>?_)
 refine R.callR C U (A.w U U) (A.x U U) (A.s U U) (hpo) fun w1 ro1 hl1 hw=>hk _ _ ⟨(QFs.cons (QF.of U (fun _ _ A h=>R.loadOneRo C U (A.w U U) (A.x U U) G58 (by first|exact hgro|exact hl1 _ _ hgro) hqat h)) (QFs.cons (QF.of U (fun _ _ A h=>R.loadOne C U (A.w U U) (A.x U U) G23 V U h)) QFs.nil)), ?_⟩
 obtain⟨wp,wo,wcap,wl,wt,wfq,rfl,hwro,hwsub⟩:=hw.at ic_len O
 refine Da C 9 hok U U<|Da C 10 hok U U<|Dn<|Xo W W<|Xx W<|Ae W<|Xb<|X.loopI (ι:=Nat×Value×List (Nat×Obj)) C.1 (fun s=>s.1≤q.length∧Buf 3 1 [] s.2.1 ((givesTo p q ls s.1).flatMap ic) s.2.2)
  (fun s=> [(1, .slice (some ⟨kp,ko,none⟩) p.length kcap),(9, .slice qb q.length qc),(10, .slice (some ⟨wp,wo,none⟩) ls.length wcap),(11,s.2.1),(12, .int .i64 (s.1:Int)),(4, .pointer (some ⟨p4,0,none⟩))])
  (fun s=>⟨ro1,s.2.2++((p4, .cells [.int .i64 b.w, .slice pb b.ps.length pc, .slice (some ⟨gp,go,none⟩) b.gs.length gcap, .slice cb b.cs.length cc, .slice tb b.ts.length tc].toArray 27 (0,0))::tail)⟩) (fun s=>q.length-s.1) (0, .slice none 0 0, []) ⟨Nat.zero_le _, .nil⟩ rfl ⟨U,U,U,U,U,U,trivial⟩ fun s hi hnext=>?_
 obtain⟨i,vo,own⟩:=s
 obtain⟨hi,hbuf⟩:=hi
 simp only at hi hbuf hnext⊢
 have hgn0:=givesTo_len p q ls i
 have hgn1:=flat_len (givesTo p q ls i)
 refine Xx W<|Oo W W<|Rt W A58<|Ri Z b_lss<|Zj U (fun hlt=>?_) (fun hlt=>?_)
 ·have hi':i<q.length:=O
  obtain⟨p9,off,cap,ll,t,fq,hsl',hrop,hsub⟩:=hq.at ic_len O
  cases hsl'
  have hat:=ic_at hsub hi'
  have hwat:=ic_at hwsub (i:=i) O
  have hn:=hgn.2.1 _ (List.getElem_mem hi')
  have hkl:q[i].toNat<p.length:=O
  have hkat:=ic_at hksub hkl
  have hstep:=givesTo_succ p q ls i
  have hgp:givesP p q ls i=decide (p[q[i].toNat]<ls[i]' O):=by
   unfold givesP nth
   simp [List.getD_eq_getElem?_getD,hi',hkl,show i<ls.length by omega]
  rw [hgp] at hstep
  generalize p[q[i].toNat]=y at hkat hstep
  generalize ls[i]' O=z at hwat hstep
  generalize q[i]=m at hat hn hkl hkat
  have hrop1:=hl1 _ _ hrop
  have hkro1:=hl1 _ _ hkro
  refine Xz<|Xv<|Xb<|Xv<|Xf fun hok=>Dt 0 Y<|Dt 1 Y<|Dw 2 Y A58 B3<|Dc 3 W G3 hwro hwat<|Dt 4 Y<|Dt 5 Y<|Dt 6 Y<|Dw 7 Y A58 B3<|Dc 8 W G3 hrop1 hat<|Dw 9 Y A58 B3<|Dc 10 W G3 hkro1 hkat<|Dj 11 Y5 b_gtr<|Dn<|Xc U (fun hgv1=>?_) (fun hgv1=>?_)
  ·rw [if_pos (by simpa using hgv1)] at hstep
   refine Xg W<|Oo W W<|R.buildSlice C (vs:=_) U U (show pvals _ _=some (numbered 0 [_]) from rfl) U A58 B3 K3 Dd (Cat.one U U) fun p42=>R.append1 (kk:=1) C U U U U A58 A58 (fun _=>nofun) (show prog.info? 3=some Tryz.t3 by kernel_rfl) U U U Dd Dd (hbuf.app _) U U (by simp only [List.length_append,List.length_cons,List.length_nil];omega) fun v' own' hb'=>Ae W<|Xi<|Xg W<|Ro W<|Rb Y<|Ae W ?_
   obtain⟨own3,rfl,hb3⟩:=Buf.unapp (tail:= []) hb'
   refine X.weaken ?_ (hnext (i+1,v',own3) ⟨hi', ?_⟩ (by simp only;omega))
   ·exact⟨rfl,rfl,rfl,rfl,by simp [look],rfl,trivial⟩
   ·rw [hstep,List.flatMap_append];exact hb3
  ·rw [if_neg (by simpa using hgv1)] at hstep
   refine Xz<|Xi<|Xg W<|Ro W<|Rb Y<|Ae W<|X.weaken ?_ (hnext (i+1,vo,own) ⟨hi',by rw [hstep];exact hbuf⟩ (by simp only;omega))
   exact⟨rfl,rfl,rfl,rfl,by simp [look],rfl,trivial⟩
 ·obtain rfl:i=q.length:=by omega
  have hwat:=ic_at hwsub (i:=q.length) O
  have hlsD:ls.getD q.length 0=ls[q.length]' O:=by simp [List.getD_eq_getElem?_getD,show q.length<ls.length by omega]
  rw [hlsD] at hret
  generalize ls[q.length]' O=z at hwat hlsD hret
  refine Xe U<|Xv<|Xv<|Xf fun hok=>Dt 0 Y<|Dt 1 Y<|Ds C 2 hok U U A58<|Dw 3 Y A58 B3<|Dc 4 W G3 hwro hwat<|Dh 0 5 Y A27 U B3<|Dl 6 hok (fun _ _ A h=>R.loadOne C U (A.w U U) (A.x U U) G3 Vm U h)<|Dj 7 Y5 b_gtr<|Dn<|Xc U (fun hz=>?_) (fun hz=>?_)
  ·have hz:b.w<z:=by simpa using hz
   refine Xg W<|Oo W W<|Rt W A58<|R.buildSlice C (vs:=_) U U (show pvals _ _=some (numbered 0 [_]) from rfl) U A58 B3 K3 Dd (Cat.one U U) fun p55=>R.append1 (kk:=1) C U U U U A58 A58 (fun _=>nofun) (show prog.info? 3=some Tryz.t3 by kernel_rfl) U U U Dd Dd (hbuf.app _) U U (by simp only [List.length_append,List.length_cons,List.length_nil];omega) fun v' own' hb'=>Ae W<|Xv ?_
   obtain⟨own3,rfl,hb3⟩:=Buf.unapp (tail:= []) hb'
   have hcat:(givesTo p q ls q.length).flatMap ic++ [Value.int .i64 (q.length:Int)]=(givesTo p q ls q.length++ [(q.length:Int)]).flatMap ic:=by rw [List.flatMap_append];rfl
   rw [hcat] at hb3
   refine X.finish C.1 ic_len Dd (hb3.app _) fun ro4 hl4 hls4=>Xg W<|Ro W<|Ae W<|Xw func248<|Hr hret (RO.le_trans hl1 hl4) ?_
   rw [if_pos hz];exact hls4
  ·have hz:¬b.w<z:=by simpa using hz
   refine Xz<|Xv<|X.finish C.1 ic_len Dd (hbuf.app _) fun ro4 hl4 hls4=>Xg W<|Ro W<|Ae W<|Xw func248<|Hr hret (RO.le_trans hl1 hl4) ?_
   rw [if_neg hz,List.append_nil];exact hls4
theorem liftsOfR_c(hv:BkV ro v b)(hb:b.good)(hp0:LsI ro vp' p)(hpl:p.length=b.ps.length)(hg:0≤g∧g<b.gs.length)(hl:1≤l∧l≤99):CallR prog J (fnv 176) [v,vp', .int .i64 g, .int .i64 l] ro (fun w _=>w= .bool (lifts b p g l)):=by
 have hvv:=hv
 obtain⟨vp,vg,vc,vt,rfl,hp,hgs,hc,ht⟩:=hv
 obtain⟨_,_,rfl⟩:=hp.form
 obtain⟨_,_,rfl⟩:=hgs.form
 obtain⟨_,_,rfl⟩:=hc.form
 obtain⟨_,_,rfl⟩:=ht.form
 have hgl:=gives_len b p g l
 have hgl2:=hb.gearLen hg.1 hg.2
 refine ER 16 hJ func176 W fun c cs tail hret C=>Xu W<|Bx Z fun p4=>Ae W<|Xu W<|Rq W G27 B27 V Tk5<|Oo W W<|Ro W<|R.callR C U U U U (givesOfR_c hJ hvv hb hp0 hpl hg O) fun w1 ro1 hl1 hw=>?_
 obtain⟨_,_,rfl⟩:=hw.form
 refine Rt W A58<|Ri Z b_eql<|Ae W<|Xw func176<|Hr hret hl1 ?_
 unfold lifts
 rw [show(l==0)=false by rw [beq_eq_false_iff_ne];omega,Bool.false_or]
 refine congrArg Value.bool ?_
 rw [Bool.eq_iff_iff,beq_iff_eq,beq_iff_eq];omega
theorem testedR_c(hv:BkV ro v b)(hb:b.good)(hp0:LsI ro vp' p)(hpl:p.length=b.ps.length):CallR prog J (fnv 86) [v,vp'] ro (fun w _=>w= .bool (right b p)):=by
 have hvv:=hv
 obtain⟨vp,vg,vc,vt,rfl,hp,hgs,hc,ht⟩:=hv
 obtain⟨pb,pc,rfl⟩:=hp.form
 obtain⟨gb,gc,rfl⟩:=hgs.form
 obtain⟨cb,cc,rfl⟩:=hc.form
 obtain⟨tb,tc,rfl⟩:=ht.form
 have hnt:=hb.nt
 obtain⟨kb,kc,hks⟩:=hp0.form
 subst hks
 refine ER 29 hJ func86 W fun c cs tail hret C=>Xu W<|Bx Z fun p2=>Ae W<|Xx W<|Ae W<|Xb<|X.loopI (ι:=Nat×RO) C.1 (fun s=>s.1≤b.ts.length∧ro.le s.2∧∀j (hj:j<b.ts.length),j<s.1→(lifts b p (b.ts[j]).g (b.ts[j]).l==(b.ts[j]).held)=true) (fun s=> [(1, .slice kb p.length kc),(2, .pointer (some ⟨p2,0,none⟩)),(5, .int .i64 (s.1:Int))])
  (fun s=>⟨s.2,(p2, .cells [.int .i64 b.w, .slice pb b.ps.length pc, .slice gb b.gs.length gc, .slice cb b.cs.length cc, .slice tb b.ts.length tc].toArray 27 (0,0))::tail⟩) (fun s=>b.ts.length-s.1) (0,ro) ⟨Nat.zero_le _,RO.le_refl _,fun j _ hj=>absurd hj (Nat.not_lt_zero _)⟩ rfl ⟨U,U,U,trivial⟩ fun s hs hnext=>?_
 obtain⟨i,ro1⟩:=s
 obtain⟨hi,hle,hall⟩:=hs
 simp only at hi hle hall hnext⊢
 refine Xx W<|Ro W<|Rv 4 W A27 U B25<|Rj W G25 V U<|Rt W A25<|Ri Z b_lss<|Zj U (fun hlt=>?_) (fun hlt=>?_)
 ·have hi':i<b.ts.length:=O
  obtain⟨pp,off,cap,ll,ty,fq,hsl,hrop,hsub⟩:=(ht.mono hle).at Ts.len O
  cases hsl
  have hsi:=hsub i hi'
  have hts:=hb.ts _ (List.getElem_mem hi')
  have hnx:(lifts b p (b.ts[i]).g (b.ts[i]).l==(b.ts[i]).held)=false→right b p=false:=fun h=>by
   unfold right
   rw [List.all_eq_false]
   exact⟨_,List.getElem_mem hi',by simp [h]⟩
  have hst:(lifts b p (b.ts[i]).g (b.ts[i]).l==(b.ts[i]).held)=true→∀j (hj:j<b.ts.length),j<i+1→(lifts b p (b.ts[j]).g (b.ts[j]).l==(b.ts[j]).held)=true:=fun h j hj hji=>by
   by_cases e:j=i
   ·subst e;exact h
   ·exact hall j hj O
  generalize b.ts[i]=t at hsi hts hnx hst
  have hsi:Sub (off+i*3) 3 ll [.int .i64 t.g, .int .i64 t.l, .bool t.held]:=hsi
  refine Xz<|Xv<|Xb<|Xu W<|Rv 4 W A27 U B25<|Rj W G25 V U<|Ro W<|Ry Y A25 B105<|La Y G105 B105 hrop hsi<|Al W K105 U fun p6=>Rs Z B105 Y V Ph3<|Rz<|Xv<|Xf fun hok=>D5 C 0 hok U U G27 B27 V Tk5<|Dt 1 Y<|Dh 0 2 Y A105 U B3<|Db 3 W G3 V U<|Dh 1 4 Y A105 U B3<|Db 5 W G3 V U<|Dh 2 7 Y A105 U B4<|Db 8 W G4 V U<|De 6 (some 25) [true,false,false,false] hok (fun _ _ A hk=>?_)
  refine R.callR C U (A.w U U) (A.x U U) (A.s U U) (liftsOfR_c hJ (hvv.mono hle) hb (hp0.mono hle) hpl hts.1 hts.2) fun w2 ro2 hl2 hw=>hk _ _ ⟨(QFs.cons (QF.of U (fun _ _ A h=>R.loadOne C U (A.w U U) (A.x U U) G4 V U h)) QFs.nil), ?_⟩
  subst hw
  refine Dp 9 hok (fun _ _ _ A h=>R.neBool C U (A.w U U) (A.x U U) (A.x U U) A4 h)<|Dn<|Xc U (fun hne=>?_) (fun hne=>?_)
  ·have hne:(lifts b p t.g t.l==t.held)=false:=by simpa using hne
   refine Xo W W<|Xw func86<|Hr hret (RO.le_trans hle hl2) ?_
   rw [hnx hne];rfl
  ·have hne:(lifts b p t.g t.l==t.held)=true:=by simpa using hne
   refine Xz<|Xi<|Xg W<|Ro W<|Rb Y<|Ae W<|X.drop C.1 (own':=_::tail) (List.sublist_cons_self _ _)<|X.weaken ?_ (hnext (i+1,ro2) ⟨hi',RO.le_trans hle hl2,hst hne⟩ (by simp only;omega))
   exact⟨rfl,rfl,by simp [look],trivial⟩
 ·obtain rfl:i=b.ts.length:=by omega
  refine Xe U<|Xo W W<|Xw func86<|Hr hret hle ?_
  have:right b p=true:=by
   unfold right
   rw [List.all_eq_true]
   intro t ht
   obtain⟨j,hj,rfl⟩:=List.getElem_of_mem ht
   exact hall j hj hj
  rw [this];rfl
end
section
theorem any_none{α:Type}{p:α→Bool}{l:List α}(h:∀j (hj:j<l.length),j<l.length→p l[j]=false):l.any p=false:=by
 rw [List.any_eq_false]
 intro x hx
 obtain⟨j,hj,rfl⟩:=List.getElem_of_mem hx
 simp [h j hj hj]
end
section
abbrev U16:={n:Int//0≤n∧n≤65535}
def uc(n:U16):List Value:= [.int .u16 n.1]
end
section
variable {d:Bk}{k:Ks}{g:Int}
structure RealOk(d:Bk)(k:Ks):Prop where
 ch:checkBook d=0
 cs:((k.ks,k.ws):Tn)∈cases d
theorem RealOk.ne(h:RealOk d k):cases d≠ []:=fun e=>by have:=h.cs;rw [e] at this;cases this
theorem RealOk.bears(h:RealOk d k)(i:Int):(bearsOf d i).contains (nth k.ks i)=true:=by
 rw [List.contains_iff_mem];exact bearsOf_mem.2 ⟨_,h.cs,rfl⟩
theorem RealOk.weights(h:RealOk d k)(i:Int):(weightsOf d i).contains (nth k.ws i)=true:=by
 rw [List.contains_iff_mem];exact weightsOf_mem.2 ⟨_,h.cs,rfl⟩
theorem RealOk.sure(h:RealOk d k){p:Int}(hm:may d g p=1):lifts d k.ks g (nth k.ws p)=true:=by
 rw [may,how_one (List.length_pos_iff.2 h.ne),filter_all,List.all_eq_true] at hm
 exact hm _ h.cs
theorem RealOk.most(h:RealOk d k)(hg:0≤g∧g<d.gs.length):lifts d k.ks g (Go.Lg.B.most d g)=true:=by
 obtain⟨a1,a2,a3⟩:=most_law (good_of h.ch) hg.1 hg.2
 have:=(a3 _ a1 a2).2 (Int.le_refl _)
 unfold allLift at this
 rw [List.all_eq_true] at this
 exact this (k.ks,k.ws) h.cs
theorem RealOk.weak(h:RealOk d k){n x:Int}(hx:x∈gives d k.ks g n):(Go.Lg.B.weak d g n).contains x=true:=by
 have hm:x∈Go.Lg.B.weak d g n:=weak_mem.2 ⟨(k.ks,k.ws),h.cs,hx⟩
 exact List.contains_iff_mem.2 hm
end
section
def grow(all:List (List Int))(r:Rc):List (List Int):=all.flatMap fun x=>r.nums.map fun n=>x++ [n]
theorem grow_spread:∀ (rs:List Rc) (all:List (List Int)),rs.foldl grow all=all.flatMap fun x=>(spread rs).map (x++ ·)
 | [],all=>by simp [spread]
 |r::rs,all=>by
  rw [List.foldl_cons,grow_spread rs,grow,List.flatMap_assoc]
  congr 1;funext x
  simp only [spread,List.flatMap_map,List.map_flatMap,List.map_map]
  congr 1;funext n;congr 1;funext l;simp
theorem grow_all(rs:List Rc):rs.foldl grow [[]]=spread rs:=by rw [grow_spread];simp
theorem grow_to(rs:List Rc){i:Nat}(h:i<rs.length):spread (rs.take (i+1))=grow (spread (rs.take i)) rs[i]:=by
 rw [←grow_all, ←grow_all,List.take_succ_eq_append_getElem h,List.foldl_append];rfl
theorem grow_take(l:List (List Int))(r:Rc){k:Nat}(h:k<l.length):grow (l.take (k+1)) r=grow (l.take k) r++r.nums.map fun n=>l[k]++ [n]:=by
 unfold grow;rw [List.take_succ_eq_append_getElem h,List.flatMap_append];simp
theorem grow_le(l:List (List Int)){r:Rc}(h:r.hi-r.lo<3):(grow l r).length≤3*l.length:=by
 unfold grow
 induction l with
 |nil=>simp
 |cons x l ih=>
  have:r.nums.length≤3:=by rw [Rc.nums,rz_len];omega
  rw [List.flatMap_cons,List.length_append,List.length_map,List.length_cons];omega
theorem rz_to(lo:Int):∀m,rz lo (m+1)=rz lo m++ [lo+m]
 |0=>by simp [rz]
 |m+1=>by
  rw [rz,rz_to (lo+1) m,rz,List.cons_append,show lo+1+(m:Int)=lo+((m+1:Nat):Int) by omega]
section
variable {main:Bool}{J:Goroutine→Mem→Prop}(hJ:Closed prog main J)
include hJ
theorem listsR_c{rs:List Rc}{v:Value}{ro:RO}(hv:Ls Rc.cells 2 ro v rs)(hn:rs.length≤4)(hr:∀r∈rs,0≤r.lo∧r.lo≤r.hi∧r.hi≤99∧r.hi-r.lo<3):CallR prog J (fnv 85) [v] ro (fun w ro'=>LsG ro' w (spread rs)):=by
 have hv0:=hv
 obtain⟨vb,vc,rfl⟩:=hv.form
 refine ER 49 hJ func85 W fun c cs tail hret C=>Xo W W<|Xu W<|R.buildSlice C (vs:=_) U U (show pvals _ _=some (numbered 0 [_]) from rfl) U A23 B58 K58 Dd (Cat.one U U) fun p8=>Ae W<|Xx W<|Ae W<|Xb<|X.finish C.1 (enc:=fun z:Value×List Int=> [z.1]) (kk:=1) (e:=58) (xs:= [(.slice none 0 0, [])]) (fun _=>rfl) Dd (Buf.blk (cells:= [.slice none 0 0]) (spare:= []) (len:=1) (cap:=1) U U (Nat.le_refl _)) fun ro0 hl0 hls0=>X.loopI (ι:=Nat×RO×Value) C.1 (fun s=>s.1≤rs.length∧ro0.le s.2.1∧LsG s.2.1 s.2.2 (spread (rs.take s.1))) (fun s=> [(0, .slice vb rs.length vc),(3,s.2.2),(4, .int .i64 (s.1:Int))])
  (fun s=>⟨s.2.1,tail⟩) (fun s=>rs.length-s.1) (0,ro0, .slice (some ⟨p8,0,none⟩) 1 1) ⟨Nat.zero_le _,RO.le_refl _,_,hls0,rfl,fun z hz=>by simp at hz;subst hz;exact⟨Ls.nil,_,_,_,rfl,Nat.le_refl _⟩⟩ rfl ⟨U,U,U,trivial⟩ fun s hs hnext=>?_
 obtain⟨i,ro1,v1⟩:=s
 obtain⟨hi,hle1,hg1⟩:=hs
 simp only at hi hle1 hg1 hnext⊢
 refine Xx W<|Oo W W<|Rt W A29<|Ri Z b_lss<|Zj U (fun hlt=>?_) (fun hlt=>?_)
 ·have hi':i<rs.length:=O
  have hstep:=grow_to rs hi'
  have hri:=hr _ (List.getElem_mem hi')
  have hallx:∀x∈spread (rs.take i),x.length=i:=fun x hx=>by rw [spread_len x hx,List.length_take];omega
  have hal:(spread (rs.take i)).length≤81:=by
   have h1:=spread_le (rs:=rs.take i) fun r h=>(hr r (List.mem_of_mem_take h)).2.2.2
   have h2:3^ (rs.take i).length≤3^4:=Nat.pow_le_pow_right Dd (by rw [List.length_take];omega)
   omega
  obtain⟨rp,rof,rcap,rl,rt,rfq,hsl,hrro,hrsub⟩:=(hv0.mono (RO.le_trans hl0 hle1)).at (fun _=>rfl) O
  cases hsl
  have hsi:=hrsub i hi'
  generalize rs[i]=r at hstep hri hsi
  generalize spread (rs.take i)=all at hg1 hstep hallx hal
  have hlo:rl[rof+i*2+0]? =some (.int .i64 r.lo):=hsi.get 0 Dd
  have hhi:rl[rof+i*2+1]? =some (.int .i64 r.hi):=hsi.get 1 Dd
  obtain⟨ab,ac,rfl⟩:=hg1.form
  refine Xz<|Xv<|Xb<|Xo W W<|Xx W<|Ae W<|Xb<|X.loopI (ι:=Nat×RO×Value×List (Value×List Int)×List (Nat×Obj)) C.1 (fun s=>s.1≤all.length∧ro1.le s.2.1∧Buf 58 1 tail s.2.2.1 (s.2.2.2.1.flatMap fun z=> [z.1]) s.2.2.2.2∧s.2.2.2.1.map (·.2)=grow (all.take s.1) r∧∀z∈s.2.2.2.1,LsI s.2.1 z.1 z.2∧capOk z.1) (fun s=> [(0, .slice (some ⟨rp,rof,none⟩) rs.length vc),(3, .slice ab all.length ac),(4, .int .i64 (i:Int)),(5,s.2.2.1),(6, .int .i64 (s.1:Int))])
   (fun s=>⟨s.2.1,s.2.2.2.2⟩) (fun s=>all.length-s.1) (0,ro1, .slice none 0 0, [],tail) ⟨Nat.zero_le _,RO.le_refl _, .nil,by simp [grow],fun _ h=>nomatch h⟩ rfl ⟨U,U,U,U,U,trivial⟩ fun s hs hnext2=>?_
  obtain⟨k,ro2,v2,zs2,own2⟩:=s
  obtain⟨hk,hle2,hb2,hzs2,hls2⟩:=hs
  simp only at hk hle2 hb2 hzs2 hls2 hnext2⊢
  refine Xx W<|Oo W W<|Rt W A23<|Ri Z b_lss<|Zj U (fun hlt2=>?_) (fun hlt2=>?_)
  ·have hk':k<all.length:=O
   obtain⟨ap,ao,acap,al,aty,afq,hasl,haro,hasub⟩:=hg1.at O
   cases hasl
   obtain⟨qb,qc,hqat,hqc,hqls⟩:=hasub k hk'
   have hgt:=grow_take all r hk'
   have hgl:=grow_le (all.take k) hri.2.2.2
   rw [List.length_take] at hgl
   have hxl:=hallx _ (List.getElem_mem hk')
   generalize all[k]=x at hqat hqc hqls hgt hxl
   have hrro2:=hle2 _ _ hrro
   have hrl:∃c:Nat,c=(r.hi+1-r.lo).toNat:=⟨_,rfl⟩
   obtain⟨c,hc⟩:=hrl
   have hnums:r.nums=rz r.lo c:=by rw [hc];rfl
   refine Xz<|Xv<|Xb<|Xm W W<|Ro W<|Ry Y A29 B45<|R.fieldAddr C U U U A45 U B3 U<|Lo Y G3 hrro2 hlo<|Ae W<|Xb<|X.loopI (ι:=Nat×RO×Value×List (Value×List Int)×List (Nat×Obj)) C.1 (fun s=>s.1≤c∧ro2.le s.2.1∧Buf 58 1 tail s.2.2.1 (s.2.2.2.1.flatMap fun z=> [z.1]) s.2.2.2.2∧s.2.2.2.1.map (·.2)=grow (all.take k) r++(rz r.lo s.1).map (fun n=>x++ [n])∧∀z∈s.2.2.2.1,LsI s.2.1 z.1 z.2∧capOk z.1) (fun s=> [(0, .slice (some ⟨rp,rof,none⟩) rs.length vc),(3, .slice (some ⟨ap,ao,none⟩) all.length ac),(4, .int .i64 (i:Int)),(5,s.2.2.1),(6, .int .i64 (k:Int)),(7, .int .i64 (r.lo+(s.1:Int)))])
    (fun s=>⟨s.2.1,s.2.2.2.2⟩) (fun s=>c-s.1) (0,ro2,v2,zs2,own2) ⟨Nat.zero_le _,RO.le_refl _,hb2,by simp [hzs2,rz],hls2⟩ rfl ⟨rfl,rfl,rfl,rfl,rfl,by simp [look],trivial⟩ fun s hs hnext3=>?_
   obtain⟨j,ro3,v3,zs3,own3⟩:=s
   obtain⟨hj,hle3,hb3,hzs3,hls3⟩:=hs
   simp only at hj hle3 hb3 hzs3 hls3 hnext3⊢
   have hlen3:=congrArg List.length hzs3
   rw [List.length_map,List.length_append,List.length_map,rz_len] at hlen3
   have hff3:(zs3.flatMap fun z:Value×List Int=> [z.1]).length=zs3.length:=by rw [flatMap_len (k:=1) (fun _=>rfl),Nat.mul_one]
   have hrro3:=hle3 _ _ hrro2
   have haro3:=hle3 _ _ (hle2 _ _ haro)
   have hqls3:=hqls.mono (RO.le_trans hle2 hle3)
   refine Xx W<|Oo W W<|Ro W<|Ry Y A29 B45<|R.fieldAddr C U U U A45 U B3 U<|Lo Y G3 hrro3 hhi<|Ri Z b_leq<|Zj U (fun hlt3=>?_) (fun hlt3=>?_)
   ·have hfl:=flat_len x
    refine Xz<|Xv<|Xb<|Xg W<|Ro W<|R.buildSlice C (vs:=_) U U (show pvals _ _=some (numbered 0 []) from rfl) U A58 B3 K3 Dd (.nil) fun p36=>Oo W W<|Ry Y A23 B58<|Lo Y G58 haro3 hqat<|R.append (kk:=1) C U U U U A58 A58 (fun _=>nofun) (show prog.info? 3=some Tryz.t3 by kernel_rfl) U U U Dd Dd (Buf.blk (cells:= []) (spare:= []) (len:=0) (cap:=0) U U (Nat.le_refl _)) (hqls3.rd ic_len) (ones_ic x) (by simp only [List.length_nil];omega) fun v' own' hb'=>Ro W<|R.buildSlice C (vs:=_) U U (show pvals _ _=some (numbered 0 [_]) from rfl) U A58 B3 K3 Dd (Cat.one U U) fun p43=>R.append1 (kk:=1) C U U U U A58 A58 (fun _=>nofun) (show prog.info? 3=some Tryz.t3 by kernel_rfl) U U U Dd Dd hb' U U (by simp only [List.length_append,List.length_cons,List.length_nil];omega) fun v' own' hb'=>?_
    have e3:([]++x.flatMap ic)++ [Value.int .i64 (r.lo+(j:Int))]=(x++ [r.lo+(j:Int)]).flatMap ic:=by simp [List.flatMap_append,ic]
    rw [e3] at hb'
    have hco:=hb'.capOk
    refine R.finish C.1 ic_len Dd hb' fun ro4 hl4 hls4=>?_
    obtain⟨b4,c4,rfl⟩:=hls4.form
    refine R.buildSlice C (vs:=_) U U (show pvals _ _=some (numbered 0 [_]) from rfl) U A23 B58 K58 Dd (Cat.one U U) fun p45=>R.append1 (kk:=1) C U U U U A23 A23 (fun _=>nofun) (show prog.info? 58=some Tryz.t58 by kernel_rfl) U U U Dd Dd hb3 U U (by simp only [List.length_append,List.length_cons,List.length_nil];omega) fun v' own' hb'=>Ae W<|Xi<|Xg W<|Ro W<|Rb Y<|Ae W<|X.weaken ?_ (hnext3 (j+1,ro4,_,zs3++ [(.slice b4 (x++ [r.lo+(j:Int)]).length c4,x++ [r.lo+(j:Int)])],_) ⟨O,RO.le_trans hle3 hl4,by simpa [List.flatMap_append] using hb', ?_,fun z hz=>?_⟩ (by simp only;omega))
    ·exact⟨rfl,rfl,rfl,rfl,rfl,by simp only [look];congr 2;omega,trivial⟩
    ·rw [List.map_append,hzs3,rz_to,List.map_append,List.append_assoc];rfl
    ·rcases List.mem_append.1 hz with hz|hz
     ·exact⟨(hls3 z hz).1.mono hl4,(hls3 z hz).2⟩
     ·rw [List.mem_singleton.1 hz];exact⟨hls4,hco⟩
   ·obtain rfl:j=c:=by omega
    rw [←hnums, ←hgt] at hzs3
    refine Xe U<|Xi<|Xg W<|Ro W<|Rb Y<|Ae W<|X.weaken ?_ (hnext2 (k+1,ro3,v3,zs3,own3) ⟨hk',RO.le_trans hle2 hle3,hb3,hzs3,hls3⟩ (by simp only;omega))
    exact⟨rfl,rfl,rfl,rfl,by simp [look],trivial⟩
  ·obtain rfl:k=all.length:=by omega
   rw [List.take_length, ←hstep] at hzs2
   refine Xe U<|Xg W ?_
   have hls2':=hls2
   refine R.finish C.1 (enc:=fun z:Value×List Int=> [z.1]) (fun _=>rfl) Dd hb2 fun ro3 hl3 hls3=>Ro W<|Ae W<|Xi<|Xg W<|Ro W<|Rb Y<|Ae W<|X.weaken ?_ (hnext (i+1,ro3,v2) ⟨hi',RO.le_trans hle1 (RO.le_trans hle2 hl3),zs2,hls3,hzs2,fun z hz=>⟨(hls2 z hz).1.mono hl3,(hls2 z hz).2⟩⟩ (by simp only;omega))
   exact⟨rfl,rfl,by simp [look],trivial⟩
 ·obtain rfl:i=rs.length:=by omega
  rw [List.take_length] at hg1
  refine Xe U<|Xm W W<|Ae W<|Xw func85<|Hr hret (RO.le_trans hl0 hle1) ?_
  exact hg1
end
end
end Go.Lg.B
