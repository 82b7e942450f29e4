/-
  It is proved that the given function answers true for every input, whatever is scheduled: the statement Back of the seat. Conditions: none but those of the given statement itself.
-/
import Derived.Test.YtlkmnfdipiielaaGreatDoorBackA
import Derived.Lib.LaidU8
import Derived.Lay
import Derived.Conc.Holds
set_option maxRecDepth 100000
set_option maxHeartbeats 2000000
set_option linter.all false
namespace Go.Lg.B
open Go Go.Conc Go.Lg Go.Proofs Go.Lg.S Go.Proofs.Tryz
variable {ch:UInt8}{xs:List (List UInt8)}{l t:List UInt8}{x:Rc}{b:Bk}
theorem splitL_app{ch:UInt8}:∀ {x t:List UInt8},ch∉x→splitL ch (x++ch::t)=x::splitL ch t
 | [],t,_=>by rw [List.nil_append,splitL,if_pos Zi]
 |y::x,t,h=>by
  have h1:¬(y==ch)=true:=fun e=>h (by rw [eq_of_beq e];exact List.mem_cons_self)
  rw [List.cons_append,splitL,if_neg h1,splitL_app (fun hm=>h (List.mem_cons_of_mem _ hm))]
theorem splitL_one{x:List UInt8}(h:ch∉x):splitL ch x= [x]:=by
 refine splitL_none ?_
 rw [List.findIdx?_eq_none_iff]
 intro y hy
 rw [beq_eq_false_iff_ne]
 intro e;subst e;exact h hy
theorem splitL_join{ch:UInt8}:∀ {x:List UInt8} {r:List (List UInt8)},(∀y∈x::r,ch∉y)→splitL ch (x++r.flatMap ([ch]++ ·))=x::r
 |x, [],h=>by
  rw [List.flatMap_nil,List.append_nil]
  exact splitL_one (h x List.mem_cons_self)
 |x,y::r,h=>by
  rw [List.flatMap_cons]
  show splitL ch (x++ch::(y++r.flatMap ([ch]++ ·)))=_
  rw [splitL_app (h x List.mem_cons_self),splitL_join (fun z hz=>h z (List.mem_cons_of_mem _ hz))]
def clean(xs:List (List UInt8)):Prop:=xs≠ []∧∀y∈xs,y≠ []∧32∉y∧10∉y
theorem split_join(h:clean xs):splitL 32 (joinL [32] xs)=xs:=by
 obtain⟨h0,h⟩:=h
 cases xs with
 |nil=>exact absurd rfl h0
 |cons x r=>exact splitL_join fun y hy=>(h y hy).2.1
theorem join_lf(h:clean xs):10∉joinL [32] xs:=by
 obtain⟨h0,h⟩:=h
 cases xs with
 |nil=>exact absurd rfl h0
 |cons x r=>
  unfold joinL
  intro hm
  rcases List.mem_append.1 hm with hm|hm
  ·exact(h x List.mem_cons_self).2.2 hm
  ·obtain⟨y,hy,hm⟩:=List.mem_flatMap.1 hm
   rcases List.mem_append.1 hm with hm|hm
   ·simp at hm
   ·exact(h y (List.mem_cons_of_mem _ hy)).2.2 hm
theorem join_ne(h:clean xs):joinL [32] xs≠ []:=by
 obtain⟨h0,h⟩:=h
 cases xs with
 |nil=>exact absurd rfl h0
 |cons x r=>
  unfold joinL
  intro e
  exact(h x List.mem_cons_self).1 (List.append_eq_nil_iff.1 e).1
theorem find_lf(h:10∉l):(l++10::t).findIdx? (· ==10)=some l.length:=by
 rw [List.findIdx?_eq_some_iff_getElem]
 refine⟨by simp,by simp,fun j hj=>?_⟩
 rw [List.getElem_append_left hj]
 simp only [Bool.not_eq_true,beq_eq_false_iff_ne]
 intro e
 exact h (by rw [←e];exact List.getElem_mem hj)
theorem linesL_line(h:10∉l):linesL (l++10::t)=(l++ [10])::linesL t:=by
 rw [linesL_cons Zi]
 have h1:line1 (l++10::t)=l++ [10]:=by
  rw [line1,find_lf h]
  show(l++10::t).take (l.length+1)=_
  rw [show l++10::t=(l++ [10])++t by simp,List.take_left' Zi]
 have h2:rest1 (l++10::t)=t:=by
  rw [rest1,find_lf h]
  show(l++10::t).drop (l.length+1)=_
  rw [show l++10::t=(l++ [10])++t by simp,List.drop_left' Zi]
 rw [h1,h2]
theorem linesL_last(h:10∉l)(h0:l≠ []):linesL l= [l]:=by
 have hf:l.findIdx? (· ==10)=none:=by
  rw [List.findIdx?_eq_none_iff]
  intro y hy
  rw [beq_eq_false_iff_ne]
  intro e;subst e;exact h hy
 rw [linesL_cons h0,line1,rest1,hf]
 rfl
theorem linesL_all2:∀ {L:List (List (List UInt8))} (t:List UInt8),(∀xs∈L,clean xs)→linesL (L.flatMap lineS++t)=L.map lineS++linesL t
 | [],t,_=>rfl
 |xs::L,t,h=>by
  rw [List.flatMap_cons,List.append_assoc]
  show linesL ((joinL [32] xs++ [10])++(L.flatMap lineS++t))=_
  rw [List.append_assoc,List.singleton_append,linesL_line (join_lf (h xs List.mem_cons_self)),linesL_all2 t (fun ys hy=>h ys (List.mem_cons_of_mem _ hy))]
  rfl
theorem trim_line:trimSuf (l++ [10]) [10]=l:=by
 unfold trimSuf hasSuf
 simp
theorem trim_last(h:10∉l):trimSuf l [10]=l:=by
 unfold trimSuf
 rw [if_neg]
 unfold hasSuf
 rw [Bool.and_eq_true]
 rintro⟨_,h2⟩
 have:=eq_of_beq h2
 exact h (List.mem_of_mem_drop (i:=l.length- [(10:UInt8)].length) (by rw [this];exact List.mem_cons_self))
theorem row_line(h:clean xs):rowL (trimSuf (lineS xs) [10])=rowF xs:=by
 rw [lineS,trim_line,rowL,split_join h]
theorem row_last(h:clean xs):rowL (trimSuf (joinL [32] xs) [10])=rowF xs:=by
 rw [trim_last (join_lf h),rowL,split_join h]
theorem num_at:∀k:Fin 199,numOf (decI ((k.val:Int) -99))=some ((k.val:Int) -99)∧(decI ((k.val:Int) -99))≠ []∧32∉decI ((k.val:Int) -99)∧10∉decI ((k.val:Int) -99)∧58∉decI ((k.val:Int) -99):=by decide+kernel
theorem num_dec{n:Int}(h1: -99≤n)(h2:n≤99):numOf (decI n)=some n∧decI n≠ []∧32∉decI n∧10∉decI n∧58∉decI n:=by
 have:=num_at ⟨(n+99).toNat,O⟩
 have e:(((n+99).toNat:Nat):Int) -99=n:=O
 simp only [e] at this
 exact this
theorem cutB_none{s:List UInt8}(h:ch∉s):cutB s ch=(s, [],false):=by
 have hf:s.findIdx? (· ==ch)=none:=by
  rw [List.findIdx?_eq_none_iff]
  intro y hy
  rw [beq_eq_false_iff_ne]
  intro e;subst e;exact h hy
 rw [cutB,hf]
theorem cutB_app(h:ch∉l):cutB (l++ch::t) ch=(l,t,true):=by
 have hf:(l++ch::t).findIdx? (· ==ch)=some l.length:=by
  rw [List.findIdx?_eq_some_iff_getElem]
  refine⟨by simp,by simp,fun j hj=>?_⟩
  rw [List.getElem_append_left hj]
  simp only [Bool.not_eq_true,beq_eq_false_iff_ne]
  intro e
  exact h (by rw [←e];exact List.getElem_mem hj)
 rw [cutB,hf]
 show((l++ch::t).take l.length,(l++ch::t).drop (l.length+1),true)=_
 rw [List.take_left' rfl,show l++ch::t=(l++ [ch])++t by simp,List.drop_left' Zi]
theorem reach_dec(h1: -99≤x.lo∧x.lo≤99)(h2: -99≤x.hi∧x.hi≤99):reachOf (reachS x)=some x∧reachS x≠ []∧32∉reachS x∧10∉reachS x:=by
 obtain⟨a1,a2,a3,a4,a5⟩:=num_dec h1.1 h1.2
 obtain⟨b1,b2,b3,b4,b5⟩:=num_dec h2.1 h2.2
 unfold reachS
 split
 ·rename_i he
  refine⟨?_,a2,a3,a4⟩
  unfold reachOf
  rw [cutB_none a5]
  simp only [a1]
  cases x;simp only at he;subst he;rfl
 ·rename_i he
  have e:decI x.lo++ [58]++decI x.hi=decI x.lo++58::decI x.hi:=by simp
  rw [e]
  refine⟨?_,by simp, ?_, ?_⟩
  ·unfold reachOf
   rw [cutB_app a5]
   simp only [a1,b1,if_true,he,if_false]
  ·simp [a3,b3]
  ·simp [a4,b4]
theorem words_find:∀k:Fin 8,findL (wordsL.getD k.val []) wordsL=(k.val:Int)∧wordsL.getD k.val []≠ []∧32∉wordsL.getD k.val []∧10∉wordsL.getD k.val []:=by decide
def chartF(b:Bk):List (List UInt8):= [sChart,decI b.w,decI b.h,decI b.f]
def compF(x:Rc):List (List UInt8):= [sComp,reachS x]
def witF(w:Wt):List (List UInt8):= [sWit,decI w.s.e,decI w.s.n,wordsL.getD w.b.toNat [],decI w.k,if w.sure then sSure else sMaybe]
theorem clean_ne(h:clean xs):¬ []∈xs:=fun hm=>(h.2 _ hm).1 rfl
theorem chart_row(hb:b.good):clean (chartF b)∧rowF (chartF b)=some (.chart b.w b.h b.f):=by
 obtain⟨a1,a2,a3,a4,_⟩:=num_dec (n:=b.w) (by have:=hb.w;omega) (by have:=hb.w;omega)
 obtain⟨b1,b2,b3,b4,_⟩:=num_dec (n:=b.h) (by have:=hb.h;omega) (by have:=hb.h;omega)
 obtain⟨c1,c2,c3,c4,_⟩:=num_dec (n:=b.f) (by have:=hb.f;omega) (by have:=hb.f;omega)
 have hc:clean (chartF b):=by
  refine⟨by simp [chartF],fun y hy=>?_⟩
  simp only [chartF,List.mem_cons,List.not_mem_nil,or_false] at hy
  rcases hy with rfl|rfl|rfl|rfl
  ·decide
  ·exact⟨a2,a3,a4⟩
  ·exact⟨b2,b3,b4⟩
  ·exact⟨c2,c3,c4⟩
 refine⟨hc, ?_⟩
 rw [rowF,if_neg (clean_ne hc),if_pos ⟨rfl,rfl⟩]
 show(match numOf (decI b.w),numOf (decI b.h),numOf (decI b.f) with|some a,some b,some d=>some (RowP.chart a b d)|_,_,_=>none)=_
 rw [a1,b1,c1]
theorem comp_row(hx:x.fine=true):clean (compF x)∧rowF (compF x)=some (.comp x):=by
 obtain⟨h1,h2⟩:=Rc.fine.bd hx
 obtain⟨a1,a2,a3,a4⟩:=reach_dec h1 h2
 have hc:clean (compF x):=by
  refine⟨by simp [compF],fun y hy=>?_⟩
  simp only [compF,List.mem_cons,List.not_mem_nil,or_false] at hy
  rcases hy with rfl|rfl
  ·decide
  ·exact⟨a2,a3,a4⟩
 refine⟨hc, ?_⟩
 rw [rowF,if_neg (clean_ne hc),if_neg (fun h=>absurd h.1 (by show¬sComp=sChart;decide)),if_pos ⟨rfl,rfl⟩]
 show(reachOf (reachS x)).map RowP.comp=_
 rw [a1];rfl
theorem wit_row{w:Wt}{n:Nat}(hn:n≤3)(hw:w.fine n=true):clean (witF w)∧rowF (witF w)=some (.wit w):=by
 obtain⟨h1,h2⟩:=Wt.fine.pl hw
 obtain⟨_,h3,h4⟩:=Wt.fine.ok hw
 obtain⟨a1,a2,a3,a4,_⟩:=num_dec h1.1 h1.2
 obtain⟨b1,b2,b3,b4,_⟩:=num_dec h2.1 h2.2
 obtain⟨c1,c2,c3,c4,_⟩:=num_dec (n:=w.k) O O
 have hk:=words_find ⟨w.b.toNat,O⟩
 simp only at hk
 obtain⟨d1,d2,d3,d4⟩:=hk
 have hbn:((w.b.toNat:Nat):Int)=w.b:=O
 rw [hbn] at d1
 have hc:clean (witF w):=by
  refine⟨by simp [witF],fun y hy=>?_⟩
  simp only [witF,List.mem_cons,List.not_mem_nil,or_false] at hy
  rcases hy with rfl|rfl|rfl|rfl|rfl|rfl
  ·decide
  ·exact⟨a2,a3,a4⟩
  ·exact⟨b2,b3,b4⟩
  ·exact⟨d2,d3,d4⟩
  ·exact⟨c2,c3,c4⟩
  ·split<;>decide
 refine⟨hc, ?_⟩
 rw [rowF,if_neg (clean_ne hc),if_neg (fun h=>absurd h.1 (by show¬sWit=sChart;decide)),if_neg (fun h=>absurd h.1 (by show¬sWit=sComp;decide)),if_pos ⟨rfl,rfl⟩]
 show(if 0≤findL (wordsL.getD w.b.toNat []) wordsL∧((if w.sure then sSure else sMaybe)=sSure∨(if w.sure then sSure else sMaybe)=sMaybe) then(match numOf (decI w.s.e),numOf (decI w.s.n),numOf (decI w.k) with
   |some a,some b,some d=>some (RowP.wit ⟨⟨a,b⟩,findL (wordsL.getD w.b.toNat []) wordsL,d,decide ((if w.sure then sSure else sMaybe)=sSure)⟩)
   |_,_,_=>none) else none)=_
 rw [d1,a1,b1,c1,if_pos ⟨h3.1,by cases w.sure<;>simp⟩]
 have e:decide ((if w.sure then sSure else sMaybe)=sSure)=w.sure:=by cases w.sure<;>decide
 simp only [e]
def readRows:RSt→List RowP→Except Nat RSt
 |s, []=> .ok s
 |s,r::rs=>if badR s (some r) then .error (s.n+1) else readRows ⟨s.b.add r,s.n+1,r.place⟩ rs
theorem read_rows:∀ {ts:List (List UInt8)} {rs:List RowP} (s:RSt),ts.map (fun t=>rowL (trimSuf t [10]))=rs.map some→readR s ts=readRows s rs
 | [], [],s,_=>rfl
 | [],r::rs,s,h=>by simp at h
 |t::ts, [],s,h=>by simp at h
 |t::ts,r::rs,s,h=>by
  simp only [List.map_cons,List.cons.injEq] at h
  rw [readR,readRows,stepR,h.1]
  by_cases hb:badR s (some r)=true
  ·rw [if_pos hb,if_pos hb]
  ·rw [if_neg hb,if_neg hb]
   exact read_rows _ h.2
theorem rows_wits:∀ (l:List Wt) (s:RSt),1≤s.n→s.last≤2→∃s',readRows s (l.map .wit)= .ok s'∧s'.b={s.b with ws:=s.b.ws++l}∧1≤s'.n
 | [],s,h,_=>⟨s,rfl,by cases s;simp,h⟩
 |x::l,s,h,h2=>by
  obtain⟨s',h3,h4,h5⟩:=rows_wits l ⟨s.b.add (.wit x),s.n+1,2⟩ (by show 1≤s.n+1;omega) (Int.le_refl _)
  refine⟨s', ?_,by rw [h4];simp [Bk.add],h5⟩
  rw [List.map_cons,readRows,if_neg]
  ·exact h3
  ·have e:(s.n==0)=false:=by rw [beq_eq_false_iff_ne];omega
   have e2:decide ((RowP.wit x).place<s.last)=false:=by rw [dF];show¬(2:Int)<s.last;omega
   rw [badR,e,e2];simp [RowP.place]
theorem rows_comps:∀ (l:List Rc) (rest:List RowP) (s:RSt),1≤s.n→s.last≤1→∃s',readRows s (l.map .comp++rest)=readRows s' rest∧s'.b={s.b with cs:=s.b.cs++l}∧1≤s'.n∧s'.last≤1
 | [],rest,s,h,h2=>⟨s,rfl,by cases s;simp,h,h2⟩
 |x::l,rest,s,h,h2=>by
  obtain⟨s',h3,h4,h5⟩:=rows_comps l rest ⟨s.b.add (.comp x),s.n+1,1⟩ (by show 1≤s.n+1;omega) (Int.le_refl _)
  refine⟨s', ?_,by rw [h4];simp [Bk.add],h5⟩
  rw [List.map_cons,List.cons_append,readRows,if_neg]
  ·exact h3
  ·have e:(s.n==0)=false:=by rw [beq_eq_false_iff_ne];omega
   have e2:decide ((RowP.comp x).place<s.last)=false:=by rw [dF];show¬(1:Int)<s.last;omega
   rw [badR,e,e2];simp [RowP.place]
def rowsP(b:Bk):List RowP:= .chart b.w b.h b.f::(b.cs.map .comp++b.ws.map .wit)
theorem rows_book(b:Bk):∃s,readRows st0 (rowsP b)= .ok s∧s.b=b∧¬s.n=0:=by
 obtain⟨s1,h1,h2,h3,h4⟩:=rows_comps b.cs (b.ws.map .wit) ⟨st0.b.add (.chart b.w b.h b.f),1,0⟩ (Nat.le_refl _) (by show(0:Int)≤1;decide)
 obtain⟨s2,k1,k2,k3⟩:=rows_wits b.ws s1 h3 O
 refine⟨s2, ?_, ?_,O⟩
 ·rw [rowsP,readRows,if_neg (by simp [badR,RowP.place,st0])]
  exact h1.trans k1
 ·rw [k2,h2];simp [Bk.add,st0]
theorem readT_of{text:List UInt8}(h:(linesL text).map (fun t=>rowL (trimSuf t [10]))=(rowsP b).map some):readT text= .ok b:=by
 obtain⟨s,h1,h2,h3⟩:=rows_book b
 rw [readT,read_rows _ h,h1]
 show(if s.n=0 then Except.error 0 else Except.ok s.b)=_
 rw [if_neg h3,h2]
def rowsF(b:Bk):List (List (List UInt8)):=chartF b::(b.cs.map compF++b.ws.map witF)
theorem print_rows(b:Bk):printL b=(rowsF b).flatMap lineS:=by
 unfold printL rowsF
 rw [List.flatMap_cons,List.flatMap_append,List.flatMap_map,List.flatMap_map, ←List.append_assoc]
 rfl
theorem rowsF_ok(hb:b.good):(∀xs∈rowsF b,clean xs)∧(rowsF b).map rowF=(rowsP b).map some:=by
 have hc:=fun x hx=>comp_row (hb.cs x hx)
 have hw:=fun x hx=>wit_row (by have:=hb.nc;omega:b.cs.length≤3) (hb.ws x hx)
 constructor
 ·intro xs hx
  rcases List.mem_cons.1 hx with rfl|hx
  ·exact(chart_row hb).1
  ·rcases List.mem_append.1 hx with hx|hx
   ·obtain⟨x,h1,rfl⟩:=List.mem_map.1 hx;exact(hc x h1).1
   ·obtain⟨x,h1,rfl⟩:=List.mem_map.1 hx;exact(hw x h1).1
 ·unfold rowsF rowsP
  rw [List.map_cons,List.map_cons,(chart_row hb).2,List.map_append,List.map_append,List.map_map,List.map_map,List.map_map,List.map_map]
  congr 2
  ·exact List.map_congr_left fun x hx=>(hc x hx).2
  ·exact List.map_congr_left fun x hx=>(hw x hx).2
theorem read_print(hb:b.good):readT (printL b)= .ok b:=by
 obtain⟨h1,h2⟩:=rowsF_ok hb
 refine readT_of ?_
 have hl:=linesL_all2 (L:=rowsF b) [] h1
 rw [List.append_nil,linesL_nil,List.append_nil] at hl
 rw [print_rows,hl,List.map_map, ←h2]
 exact List.map_congr_left fun xs hx=>row_line (h1 xs hx)
theorem read_print1(hb:b.good):printL b≠ []∧readT ((printL b).take ((printL b).length-1))= .ok b:=by
 obtain⟨h1,h2⟩:=rowsF_ok hb
 obtain⟨A,z,hA⟩:∃A z,rowsF b=A++ [z]:=⟨_,_,(List.dropLast_concat_getLast (by simp [rowsF])).symm⟩
 have hz:clean z:=h1 z (by rw [hA];simp)
 have hp:printL b=(A.flatMap lineS++joinL [32] z)++ [10]:=by
  rw [print_rows,hA,List.flatMap_append,List.append_assoc];simp [lineS]
 have ht:(printL b).take ((printL b).length-1)=A.flatMap lineS++joinL [32] z:=by
  rw [hp,List.take_left' Zi]
 refine⟨by rw [hp];simp,readT_of ?_⟩
 rw [ht,linesL_all2 (L:=A) _ (fun xs hx=>h1 xs (by rw [hA];exact List.mem_append_left _ hx)),linesL_last (join_lf hz) (join_ne hz),List.map_append,List.map_map, ←h2,hA,List.map_append]
 congr 1
 ·exact List.map_congr_left fun xs hx=>row_line (h1 xs (by rw [hA];exact List.mem_append_left _ hx))
 ·exact congrArg (fun r=> [r]) (row_last hz)
theorem print_len(hb:b.good):(printL b).length≤1000:=by
 have h0:∀y∈chartF b,y.length≤5:=by
  have d1:=decI_len b.w
  have d2:=decI_len b.h
  have d3:=decI_len b.f
  intro y hy
  simp only [chartF,List.mem_cons,List.not_mem_nil,or_false] at hy
  rcases hy with rfl|rfl|rfl|rfl<;>first|decide|omega
 have h1:=(lineS_len _ h0).2
 have h2:=flat_bd compS (m:=17) b.cs (fun x=>by have:=(lineS_len _ (compS_mem x)).2;simpa [compS] using this)
 have h3:=flat_bd witS (m:=49) b.ws (fun x=>by have:=(lineS_len _ (witS_mem x)).2;simpa [witS] using this)
 have hnc:=hb.nc
 have hnw:=hb.nw
 unfold printL
 rw [List.length_append,List.length_append]
 have e:(lineS [sChart,decI b.w,decI b.h,decI b.f]).length≤25:=by simpa [chartF] using h1
 omega
end Go.Lg.B
namespace Go.Lg.B
open Go Go.Conc Go.Lg Go.Proofs Go.Proofs.Tryz
theorem eqT27n:IntT prog 9999 27 2 true:=IntT.struct runUnderlying27 Kr (.cons Dd rfl sizeOf3 isAgg3 (fun _=>rfl) (IntT.int runUnderlying3) (.cons Dd rfl sizeOf3 isAgg3 (fun _=>rfl) (IntT.int runUnderlying3) .nil))
theorem eqT3n:IntT prog 9999 3 1 false:=IntT.int runUnderlying3
theorem eqT4n(p q:Bool):Eq1 prog 9999 4 (.bool p) (.bool q) (p==q):=by
 intro M K hk
 show Sm prog M (Op.equalIn _ _ (.bool p) (.bool q)) K
 unfold Op.equalIn
 exact Sm.bind (Sm.underlying runUnderlying4 (Sm.pure hk))
def wtPart(w:Wt)(o:Nat):List Int×Bool:=if o=0 then([w.s.e,w.s.n],false) else if o=2 then([w.b],false) else if o=3 then([w.k],false) else([],w.sure)
theorem eq58(a b:Wt):Eq1 prog 10000 58 a.val b.val (decide (a=b)):=by
 intro M K hk
 show Sm prog M (Op.equalIn _ _ (.agg a.cells.toArray) (.agg b.cells.toArray)) K
 unfold Op.equalIn
 refine Sm.bind (Sm.underlying runUnderlying58 ?_)
 simp only
 refine Sm.bind (Sm.program ?_)
 simp only [show prog.stoodInHeld 58=false by kernel_rfl,Bool.false_eq_true,if_false]
 rw [←Array.forIn_toList]
 refine Sm.bind (Sm.forEq (fun f:Field=>decide (wtPart a f.offset=wtPart b f.offset)) _ (fun f hm s M K hk=>?_) _ _ ?_)
 ·have h0:Sub 0 2 a.cells (ints [a.s.e,a.s.n]):= .take (.take .nil)
  have h0':Sub 0 2 b.cells (ints [b.s.e,b.s.n]):= .take (.take .nil)
  simp only [List.mem_cons,List.not_mem_nil,or_false] at hm
  rcases hm with rfl|rfl|rfl|rfl
  ·rw [if_pos Dd]
   refine Sm.bind (Sm.partAgg isAgg27 sizeOf27 h0 (Sm.bind (Sm.partAgg isAgg27 sizeOf27 h0' (Sm.bind (eqT27n [a.s.e,a.s.n] [b.s.e,b.s.n] U U _ _ ?_)))))
   by_cases h: [a.s.e,a.s.n]= [b.s.e,b.s.n]
   ·rw [if_pos (by simpa [wtPart] using h)] at hk;rw [if_neg (by simpa using h)];exact Sm.pure hk
   ·rw [if_neg (fun e=>h (by simpa [wtPart] using e))] at hk;rw [if_pos (by rw [decide_eq_false h];rfl)];exact Sm.pure hk
  ·rw [if_pos Dd]
   refine Sm.bind (Sm.partOne (v:= .int .i64 a.b) isAgg3 U (Sm.bind (Sm.partOne (v:= .int .i64 b.b) isAgg3 U (Sm.bind (eqT3n [a.b] [b.b] U U _ _ ?_)))))
   by_cases h:a.b=b.b
   ·rw [if_pos (by simpa [wtPart] using h)] at hk;rw [if_neg (by simpa using h)];exact Sm.pure hk
   ·rw [if_neg (by simpa [wtPart] using h)] at hk;rw [if_pos (by simpa using h)];exact Sm.pure hk
  ·rw [if_pos Dd]
   refine Sm.bind (Sm.partOne (v:= .int .i64 a.k) isAgg3 U (Sm.bind (Sm.partOne (v:= .int .i64 b.k) isAgg3 U (Sm.bind (eqT3n [a.k] [b.k] U U _ _ ?_)))))
   by_cases h:a.k=b.k
   ·rw [if_pos (by simpa [wtPart] using h)] at hk;rw [if_neg (by simpa using h)];exact Sm.pure hk
   ·rw [if_neg (by simpa [wtPart] using h)] at hk;rw [if_pos (by simpa using h)];exact Sm.pure hk
  ·rw [if_pos Dd]
   refine Sm.bind (Sm.partOne (v:= .bool a.sure) isAgg4 U (Sm.bind (Sm.partOne (v:= .bool b.sure) isAgg4 U (Sm.bind (eqT4n a.sure b.sure _ _ ?_)))))
   by_cases h:a.sure=b.sure
   ·rw [if_pos (by simpa [wtPart] using h)] at hk;rw [if_neg (by simpa using h)];exact Sm.pure hk
   ·rw [if_neg (by simpa [wtPart] using h)] at hk;rw [if_pos (by simpa using h)];exact Sm.pure hk
 ·have e:a=b↔([a.s.e,a.s.n]= [b.s.e,b.s.n]∧a.b=b.b∧a.k=b.k∧a.sure=b.sure):=by
   obtain⟨⟨a1,a2⟩,a3,a4,a5⟩:=a
   obtain⟨⟨b1,b2⟩,b3,b4,b5⟩:=b
   simp [and_assoc]
  by_cases h:a=b
  ·subst h
   simp only [List.all_cons,List.all_nil,decide_true,Bool.and_self,if_true]
   exact Sm.pure (by simpa using hk)
  ·rw [if_neg (fun hall=>h (e.2 ?_))]
   ·rw [decide_eq_false h] at hk;exact Sm.pure hk
   ·simp only [List.all_cons,List.all_nil,Bool.and_true,Bool.and_eq_true,decide_eq_true_eq,wtPart] at hall
    simpa using hall
end Go.Lg.B
namespace Go.Lg
open Go Go.Conc
end Go.Lg
namespace Go.Lg.B
open Go Go.Conc Go.Lg Go.Proofs Go.Proofs.Tryz
section
variable {b:Bk}{v:Value}{ro:RO}
section
variable {main:Bool}{J:Goroutine→Mem→Prop}(hJ:Closed prog main J)
include hJ
theorem nearR_c(s:Sq)(ro:RO):CallP prog J (fnv 83) [s.val] ro (.bool (isPlace s)):=by
 refine CallP.intro hJ Kr fun c cs tail hret=>enter_X (n:=11) func83 U U (Nl U) ?_
 have C:Ctx prog main J (bf 83 .normal):=⟨hJ,by decide⟩
 refine Xr C U U<|R.box C U U U U fun p1=>Ad C U U<|Xr C U U<|Rf C 0 U U runUnderlying27 U sizeOf3<|Rl C U U isAgg3 V U<|R.callP C U U U U (betweenR_c hJ _ _ _ _)<|Rm C U U<|R.fix (t:=6) U (fun q1=>?_) (fun q1=>?_)
 ·refine Rf C 1 U U runUnderlying27 U sizeOf3<|Rl C U U isAgg3 V U<|R.callP C U U U U (betweenR_c hJ _ _ _ _)<|R.pickT C U U U U<|Ad C U U<|Xt C func83<|Hp hret ?_
  simp_all [isPlace,retVal]
 ·refine R.pass C U U<|R.pass C U U<|R.pass C U U<|R.pickF C U U U U<|Ad C U U<|Xt C func83<|Hp hret ?_
  simp_all [isPlace,retVal]
theorem insideR_c(x:Rc)(l m:Int)(ro:RO):CallP prog J (fnv 90) [x.val, .int .i64 l, .int .i64 m] ro (.bool (isReach x l m)):=by
 refine CallP.intro hJ Kr fun c cs tail hret=>enter_X (n:=24) func90 U U (Nl U) ?_
 have C:Ctx prog main J (bf 90 .normal):=⟨hJ,by decide⟩
 refine Xr C U U<|R.box C U U U U fun p3=>Ad C U U<|Xr C U U<|Rm C U U<|Rf C 0 U U runUnderlying46 U sizeOf3<|Rl C U U isAgg3 V U<|R.int C U U U U b_leq<|Rm C U U<|R.fix (t:=11) U (fun q1=>?_) (fun q1=>?_)
 ·refine Rf C 0 U U runUnderlying46 U sizeOf3<|Rl C U U isAgg3 V U<|Rf C 1 U U runUnderlying46 U sizeOf3<|Rl C U U isAgg3 V U<|R.int C U U U U b_leq<|R.pickT C U U U U<|Rm C U U<|R.fix (t:=18) U (fun q2=>?_) (fun q2=>?_)
  ·refine Rf C 1 U U runUnderlying46 U sizeOf3<|Rl C U U isAgg3 V U<|Rm C U U<|R.int C U U U U b_leq<|R.pickT C U U U U<|Ad C U U<|Xt C func90<|Hp hret ?_
   first|(simp_all [isReach,retVal];done)|(simp_all [isReach,retVal];omega)
  ·refine R.pass C U U<|R.pass C U U<|R.pass C U U<|R.pass C U U<|R.pickF C U U U U<|Ad C U U<|Xt C func90<|Hp hret ?_
   first|(simp_all [isReach,retVal];done)|(simp_all [isReach,retVal];omega)
 ·refine R.pass C U U<|R.pass C U U<|R.pass C U U<|R.pass C U U<|R.pass C U U<|R.pickF C U U U U<|Rm C U U<|R.pass C U U<|R.pass C U U<|R.pass C U U<|R.pass C U U<|R.pickF C U U U U<|Ad C U U<|Xt C func90<|Hp hret ?_
  first|(simp_all [isReach,retVal];done)|(simp_all [isReach,retVal];omega)
theorem isCompassR_c(hv:BkV ro v b)(hb:b.short)(k:Int):CallP prog J (fnv 91) [v, .int .i64 k] ro (.bool (between k 0 (b.cs.length-1))):=by
 obtain⟨vc,vw,rfl,hc,hw⟩:=hv
 obtain⟨h1,h2⟩:=hb
 obtain⟨b1,c1,rfl⟩:=hc.form
 refine CallP.intro hJ Kr fun c cs tail hret=>enter_X (n:=11) func91 U U (Nl U) ?_
 have C:Ctx prog main J (bf 91 .normal):=⟨hJ,by decide⟩
 refine Xr C U U<|R.box C U U U U fun p2=>Ad C U U<|Xr C U U<|Rm C U U<|Rf C 3 U U runUnderlying25 U sizeOf22<|Rl C U U isAgg22 V U<|Rn C U U runUnderlying22<|R.int C U U U U (b_sub O O)<|R.callP C U U U U (betweenR_c hJ _ _ _ _)<|Ad C U U<|Xt C func91<|Hp hret ?_
 simp_all [retVal]
theorem greatR_c(hv:BkV ro v b):CallP prog J (fnv 18) [v] ro (.bool (decide (20<b.cs.length)||decide (20<b.ws.length))):=by
 obtain⟨vc,vw,rfl,hc,hw⟩:=hv
 obtain⟨b1,c1,rfl⟩:=hc.form
 obtain⟨b2,c2,rfl⟩:=hw.form
 refine CallP.intro hJ Kr fun c cs tail hret=>enter_X (n:=13) func18 U U (Nl U) ?_
 have C:Ctx prog main J (bf 18 .normal):=⟨hJ,by decide⟩
 refine Xr C U U<|R.box C U U U U fun p1=>Ad C U U<|Xr C U U<|Rf C 3 U U runUnderlying25 U sizeOf22<|Rl C U U isAgg22 V U<|Rn C U U runUnderlying22<|R.int C U U U U b_gtr<|Rm C U U<|R.fix (t:=7) U (fun q1=>?_) (fun q1=>?_)
 ·refine R.pass C U U<|R.pass C U U<|R.pass C U U<|R.pass C U U<|R.pickT C U U U U<|Ad C U U<|Xt C func18<|Hp hret ?_
  (simp only [decide_eq_true_eq,decide_eq_false_iff_not,retVal] at*;refine congrArg Value.bool ?_;rw [Bool.eq_iff_iff];simp;try omega)
 ·refine Rf C 4 U U runUnderlying25 U sizeOf23<|Rl C U U isAgg23 V U<|Rn C U U runUnderlying23<|R.int C U U U U b_gtr<|R.pickF C U U U U<|Ad C U U<|Xt C func18<|Hp hret ?_
  (simp only [decide_eq_true_eq,decide_eq_false_iff_not,retVal] at*;refine congrArg Value.bool ?_;rw [Bool.eq_iff_iff];simp;try omega)
end
end
section
section
variable {main:Bool}{J:Goroutine→Mem→Prop}(hJ:Closed prog main J)
include hJ
theorem checkChartR_c{b:Bk}{v:Value}{ro:RO}(hv:BkV ro v b)(hs:b.short):CallP prog J (fnv 25) [v] ro (.int .i64 (checkChart b)):=by
 have hvv:=hv
 obtain⟨vc,vw,rfl,hc,hw⟩:=hv
 obtain⟨b1,c1,rfl⟩:=hc.form
 obtain⟨b2,c2,rfl⟩:=hw.form
 have hs0:=hs
 obtain⟨hs1,hs2⟩:=hs
 by_cases hch:b.chart=0
 ·have hch':between b.w 2 7=true∧between b.h 2 7=true∧between b.f 0 2=true:=by
   simp only [Bk.chart] at hch
   cases h1:between b.w 2 7<;>cases h2:between b.h 2 7<;>cases h3:between b.f 0 2<;>simp [h1,h2,h3] at hch⊢
  obtain⟨g1,g2,g3⟩:=hch'
  refine CallP.intro hJ Kr fun c cs tail hret=>enter_X (n:=82) func25 U U (Nl U) ?_
  have C:Ctx prog main J (bf 25 .normal):=⟨hJ,by decide⟩
  refine Xr C U U<|R.box C U U U U fun p1=>Ad C U U<|Xs C<|Xr C U U<|Rf C 0 U U runUnderlying25 U sizeOf3<|Rl C U U isAgg3 V U<|R.callP C U U U U (betweenR_c hJ _ _ _ _)<|R.not C U U U<|R.fixv (t:=10) (v':= .bool false) U (by(rw [g1];rfl))<|Rm C U U<|Rf C 1 U U runUnderlying25 U sizeOf3<|Rl C U U isAgg3 V U<|R.callP C U U U U (betweenR_c hJ _ _ _ _)<|R.not C U U U<|R.fixv (t:=15) (v':= .bool false) U (by(rw [g2];rfl))<|R.pickF C U U U U<|Rm C U U<|Rf C 2 U U runUnderlying25 U sizeOf3<|Rl C U U isAgg3 V U<|R.callP C U U U U (betweenR_c hJ _ _ _ _)<|R.not C U U U<|R.fixv (t:=21) (v':= .bool false) U (by(rw [g3];rfl))<|R.pickF C U U U U<|R.done C<|X.cond C.1 U (fun h=>nomatch h) (fun _=>?_)
  refine X.skip C.1<|Xs C<|Xr C U U<|Rf C 3 U U runUnderlying25 U sizeOf22<|Rl C U U isAgg22 V U<|Rn C U U runUnderlying22<|R.callP C U U U U (betweenR_c hJ _ _ _ _)<|R.not C U U U<|R.done C<|X.cond C.1 U (fun hn=>?_) (fun hn=>?_)
  ·refine Xr C U U<|Ad C U U<|Xt C func25<|Hp hret ?_
   simp only [checkChart,hch,Bk.compassesH]
   simp_all [retVal]
  ·have hn':between (b.cs.length:Int) 1 3=true:=by simpa using hn
   refine X.skip C.1<|Xs C<|Xr C U U<|Ad C U U<|X.block C.1<|X.loopI (ι:=Nat) C.1 (fun i=>i≤b.cs.length∧csH (b.cs.drop i)=csH b.cs) (fun i=> [(1, .pointer (some ⟨p1,0,none⟩)),(3, .int .i64 (i:Int))])
    (fun _=>⟨ro,(p1, .cells [.int .i64 b.w, .int .i64 b.h, .int .i64 b.f, .slice b1 b.cs.length c1, .slice b2 b.ws.length c2].toArray 25 (0,0))::tail⟩) (fun i=>b.cs.length-i) 0 ⟨Nat.zero_le _,rfl⟩ rfl ⟨U,U,trivial⟩ fun i hi hnext=>?_
   obtain⟨hi,hr⟩:=hi
   refine Xs C<|Xr C U U<|Rm C U U<|Rf C 3 U U runUnderlying25 U sizeOf22<|Rl C U U isAgg22 V U<|Rn C U U runUnderlying22<|R.int C U U U U b_lss<|R.done C<|Xk C U (fun hlt=>?_) (fun hlt=>?_)
   ·have hi':i<b.cs.length:=O
    obtain⟨p,off,cap,l,t,fq,hsl,hrop,hsub⟩:=hc.at Rc.len O
    cases hsl
    rw [List.drop_eq_getElem_cons hi'] at hr
    simp only [csH] at hr
    refine X.skip C.1<|Xs C<|X.block C.1<|Xr C U U<|Rf C 3 U U runUnderlying25 U sizeOf22<|Rl C U U isAgg22 V U<|Rm C U U<|Rx C U U U runUnderlying22 sizeOf46<|R.loadAggRo C U U U isAgg46 sizeOf46 hrop (hsub i hi')<|R.alloc C U U zeroValue46 U fun p4=>?_;refine R.store C U U U U sizeOf46 U U U V Ph2<|R.done C<|Xr C U U<|R5 C U U isAgg46 sizeOf46 V Tk2<|R.callP C U U U U (insideR_c hJ b.cs[i] _ _ _)<|R.not C U U U<|Rm C U U<|R.fix (t:=43) U (fun hg=>?_) (fun hg=>?_)
    ·have hf:(b.cs[i]).fine=false:=by simp at hg;simp [Rc.fine,hg]
     simp [hf] at hr
     refine R.pass C U U<|R.pass C U U<|R.pass C U U<|R.pass C U U<|R.pass C U U<|R.pass C U U<|R.pickT C U U U U<|R.done C<|X.cond C.1 U (fun _=>?_) (fun h=>nomatch h)
     refine Xr C U U<|Ad C U U<|Xt C func25<|Hp hret ?_
     simp [checkChart,hch,Bk.compassesH,hn',retVal, ←hr]
    ·have hbd:=isReach_bd (x:=b.cs[i]) (by simpa using hg)
     refine Rf C 1 U U runUnderlying46 U sizeOf3<|Rl C U U isAgg3 V U<|Rf C 0 U U runUnderlying46 U sizeOf3<|Rl C U U isAgg3 V U<|R.int C U U U U (b_sub O O)<|R.int C U U U U b_geq<|R.pickF C U U U U<|R.done C<|X.cond C.1 U (fun hd=>?_) (fun hd=>?_)
     ·have hf:(b.cs[i]).fine=false:=by simp at hd;simp [Rc.fine];intro _;omega
      simp [hf] at hr
      refine Xr C U U<|Ad C U U<|Xt C func25<|Hp hret ?_
      simp [checkChart,hch,Bk.compassesH,hn',retVal, ←hr]
     ·refine X.skip C.1<|X.inBlock C.1<|X.region C U U<|Rm C U U<|Ra C U U U<|Ad C U U ?_
      have hf:(b.cs[i]).fine=true:=by simp at hd hg;simp [Rc.fine,hg];omega
      simp [hf] at hr
      refine X.weak C.1 (Weak.sub (List.sublist_cons_self _ _)) (X.weaken ?_ (hnext (i+1) ⟨O,hr⟩ O))
      exact⟨rfl,by simp [look],trivial⟩
   ·obtain rfl:i=b.cs.length:=by omega
    have hcs:b.compassesH=0:=by simp [csH] at hr;simp [Bk.compassesH,hn', ←hr]
    have hcc:checkChart b=b.witnessesH:=by simp [checkChart,hch,hcs]
    refine X.exit C.1 U<|Xs C<|Xr C U U<|Rf C 4 U U runUnderlying25 U sizeOf23<|Rl C U U isAgg23 V U<|Rn C U U runUnderlying23<|R.int C U U U U b_gtr<|R.done C<|X.cond C.1 U (fun h5=>?_) (fun h5=>?_)
    ·refine Xr C U U<|Ad C U U<|Xt C func25<|Hp hret ?_
     simp at h5
     rw [hcc]
     simp [Bk.witnessesH,retVal];omega
    ·simp at h5
     refine X.skip C.1<|Xs C<|Xr C U U<|Ad C U U<|X.block C.1<|X.loopI (ι:=Nat) C.1 (fun i=>i≤b.ws.length∧wtsH b.cs.length (b.ws.drop i)=wtsH b.cs.length b.ws) (fun i=> [(1, .pointer (some ⟨p1,0,none⟩)),(5, .int .i64 (i:Int))])
      (fun _=>⟨ro,(p1, .cells [.int .i64 b.w, .int .i64 b.h, .int .i64 b.f, .slice b1 b.cs.length c1, .slice b2 b.ws.length c2].toArray 25 (0,0))::tail⟩) (fun i=>b.ws.length-i) 0 ⟨Nat.zero_le _,rfl⟩ rfl ⟨U,U,trivial⟩ fun i hi hnext2=>?_
     obtain⟨hi,hr⟩:=hi
     refine Xs C<|Xr C U U<|Rm C U U<|Rf C 4 U U runUnderlying25 U sizeOf23<|Rl C U U isAgg23 V U<|Rn C U U runUnderlying23<|R.int C U U U U b_lss<|R.done C<|Xk C U (fun hlt2=>?_) (fun hlt2=>?_)
     ·have hi':i<b.ws.length:=O
      obtain⟨p,off,cap,l,t,fq,hsl,hrop,hsub⟩:=hw.at Wt.len O
      cases hsl
      rw [List.drop_eq_getElem_cons hi'] at hr
      simp only [wtsH] at hr
      refine X.skip C.1<|Xs C<|X.block C.1<|Xr C U U<|Rf C 4 U U runUnderlying25 U sizeOf23<|Rl C U U isAgg23 V U<|Rm C U U<|Rx C U U U runUnderlying23 sizeOf58<|R.loadAggRo C U U U isAgg58 sizeOf58 hrop (hsub i hi')<|R.alloc C U U zeroValue58 U fun p6=>?_;refine R.store C U U U U sizeOf58 U U U V Ph5<|R.done C<|Xs C<|Xr C U U<|Rf C 0 U U runUnderlying58 U sizeOf27<|R5 C U U isAgg27 sizeOf27 V Tk2<|R.callP C U U U U (nearR_c hJ (b.ws[i]).s _)<|R.not C U U U<|Rm C U U<|R.fix (t:=71) U (fun hg2=>?_) (fun hg2=>?_)
      ·refine R.pass C U U<|R.pass C U U<|R.pass C U U<|R.pass C U U<|R.pickT C U U U U<|R.done C<|X.cond C.1 U (fun _=>?_) (fun h=>nomatch h)
       refine Xr C U U<|Ad C U U<|Xt C func25<|Hp hret ?_
       simp at hg2
       simp [hg2] at hr
       rw [hcc]
       simp [Bk.witnessesH,retVal, ←hr];omega
      ·refine Rf C 2 U U runUnderlying58 U sizeOf3<|Rl C U U isAgg3 V U<|R.callP C U U U U (betweenR_c hJ _ _ _ _)<|R.not C U U U<|R.pickF C U U U U<|R.done C<|X.cond C.1 U (fun hd=>?_) (fun hd=>?_)
       ·refine Xr C U U<|Ad C U U<|Xt C func25<|Hp hret ?_
        simp at hg2 hd
        simp [hg2,hd] at hr
        rw [hcc]
        simp [Bk.witnessesH,retVal, ←hr];omega
       ·refine X.skip C.1<|Xr C U U<|R5 C U U isAgg25 sizeOf25 V Tk5<|Rf C 3 U U runUnderlying58 U sizeOf3<|Rl C U U isAgg3 V U<|R.callP C U U U U (isCompassR_c hJ hvv hs0 _)<|R.not C U U U<|R.done C<|X.cond C.1 U (fun hk=>?_) (fun hk=>?_)
        ·refine Xr C U U<|Ad C U U<|Xt C func25<|Hp hret ?_
         simp at hg2 hd hk
         simp [hg2,hd,there,hk] at hr
         rw [hcc]
         simp [Bk.witnessesH,retVal, ←hr];omega
        ·refine X.skip C.1<|X.inBlock C.1<|X.region C U U<|Rm C U U<|Ra C U U U<|Ad C U U ?_
         simp at hg2 hd hk
         simp [hg2,hd,there,hk] at hr
         refine X.weak C.1 (Weak.sub (List.sublist_cons_self _ _)) (X.weaken ?_ (hnext2 (i+1) ⟨O,hr⟩ O))
         exact⟨rfl,by simp [look],trivial⟩
     ·obtain rfl:i=b.ws.length:=by omega
      simp [wtsH] at hr
      refine X.exit C.1 U<|Xr C U U<|Ad C U U<|Xt C func25<|Hp hret ?_
      rw [hcc]
      simp [Bk.witnessesH,retVal, ←hr];omega
 ·have hone:b.chart=1:=by
   simp only [Bk.chart] at hch⊢
   split at hch
   ·rename_i h;rw [if_pos h]
   ·exact absurd rfl hch
  have hcc:checkChart b=1:=by rw [checkChart,if_pos hch,hone]
  have hany:(!between b.w 2 7|| !between b.h 2 7|| !between b.f 0 2)=true:=by
   simp only [Bk.chart] at hch
   split at hch
   ·assumption
   ·exact absurd rfl hch
  by_cases g1:between b.w 2 7=true
  ·by_cases g2:between b.h 2 7=true
   ·have g3:between b.f 0 2=false:=by simpa [g1,g2] using hany
    refine CallP.intro hJ Kr fun c cs tail hret=>enter_X (n:=82) func25 U U (Nl U) ?_
    have C:Ctx prog main J (bf 25 .normal):=⟨hJ,by decide⟩
    refine Xr C U U<|R.box C U U U U fun p1=>Ad C U U<|Xs C<|Xr C U U<|Rf C 0 U U runUnderlying25 U sizeOf3<|Rl C U U isAgg3 V U<|R.callP C U U U U (betweenR_c hJ _ _ _ _)<|R.not C U U U<|R.fixv (t:=10) (v':= .bool false) U (by(rw [g1];rfl))<|Rm C U U<|Rf C 1 U U runUnderlying25 U sizeOf3<|Rl C U U isAgg3 V U<|R.callP C U U U U (betweenR_c hJ _ _ _ _)<|R.not C U U U<|R.fixv (t:=15) (v':= .bool false) U (by(rw [g2];rfl))<|R.pickF C U U U U<|Rm C U U<|Rf C 2 U U runUnderlying25 U sizeOf3<|Rl C U U isAgg3 V U<|R.callP C U U U U (betweenR_c hJ _ _ _ _)<|R.not C U U U<|R.fixv (t:=21) (v':= .bool true) U (by(rw [g3];rfl))<|R.pickF C U U U U<|R.done C<|X.cond C.1 U (fun _=>?_) (fun h=>nomatch h)
    refine Xr C U U<|Ad C U U<|Xt C func25<|Hp hret ?_
    rw [hcc];rfl
   ·have g2:between b.h 2 7=false:=by simpa using g2
    refine CallP.intro hJ Kr fun c cs tail hret=>enter_X (n:=82) func25 U U (Nl U) ?_
    have C:Ctx prog main J (bf 25 .normal):=⟨hJ,by decide⟩
    refine Xr C U U<|R.box C U U U U fun p1=>Ad C U U<|Xs C<|Xr C U U<|Rf C 0 U U runUnderlying25 U sizeOf3<|Rl C U U isAgg3 V U<|R.callP C U U U U (betweenR_c hJ _ _ _ _)<|R.not C U U U<|R.fixv (t:=10) (v':= .bool false) U (by(rw [g1];rfl))<|Rm C U U<|Rf C 1 U U runUnderlying25 U sizeOf3<|Rl C U U isAgg3 V U<|R.callP C U U U U (betweenR_c hJ _ _ _ _)<|R.not C U U U<|R.fixv (t:=15) (v':= .bool true) U (by(rw [g2];rfl))<|R.pickF C U U U U<|Rm C U U<|R.pass C U U<|R.pass C U U<|R.pass C U U<|R.pass C U U<|R.pickT C U U U U<|R.done C<|X.cond C.1 U (fun _=>?_) (fun h=>nomatch h)
    refine Xr C U U<|Ad C U U<|Xt C func25<|Hp hret ?_
    rw [hcc];rfl
  ·have g1:between b.w 2 7=false:=by simpa using g1
   refine CallP.intro hJ Kr fun c cs tail hret=>enter_X (n:=82) func25 U U (Nl U) ?_
   have C:Ctx prog main J (bf 25 .normal):=⟨hJ,by decide⟩
   refine Xr C U U<|R.box C U U U U fun p1=>Ad C U U<|Xs C<|Xr C U U<|Rf C 0 U U runUnderlying25 U sizeOf3<|Rl C U U isAgg3 V U<|R.callP C U U U U (betweenR_c hJ _ _ _ _)<|R.not C U U U<|R.fixv (t:=10) (v':= .bool true) U (by(rw [g1];rfl))<|Rm C U U<|R.pass C U U<|R.pass C U U<|R.pass C U U<|R.pass C U U<|R.pickT C U U U U<|Rm C U U<|R.pass C U U<|R.pass C U U<|R.pass C U U<|R.pass C U U<|R.pickT C U U U U<|R.done C<|X.cond C.1 U (fun _=>?_) (fun h=>nomatch h)
   refine Xr C U U<|Ad C U U<|Xt C func25<|Hp hret ?_
   rw [hcc];rfl
end
end
section
def ext(most:Int)(i:Nat)(l:List (List Int)):List (List Int):=(l.filter fun x=>decide ((x.length:Int)<most)).map fun x=>x++ [(i:Int)]
abbrev LE:=Value×List Int
def le(p:LE):List Value:= [p.1]
end
section
abbrev CE:=(Value×Value)×Cs
def ce(p:CE):List Value:= [.int .i64 p.2.s.e, .int .i64 p.2.s.n,p.1.1,p.1.2]
def LC(ro:RO)(v:Value)(l:List Cs):Prop:= ∃xs:List CE,Ls ce 4 ro v xs∧xs.map (·.2)=l∧∀p∈xs,LsI ro p.1.1 p.2.o∧LsI ro p.1.2 p.2.f
theorem flat_take{α β:Type}(f:α→List β)(l:List α){i:Nat}(h:i<l.length):(l.take (i+1)).flatMap f=(l.take i).flatMap f++f l[i]:=by
 rw [List.take_add_one,List.getElem?_eq_getElem h,List.flatMap_append];simp
end
section
theorem LC.mono{ro ro':RO}{v:Value}{l:List Cs}(h:LC ro v l)(hl:ro.le ro'):LC ro' v l:=by
 obtain⟨xs,h1,h2,h3⟩:=h
 exact⟨xs,h1.mono hl,h2,fun p hp=>⟨(h3 p hp).1.mono hl,(h3 p hp).2.mono hl⟩⟩
end
section
section
variable {main:Bool}{J:Goroutine→Mem→Prop}(hJ:Closed prog main J)
include hJ
theorem sameR_c{b1 b2:Bk}{v1 v2:Value}{ro:RO}(hv1:BkV ro v1 b1)(hv2:BkV ro v2 b2)(he:b1=b2)(hs:b1.short):CallP prog J (fnv 42) [v1,v2] ro (.bool true):=by
 subst he
 obtain⟨vc,vw,rfl,hc,hw⟩:=hv1
 obtain⟨vc2,vw2,rfl,hc2,hw2⟩:=hv2
 obtain⟨cb,cc,rfl⟩:=hc.form
 obtain⟨wb,wc,rfl⟩:=hw.form
 obtain⟨cb2,cc2,rfl⟩:=hc2.form
 obtain⟨wb2,wc2,rfl⟩:=hw2.form
 obtain⟨hs1,hs2⟩:=hs
 refine CallP.intro hJ Kr fun c cs tail hret=>enter_X (n:=80) func42 U U (Nl U) ?_
 have C:Ctx prog main J (bf 42 .normal):=⟨hJ,by decide⟩
 refine Xr C U U<|R.box C U U U U fun p2=>R.box C U U U U fun p3=>Ad C U U<|Xs C<|Xr C U U<|Rf C 0 U U runUnderlying25 U sizeOf3<|Rl C U U isAgg3 V U<|Rf C 0 U U runUnderlying25 U sizeOf3<|Rl C U U isAgg3 V U<|R.int C U U U U b_neq<|R.fixv (t:=11) (v':= .bool false) U (by(exact congrArg Value.bool Zi))<|Rm C U U<|Rf C 1 U U runUnderlying25 U sizeOf3<|Rl C U U isAgg3 V U<|Rf C 1 U U runUnderlying25 U sizeOf3<|Rl C U U isAgg3 V U<|R.int C U U U U b_neq<|R.fixv (t:=17) (v':= .bool false) U (by(exact congrArg Value.bool Zi))<|R.pickF C U U U U<|Rm C U U<|Rf C 2 U U runUnderlying25 U sizeOf3<|Rl C U U isAgg3 V U<|Rf C 2 U U runUnderlying25 U sizeOf3<|Rl C U U isAgg3 V U<|R.int C U U U U b_neq<|R.fixv (t:=24) (v':= .bool false) U (by(exact congrArg Value.bool Zi))<|R.pickF C U U U U<|Rm C U U<|Rf C 3 U U runUnderlying25 U sizeOf22<|Rl C U U isAgg22 V U<|Rn C U U runUnderlying22<|Rf C 3 U U runUnderlying25 U sizeOf22<|Rl C U U isAgg22 V U<|Rn C U U runUnderlying22<|R.int C U U U U b_neq<|R.fixv (t:=33) (v':= .bool false) U (by(exact congrArg Value.bool Zi))<|R.pickF C U U U U<|Rm C U U<|Rf C 4 U U runUnderlying25 U sizeOf23 ?_;refine Rl C U U isAgg23 V U<|Rn C U U runUnderlying23<|Rf C 4 U U runUnderlying25 U sizeOf23<|Rl C U U isAgg23 V U<|Rn C U U runUnderlying23<|R.int C U U U U b_neq<|R.fixv (t:=42) (v':= .bool false) U (by(exact congrArg Value.bool Zi))<|R.pickF C U U U U<|R.done C<|X.cond C.1 U (fun h=>nomatch h) (fun _=>?_)
 refine X.skip C.1<|Xs C<|Xr C U U<|Ad C U U<|X.block C.1<|X.loopI (ι:=Nat) C.1 (fun i=>i≤b1.cs.length) (fun i=> [(2, .pointer (some ⟨p2,0,none⟩)),(3, .pointer (some ⟨p3,0,none⟩)),(5, .int .i64 (i:Int))])
  (fun _=>⟨ro,(p3, .cells [.int .i64 b1.w, .int .i64 b1.h, .int .i64 b1.f, .slice cb2 b1.cs.length cc2, .slice wb2 b1.ws.length wc2].toArray 25 (0,0))::(p2, .cells [.int .i64 b1.w, .int .i64 b1.h, .int .i64 b1.f, .slice cb b1.cs.length cc, .slice wb b1.ws.length wc].toArray 25 (0,0))::tail⟩) (fun i=>b1.cs.length-i) 0 (Nat.zero_le _) rfl ⟨U,U,U,trivial⟩ fun i hi hnext=>?_
 refine Xs C<|Xr C U U<|Rm C U U<|Rf C 3 U U runUnderlying25 U sizeOf22<|Rl C U U isAgg22 V U<|Rn C U U runUnderlying22<|R.int C U U U U b_lss<|R.done C<|Xk C U (fun hlt=>?_) (fun hlt=>?_)
 ·have hi':i<b1.cs.length:=O
  obtain⟨p,off,cap,l,t,fq,hsl,hrop,hsub⟩:=hc.at Rc.len O
  cases hsl
  obtain⟨p',off',cap',l',t',fq',hsl',hrop',hsub'⟩:=hc2.at Rc.len O
  cases hsl'
  refine X.skip C.1<|Xs C<|X.block C.1<|Xs C<|Xd C fun hok=>Df (off':=3) C 0 hok U U U runUnderlying25 U sizeOf22 U<|D1 C 1 hok U U isAgg22 V U<|Dm C 2 hok U U U<|Dx C 3 hok U U U runUnderlying22 sizeOf46<|Dl 4 hok (fun _ _ A h=>R.loadAggRo C U (A.w U U) (A.x U U) isAgg46 sizeOf46 hrop (hsub i hi') h)<|Df (off':=3) C 5 hok U U U runUnderlying25 U sizeOf22 U<|D1 C 6 hok U U isAgg22 V U<|Dm C 7 hok U U U<|Dx C 8 hok U U U runUnderlying22 sizeOf46<|Dl 9 hok (fun _ _ A h=>R.loadAggRo C U (A.w U U) (A.x U U) isAgg46 sizeOf46 hrop' (hsub' i hi') h)<|Dp 10 hok (fun _ _ _ A h=>R.neAgg (p:= [b1.cs[i].lo,b1.cs[i].hi]) (q:= [b1.cs[i].lo,b1.cs[i].hi]) C U (A.w U U) (A.x U U) (A.x U U) eqT46 U U Kr h)<|D.fixv (t:=61) (v':= .bool false) U (by(exact congrArg Value.bool Zi))<|D.done C hok Kr<|X.cond C.1 U (fun h=>nomatch h) (fun _=>?_)
  refine X.skip C.1<|X.inBlock C.1<|X.region C U U<|Rm C U U<|Ra C U U U<|Ad C U U<|X.weaken ?_ (hnext (i+1) hi' O)
  exact⟨rfl,rfl,by simp [look],trivial⟩
 ·refine X.exit C.1 U<|Xs C<|Xr C U U<|Ad C U U<|X.block C.1<|X.loopI (ι:=Nat) C.1 (fun i=>i≤b1.ws.length) (fun i=> [(2, .pointer (some ⟨p2,0,none⟩)),(3, .pointer (some ⟨p3,0,none⟩)),(6, .int .i64 (i:Int))])
   (fun _=>⟨ro,(p3, .cells [.int .i64 b1.w, .int .i64 b1.h, .int .i64 b1.f, .slice cb2 b1.cs.length cc2, .slice wb2 b1.ws.length wc2].toArray 25 (0,0))::(p2, .cells [.int .i64 b1.w, .int .i64 b1.h, .int .i64 b1.f, .slice cb b1.cs.length cc, .slice wb b1.ws.length wc].toArray 25 (0,0))::tail⟩) (fun i=>b1.ws.length-i) 0 (Nat.zero_le _) rfl ⟨U,U,U,trivial⟩ fun i hi hnext2=>?_
  refine Xs C<|Xr C U U<|Rm C U U<|Rf C 4 U U runUnderlying25 U sizeOf23<|Rl C U U isAgg23 V U<|Rn C U U runUnderlying23<|R.int C U U U U b_lss<|R.done C<|X.cond C.1 U (fun hlt2=>?_) (fun hlt2=>?_)
  ·simp only [dT] at hlt2
   have hi':i<b1.ws.length:=O
   obtain⟨p,off,cap,l,t,fq,hsl,hrop,hsub⟩:=hw.at Wt.len O
   cases hsl
   obtain⟨p',off',cap',l',t',fq',hsl',hrop',hsub'⟩:=hw2.at Wt.len O
   cases hsl'
   refine X.skip C.1<|Xs C<|X.block C.1<|Xs C<|Xd C fun hok=>Df (off':=4) C 0 hok U U U runUnderlying25 U sizeOf23 U<|D1 C 1 hok U U isAgg23 V U<|Dm C 2 hok U U U<|Dx C 3 hok U U U runUnderlying23 sizeOf58<|Dl 4 hok (fun _ _ A h=>R.loadAggRo C U (A.w U U) (A.x U U) isAgg58 sizeOf58 hrop (hsub i hi') h)<|Df (off':=4) C 5 hok U U U runUnderlying25 U sizeOf23 U<|D1 C 6 hok U U isAgg23 V U<|Dm C 7 hok U U U<|Dx C 8 hok U U U runUnderlying23 sizeOf58<|Dl 9 hok (fun _ _ A h=>R.loadAggRo C U (A.w U U) (A.x U U) isAgg58 sizeOf58 hrop' (hsub' i hi') h)<|Dp 10 hok (fun _ _ _ A h=>R.neEq C U (A.w U U) (A.x U U) (A.x U U) (eq58 b1.ws[i] b1.ws[i]) Kr h)<|D.fixv (t:=79) (v':= .bool false) U (by(exact congrArg Value.bool Zi))<|D.done C hok Kr<|X.cond C.1 U (fun h=>nomatch h) (fun _=>?_)
   refine X.skip C.1<|X.inBlock C.1<|X.region C U U<|Rm C U U<|Ra C U U U<|Ad C U U<|X.weaken ?_ (hnext2 (i+1) hi' O)
   exact⟨rfl,rfl,by simp [look],trivial⟩
  ·refine X.exit C.1 U<|Xr C U U<|Ad C U U<|Xt C func42<|Hp hret ?_
   rfl
end
end
end Go.Lg.B
namespace Go.Lg.B
open Go Go.Conc Go.Lg Go.Proofs Go.Lg.S Go.Proofs.Tryz
theorem back_root{b:Bk}{vb:Value}{ro:RO}(he:Env ro)(hw:EnvW ro)(hp:EnvP ro)(hv:BkV ro vb b):Root prog 17 [vb] ro (fun w _=>w= .bool true):=by
 intro Post hret
 have hJ:Closed prog true (JM prog (Go.Conc.Good prog Post)):=JM.closed
 have hvv:=hv
 obtain⟨vc,vw,rfl,hcc,hww⟩:=hv
 obtain⟨cb,cc,rfl⟩:=hcc.form
 obtain⟨wb,wc,rfl⟩:=hww.form
 let main:=true
 let J:=JM prog (Go.Conc.Good prog Post)
 refine enter_X (n:=76) func17 U U (Nl U) ?_
 have C:Ctx prog main J (bf 17 .normal):=⟨hJ,by decide⟩
 refine Xr C U U<|R.box C U U U U fun p1=>Ad C U U<|Xs C<|Xr C U U<|R5 C U U isAgg25 sizeOf25 V Tk5<|R.callP C U U U U (greatR_c hJ (by assumption))<|R.done C<|X.cond C.1 U (fun hfit=>?_) (fun hfit=>?_)
 ·refine Xr C U U<|R.callR C U U U U ((found_c _ he)) fun v9 ro9 hl9 hq9=>Ad C U U<|X.ret0 C Kr U U func17 U (by exact(.tmp U .nil)) fun w9 hs9=>hret _ _ _ hl9 ?_ w9 hs9
  exact hq9
 ·simp at hfit
  have hsh:b.short:=⟨O,O⟩
  refine X.skip C.1<|Xr C U U<|R5 C U U isAgg25 sizeOf25 V Tk5<|R.callR C U U U U ((print_c hJ he hw hp hvv hsh)) fun w1 ro1 hl1 hp1=>?_
  by_cases h0:checkChart b=0
  ·rw [if_pos h0] at hp1
   subst hp1
   have hg:=good_iff.1 h0
   obtain⟨hne,hr1⟩:=read_print1 hg
   have hr0:=read_print hg
   have hpl:=print_len hg
   have hpos:0<(printL b).length:=List.length_pos_iff.2 hne
   generalize printL b=text at hr0 hr1 hpl hpos hne
   refine Rm C U U<|R.ext C U U U U<|R.ext C U U U U<|R.asg C U U U<|Ad C U U<|Xs C<|Xr C U U<|R5 C U U isAgg25 sizeOf25 V Tk5<|R.callP C U U U U ((checkChartR_c hJ (hvv.mono hl1) hsh))<|R.int C U U U U b_neq<|R.fixv (t:=17) (v':= .bool false) U (by(exact congrArg Value.bool (by rw [h0];rfl)))<|R.done C<|X.cond C.1 U (fun h=>nomatch h) (fun _=>?_)
   refine X.skip C.1<|Xs C<|Xr C U U<|Rm C U U<|R.int C U U U U b_neq<|R.fixv (t:=28) (v':= .bool false) U (by rfl)<|Rm C U U<|Rm C U U<|R.sLen C U U U runUnderlying9<|R.int C U U U U b_eql<|R.fixv (t:=32) (v':= .bool false) U (Bv (by rw [beq_eq_false_iff_ne];omega)) ?_;refine R.pickF C U U U U<|R.done C<|X.cond C.1 U (fun h=>nomatch h) (fun _=>?_)
   refine X.skip C.1<|Xr C U U<|Rm C U U<|R.callR C U U U U ((parse_c hJ (he.mono hl1) (hw.mono hl1) O hr0 hsh)) fun w2 ro2 hl2 hp2=>?_
   unfold parseV at hp2
   rw [if_pos h0] at hp2
   obtain⟨v2,rfl,hv2⟩:=hp2
   have hvv2:=hv2
   obtain⟨vc2,vw2,rfl,hc2,hw2⟩:=hv2
   obtain⟨cb2,cc2,rfl⟩:=hc2.form
   obtain⟨wb2,wc2,rfl⟩:=hw2.form
   have hL2:=RO.le_trans hl1 hl2
   refine Rm C U U<|R.ext C U U U U<|R.ext C U U U U<|R.ext C U U U U<|R.alloc C U U zeroValue25 U fun p5=>?_;refine R.store C U U U U sizeOf25 U U U V Ph5<|R.asg C U U U<|Ad C U U<|Xs C<|Xr C U U<|Rm C U U<|R.int C U U U U b_neq<|R.fixv (t:=41) (v':= .bool false) U (by rfl)<|Rm C U U<|Rm C U U<|R.int C U U U U b_neq<|R.fixv (t:=44) (v':= .bool false) U (by rfl)<|R.pickF C U U U U<|Rm C U U<|R5 C U U isAgg25 sizeOf25 V Tk5<|R5 C U U isAgg25 sizeOf25 V Tk5<|R.callP C U U U U ((sameR_c hJ hvv2 (hvv.mono hL2) U hsh))<|R.not C U U U<|R.fixv (t:=50) (v':= .bool false) U (by rfl)<|R.pickF C U U U U<|R.done C<|X.cond C.1 U (fun h=>nomatch h) (fun _=>?_)
   refine X.skip C.1<|Xr C U U<|Rm C U U<|Rm C U U<|R.sLen C U U U runUnderlying9<|R.int C U U U U (b_sub O O)<|R.sTo C U U U U runUnderlying9 O O<|R.fixv (t:=57) (v':=strV (text.take (text.length-1))) U (by(rw [show((text.length:Int) -1).toNat=text.length-1 by omega]))<|R.callR C U U U U ((parse_c hJ (he.mono hL2) (hw.mono hL2) (by rw [List.length_take];omega) hr1 hsh)) fun w3 ro3 hl3 hp3=>?_
   unfold parseV at hp3
   rw [if_pos h0] at hp3
   obtain⟨v3,rfl,hv3⟩:=hp3
   have hvv3:=hv3
   obtain⟨vc3,vw3,rfl,hc3,hw3⟩:=hv3
   obtain⟨cb3,cc3,rfl⟩:=hc3.form
   obtain⟨wb3,wc3,rfl⟩:=hw3.form
   have hL3:=RO.le_trans hL2 hl3
   refine Rm C U U<|R.ext C U U U U<|R.ext C U U U U<|R.ext C U U U U<|R.store C U U U U sizeOf25 U U U V Ph5<|R.asg C U U U<|Ad C U U<|Xr C U U<|Rm C U U<|R.int C U U U U b_eql<|R.fixv (t:=63) (v':= .bool true) U (by rfl)<|Rm C U U<|Rm C U U<|R.int C U U U U b_eql<|R.fixv (t:=66) (v':= .bool true) U (by rfl)<|R.pickT C U U U U<|Rm C U U<|R5 C U U isAgg25 sizeOf25 V Tk5<|R5 C U U isAgg25 sizeOf25 V Tk5<|R.callP C U U U U ((sameR_c hJ hvv3 (hvv.mono hL3) U hsh))<|R.fixv (t:=71) (v':= .bool true) U (by rfl)<|R.pickT C U U U U<|Rm C U U<|R.callR C U U U U ((found_c _ (he.mono hL3))) fun v9 ro9 hl9 hq9=>R.pickT C U U U U<|Ad C U U<|X.ret0 C Kr U U func17 U (by exact(.tmp U .nil)) fun w9 hs9=>hret _ _ _ (RO.le_trans hL3 hl9) ?_ w9 hs9
   exact hq9
  ·rw [if_neg h0] at hp1
   subst hp1
   refine Rm C U U<|R.ext C U U U U<|R.ext C U U U U<|R.asg C U U U<|Ad C U U<|Xs C<|Xr C U U<|R5 C U U isAgg25 sizeOf25 V Tk5<|R.callP C U U U U ((checkChartR_c hJ (hvv.mono hl1) hsh))<|R.int C U U U U b_neq<|R.fixv (t:=17) (v':= .bool true) U (by(exact congrArg Value.bool (by simpa using h0)))<|R.done C<|X.cond C.1 U (fun _=>?_) (fun h=>nomatch h)
   refine Xr C U U<|Rm C U U<|R.int C U U U U b_neq<|R.fixv (t:=19) (v':= .bool true) U (by(exact congrArg Value.bool (by simpa using h0)))<|Rm C U U<|Rm C U U<|R.str C U U U U b_seql<|R.fixv (t:=22) (v':= .bool true) U (by rfl)<|R.pickT C U U U U<|Rm C U U<|R.callR C U U U U ((found_c _ (he.mono hl1))) fun v9 ro9 hl9 hq9=>R.pickT C U U U U<|Ad C U U<|X.ret0 C Kr U U func17 U (by exact(.tmp U .nil)) fun w9 hs9=>hret _ _ _ (RO.le_trans hl1 hl9) ?_ w9 hs9
   exact hq9
end Go.Lg.B
namespace Go.Lg.B
open Go Go.Conc Go.Lg Go.Proofs Go.Proofs.YtlkmnfdipiielaaGreatDoor Go.Lg.S Go.Proofs.Tryz
variable {W:World}{n:String}
abbrev laid10:List (String×DataW Unit):=Rows.bearingBackRow.laid
theorem cells_array1{α H:Type}{enc:TypeId×Value→H}{P:Program}{w:World}{base:Nat}{sp:Nat→Bool}{held:Bool}{fuel:Nat}{t e:TypeId}{n:Nat}{cs:List Value}{p:List MemPlace}{f:α→Value}{g:α→DataW H}{zs:List α}
  (ht:P.underlying t=some (.array n e)) (he:P.cellsOf e=1) (hn:P.cellsOf t=zs.length) (hn':n=zs.length) (hof:∀fu c a q,DataW.trod enc P w base sp held fu e c=some (g a,q)→c= [f a])
  (h:DataW.trod enc P w base sp held fuel t cs=some (.agg (zs.map g),p)):cs=zs.map f:=by
 obtain⟨xs,m,_,hx,hl,hxl,hel⟩:=DataW.trod_array ht h
 have hxs:xs.map (·.1)=zs.map g:=by
  have:=congrArg Prod.fst hx
  simpa using this.symm
 refine List.ext_getElem? fun i=>?_
 by_cases hi:i<zs.length
 ·have h1:=hel i O
  rw [he,Nat.mul_one,List.getElem?_eq_getElem O] at h1
  have h3:(xs.map (·.1))[i]? =some (g zs[i]):=by rw [hxs,List.getElem?_map,List.getElem?_eq_getElem hi];rfl
  rw [List.getElem?_map,List.getElem?_eq_getElem O] at h3
  simp only [Option.map_some,Option.some.injEq] at h3
  have h4:=hof m _ zs[i] (xs[i]' O).2 (by rw [←h3];exact h1)
  have h5:cs[i]? =some (f zs[i]):=by
   have:=congrArg (·[0]?) h4
   simpa [List.getElem?_take,List.getElem?_drop] using this
  rw [h5,List.getElem?_map,List.getElem?_eq_getElem hi];rfl
 ·rw [List.getElem?_eq_none O,List.getElem?_eq_none Zo]
theorem heap_of_var{g:Nat}{cs:Array Value}(hg:prog.globalNamed n=some g)(hv:W.var? prog n=some cs):∃t fq,W.heap[g]? =some (.cells cs t fq):=by
 unfold World.var? at hv
 rw [hg] at hv
 simp only [Option.bind_some] at hv
 split at hv
 ·rename_i c t fq hc
  cases hv
  exact⟨t,fq,hc⟩
 ·cases hv
theorem gWords:prog.globalNamed "lagan/bearing.words" =some 1:=by kernel_rfl
theorem tWords:(prog.globals[1]?).map (·.type)=some 164:=by kernel_rfl
theorem gPow:prog.globalNamed "internal/strconv.uint64pow10" =some 3:=by kernel_rfl
theorem tPow:(prog.globals[3]?).map (·.type)=some 320:=by kernel_rfl
theorem cells164:prog.cellsOf 164=8:=by kernel_rfl
theorem cells320:prog.cellsOf 320=20:=by kernel_rfl
theorem cells9:prog.cellsOf 9=1:=by kernel_rfl
theorem plainOf(h:laidMetH prog laid10 W){d:DataW Unit}(hm:(n,d)∈laid10.filter fun x=>x.2.handleName?.isNone):Go.Lib.VarReads prog W n d:=by
 unfold laidMetH at h
 have hne:(laid10.filter fun x=>x.2.handleName?.isSome)≠ []:=by
  intro e
  have:=congrArg List.length e
  revert this
  show¬_=0
  decide
 generalize(laid10.filter fun x=>x.2.handleName?.isSome)=fl at h hne
 cases fl with
 |nil=>exact absurd rfl hne
 |cons a r=>exact Go.Lib.laidMet.reads h.1 hm
theorem cells196:prog.cellsOf 196=1:=by kernel_rfl
theorem words_laid:Rows.laid_lagan_bearing_words=DataW.agg (wordsL.map fun s=>(.lit (.string s):DataW Unit)):=rfl
theorem pow_laid:Rows.laid_internal_strconv_uint64pow10=DataW.agg ((List.range 20).map fun i=>(.lit (.int .u64 ((10^i:Nat):Int)):DataW Unit)):=by kernel_rfl
theorem words_in:("lagan/bearing.words",(Rows.laid_lagan_bearing_words:DataW Unit))∈laid10.filter fun x=>x.2.handleName?.isNone:=
 List.mem_filter.2 ⟨.tail _ (.tail _ (.tail _ (.tail _ (.tail _ (.tail _ (.tail _ (.tail _ (.head _)))))))),rfl⟩
theorem pow_in:("internal/strconv.uint64pow10",(Rows.laid_internal_strconv_uint64pow10:DataW Unit))∈laid10.filter fun x=>x.2.handleName?.isNone:=
 List.mem_filter.2 ⟨.tail _ (.tail _ (.head _)),rfl⟩
theorem envW_of_laid(h:laidMetH prog laid10 W):EnvW (fun b=>W.heap[b]?):=by
 obtain⟨g,t,cs,fuel,p,hg,ht,hv,hd⟩:=plainOf h words_in
 obtain rfl:=Option.some.inj (gWords.symm.trans hg)
 obtain rfl:=Option.some.inj (tWords.symm.trans ht)
 obtain⟨t,fq,hh⟩:=heap_of_var gWords hv
 have e:=cells_array1 (zs:=wordsL) (f:=strV) underlying164 cells9 cells164 rfl (fun fu c a q hc=>by
  obtain⟨s,rfl,hx,_⟩:=DataW.trod_string underlying9 hc
  simp only [Prod.mk.injEq,DataW.lit.injEq,Lit.string.injEq] at hx
  obtain⟨rfl,_⟩:=hx
  rfl) (words_laid▸hd)
 exact⟨t,fq,by show W.heap[1]? =_;rw [hh, ←e]⟩
theorem envP_of_laid(h:laidMetH prog laid10 W):EnvP (fun b=>W.heap[b]?):=by
 obtain⟨g,t,cs,fuel,p,hg,ht,hv,hd⟩:=plainOf h pow_in
 obtain rfl:=Option.some.inj (gPow.symm.trans hg)
 obtain rfl:=Option.some.inj (tPow.symm.trans ht)
 obtain⟨t,fq,hh⟩:=heap_of_var gPow hv
 have e:=cells_array1 (zs:=List.range 20) (f:=fun i:Nat=>Value.int .u64 ((10^i:Nat):Int)) underlying320 cells196 cells320 rfl (fun fu c a q hc=>by
  obtain⟨n,rfl,hx,_⟩:=DataW.trod_int underlying196 hc
  simp only [Prod.mk.injEq,DataW.lit.injEq,Lit.int.injEq,true_and] at hx
  obtain⟨rfl,_⟩:=hx
  rfl) (pow_laid▸hd)
 exact⟨t,fq,by show W.heap[3]? =_;rw [hh,pow10L, ←e]⟩
theorem env_of_laid10(h:laidMetH prog laid10 W):Env (fun b=>W.heap[b]?):=
 env_of_laid (h.filter (fun x=>x.1== "lagan/bearing.checks"))
end Go.Lg.B
namespace Go.Lg.B
open Go Go.Conc Go.Lg Go.Proofs Go.Proofs.YtlkmnfdipiielaaGreatDoor Go.Lg.S Go.Proofs.Tryz
abbrev plain8:List (String×DataW Unit):=laid10.filter fun x=>x.2.handleName?.isNone
noncomputable def startB(os:Os):World:=(World.doorLaid prog 89 os).layVars prog plain8
theorem startB_os(os:Os):(startB os).os=os:=by rw [startB,World.layVars_os];rfl
theorem plain_met(os:Os)(args:Array Value):laidMet prog plain8 ((startB os).forCall (fun _ _=>0) ⟨#[],args, []⟩).memory:=by
 have e1:(plain8.filter fun x=>(plain8.map (·.1)).contains x.1)=plain8:=List.filter_eq_self.2 fun x hx=>List.contains_iff_mem.2 (List.mem_map.2 ⟨x,hx,rfl⟩)
 have e2:(plain8.filter fun x=> !(plain8.map (·.1)).contains x.1)= []:=List.filter_eq_nil_iff.2 fun x hx=>by rw [List.contains_iff_mem.2 (List.mem_map.2 ⟨x,hx,rfl⟩)];simp
 have h:laidMet prog plain8 (startB os):=laidMet_layVars (w0:=World.doorLaid prog 89 os) (plain8.map (·.1)) [] (by rw [e1];rfl) (by rw [e1];kernel_rfl) (by rw [e1];kernel_rfl) (by rw [e2];exact LaidIn.none)
 exact h.of_heap (by simp [World.memory,World.forCall,Input.heap])
theorem door_met10(os:Os)(args:Array Value):laidMetH prog laid10 ((startB os).forCall (fun _ _=>0) ⟨#[],args, []⟩).memory:=
 laidMetH_of_parts3 (fuel:=8) (plain_met os args) Kr Kr
theorem door_shaped10(os:Os)(args:Array Value):((startB os).forCall (fun _ _=>0) ⟨#[],args, []⟩).Shaped Tryz.checked.prog:=World.shaped_of_ZipB Kr Kr
end Go.Lg.B
namespace Go.Lg.B
open Go Go.Proofs Go.Proofs.YtlkmnfdipiielaaGreatDoor Go.Proofs.Tryz
theorem back_k1:(Rows.bearingBackRow.inPlace==prog.inPlace 17)=true:=by kernel_rfl
theorem back_k2:(Rows.bearingBackRow.unfollowed==prog.unfollowed 17)=true:=by kernel_rfl
theorem back_k3:(Rows.bearingBackRow.recurses==prog.recurses 17)=true:=by kernel_rfl
theorem back_k4:(Rows.bearingBackRow.named==prog.varsNamed 17)=true:=by kernel_rfl
theorem back_name:prog.funcNamed "lagan/laganlaw01.BearingBack" =some 17:=by kernel_rfl
theorem back_goes:true=Rows.bearingBackRow.goesBy prog:=by kernel_rfl
theorem back_wf:Rows.bearingBackRow.wfByText (OpenSpec.ofChange Rows.bearingBackSpec)=true:=by kernel_rfl
theorem back_facts:joinedFacts prog 17 Tryz.f17 Rows.bearingBackSpec Rows.bearingBackRow=true:=by
 unfold joinedFacts
 exact(and_mk (and_mk (and_mk (and_mk (and_mk (and_mk (and_mk (and_mk (and_mk (and_mk (and_mk (and_mk (and_mk (and_mk (and_mk (and_mk (and_mk (and_mk (and_mk (and_mk (and_mk (and_mk (and_mk (and_mk (and_mk (and_mk (and_mk (and_mk (and_mk (and_mk (and_mk (by as_aux_lemma=>kernel_rfl)
  k_lo)
  k_mr)
  (by as_aux_lemma=>kernel_rfl))
  (by as_aux_lemma=>kernel_rfl))
  (by as_aux_lemma=>kernel_rfl))
  k_stops)
  (by as_aux_lemma=>kernel_rfl))
  k_knobs)
  back_k1)
  back_k2)
  back_k3)
  back_k4)
  (by as_aux_lemma=>kernel_rfl))
  (by as_aux_lemma=>kernel_rfl))
  (by as_aux_lemma=>kernel_rfl))
  (by as_aux_lemma=>kernel_rfl))
  (by as_aux_lemma=>kernel_rfl))
  (by as_aux_lemma=>kernel_rfl))
  (by as_aux_lemma=>kernel_rfl))
  (by as_aux_lemma=>kernel_rfl))
  (by as_aux_lemma=>kernel_rfl))
  (beq_iff_eq.2 k_pk.symm))
  (by as_aux_lemma=>kernel_rfl))
  k_heard)
  k_may)
  (beq_iff_eq.2 k_lift.symm))
  (beq_iff_eq.2 k_make))
  (by as_aux_lemma=>kernel_rfl))
  (by as_aux_lemma=>kernel_rfl))
  (by as_aux_lemma=>kernel_rfl))
  (by as_aux_lemma=>kernel_rfl))
end Go.Lg.B
namespace Go.Proofs.YtlkmnfdipiielaaGreatDoor
open Go Go.Conc Go.Lg Go.Lg.B Go.ChangeShapes Go.RowKit Go.WideShapes
theorem back_lifted(os:Os)(started:os.Started)(H:Type)(enc:TypeId×Value→H):
  ReturnsInLeavingWide {} Tryz.checked os 17 .any (fun w args=>(Rows.bearingBackSpec.pre enc Tryz.prog Tryz.f17 [] false w args∧laidMetH Tryz.prog laid10 w)∧sizedMet enc Tryz.prog Tryz.f17 (OpenSpec.ofChange Rows.bearingBackSpec) false w args)
   (Rows.bearingBackSpec.post enc Tryz.prog Tryz.f17 false true false false):=by
 refine leaving_of_root (C:=Tryz.checked) (tb:=4) (X:=fun w _=>laidMetH Tryz.prog laid10 w) (fun _ _ _ hh h=>h.of_heap hh) own0 started Tryz.func17 laid0 (by
   intro t ht
   rw [Tryz.params17] at ht
   have hm:t∈ [25]:=ht
   have hall:([25].all fun u=>Tryz.prog.readableRec u && decide (u<Tryz.prog.types.size))=true:=by kernel_rfl
   have:=List.all_eq_true.1 hall t hm
   rw [Bool.and_eq_true,decide_eq_true_eq] at this
   exact this) rfl Kr Tryz.underlying4
  (ChangeSpec.witness_shaped (enc:=enc) (C:=Tryz.checked) (os:=os) (X:=fun w _=>laidMetH Tryz.prog laid10 w) false (startB os) #[.agg #[.int .i64 0, .int .i64 0, .int .i64 0, .slice none 0 0, .slice none 0 0]] 8 (startB_os os) (door_shaped10 os _) Kr Kr Kr (door_met10 os _)) ?_
 intro W base args ds gs before hval hW _ _ hL
 obtain⟨p,q,hA,hV,rfl,_,_⟩:=hW
 obtain⟨rfl,rfl⟩:=trodVars_none hV
 have hA:DataW.TrodAll enc Tryz.prog W 0 (fun _=>true) true Tryz.f17.params.toList args.toList ds p:=hA
 have hval:∀ (j:Nat) t v,Tryz.f17.params[j]? =some t→args[j]? =some v→Value.okWide Tryz.prog W .any base t v:=hval
 rw [Tryz.params17] at hA hval
 obtain⟨v1,l1,d1,k1,p1,q1,e1,rfl,rfl,h1,hA⟩:=trodAll_cons hA
 obtain⟨rfl,rfl,rfl⟩:=trodAll_nil hA
 have ea:args= #[v1]:=Array.toList_inj.1 e1
 subst ea
 obtain⟨b,b1⟩:=argBk (hval 0 25 v1 rfl rfl) h1
 exact⟨rfl,back_root (env_of_laid10 hL) (envW_of_laid hL) (envP_of_laid hL) b1⟩
theorem back_row:Rows.BearingBackSaid:=
 OpenClaim.holds_of_wide_leaving 17 Tryz.f17 rfl rfl rfl rfl rfl rfl rfl ⟨rfl,rfl,rfl,rfl,rfl⟩ rfl rfl rfl rfl rfl back_name Tryz.func17 back_facts
  (of_decide_eq_true Kr) (by unfold Func.isWrapper;first|(rw [if_pos (by decide+kernel)];kernel_rfl)|(rw [if_neg (by decide+kernel)];exact⟨rfl,rfl⟩))
  (fun os started H enc _=>back_lifted os started H enc)
theorem back_holds:Rows.BearingBackCardSaid:=
 card_goes .later [.data, .data, .data, .data, .handle, .sentinel, .sentinel, .funcs, .widerDeep, .pinned] true (true, "6da441031df1273c87b994104071112c0d6d76e328f9edd428a3df0ab3bd48e1") true
  back_row back_wf bearingBack_row_tie rfl ⟨rfl,rfl⟩ k_main rfl
  (fun f fn hf hfn=>by
   obtain rfl:f=17:=Option.some.inj (back_name.symm.trans hf)|>.symm
   obtain rfl:fn=Tryz.f17:=(Option.some.inj (Tryz.func17.symm.trans hfn)).symm
   exact⟨k_looks,fun j t ht=>by
    rw [Tryz.params17] at ht
    have hm:t∈ [25]:=by simpa using Array.mem_of_getElem? ht
    have hall:([25].all fun u=> !Tryz.prog.wantsStandIn u)=true:=by kernel_rfl
    exact(show Tryz.prog.wantsStandIn t=false by simpa using List.all_eq_true.1 hall t hm)⟩)
  back_goes
end Go.Proofs.YtlkmnfdipiielaaGreatDoor
