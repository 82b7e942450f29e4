/-
  Part 5 of what all proofs of this seat share: laws of the model that the walks use, and what functions of the program reckon. Conditions: the premises that each theorem states.
-/
import Derived.Test.YtfohpddpboaejaaGreatDoorKD
import Derived.Conc.LeavingOf
import Derived.LaidMore
import Derived.WideKeyArgs
import Derived.WideShapes
import Derived.ChangeShapes
import Derived.Test.YtfohpddpboaejaaGreatDoorTie
import Derived.Test.YtfohpddpboaejaaGreatDoorCards
import Derived.OpenShut
import Derived.SevenTiedAt
import Derived.Test.YtfohpddpboaejaaGreatDoorRows
import Derived.JoinedOf
set_option maxRecDepth 100000
set_option maxHeartbeats 400000
set_option linter.all false
set_option linter.unusedVariables false
set_option linter.unusedSimpArgs false
set_option linter.unusedSectionVars false
namespace Go.Lg.B
open Go Go.Conc Go.Lg
abbrev Cnt:=List (List Int×Nat)
variable {j:Nat}{k:List Int}{v:Value}{c:Cnt}{p:List Int→Bool}
def cntKV(c:Cnt):KV:=c.map fun x=>(x.1, .int .i64 (x.2:Int))
def bump:Cnt→List Int→Cnt
 | [],k=> [(k,1)]
 |x::l,k=>if k=x.1 then(x.1,x.2+1)::l else x::bump l k
def sumP(p:List Int→Bool)(c:Cnt):Nat:=(c.map fun x=>if p x.1 then x.2 else 0).sum
theorem sumP_bump(p:List Int→Bool):∀ (c:Cnt) (k:List Int),sumP p (bump c k)=sumP p c+if p k then 1 else 0
 | [],k=>by simp [bump,sumP]
 |x::l,k=>by
  have ih:=sumP_bump p l k
  unfold bump
  split
  ·rename_i e;subst e
   simp only [sumP,List.map_cons,List.sum_cons]
   split<;>omega
  ·simp only [sumP,List.map_cons,List.sum_cons] at ih⊢
   rw [ih];omega
theorem cnt_le:∀ {c:Cnt} {x:List Int×Nat},x∈c→x.2≤sumP (fun _=>true) c
 |y::l,x,h=>by
  simp only [sumP,List.map_cons,List.sum_cons,if_true]
  rcases List.mem_cons.1 h with rfl|h
  ·omega
  ·have:=cnt_le h
   simp only [sumP,if_true] at this;omega
theorem bump_len{n:Nat}:∀ {c:Cnt} {k:List Int},(∀x∈c,x.1.length=n)→k.length=n→∀x∈bump c k,x.1.length=n
 | [],k,_,hk,x,hx=>by simp [bump] at hx;subst hx;exact hk
 |y::l,k,h,hk,x,hx=>by
  unfold bump at hx
  split at hx
  ·rcases List.mem_cons.1 hx with rfl|hx
   ·exact h y List.mem_cons_self
   ·exact h x (List.mem_cons_of_mem _ hx)
  ·rcases List.mem_cons.1 hx with rfl|hx
   ·exact h _ List.mem_cons_self
   ·exact bump_len (fun z hz=>h z (List.mem_cons_of_mem _ hz)) hk x hx
theorem bump_hit:∀ {c:Cnt} {k:List Int} {j:Nat} {v:Value},getK (cntKV c) k=some (j,v)→∃n:Nat,v= .int .i64 (n:Int)∧c[j]? =some (k,n)∧cntKV (bump c k)=setAt (cntKV c) j (.int .i64 ((n+1:Nat):Int))
 |y::l,k,j,v,h=>by
  simp only [cntKV,List.map_cons,getK] at h
  unfold bump
  split at h
  ·rename_i e
   cases h
   rw [if_pos e]
   exact⟨y.2,rfl,by simp [e],by simp [cntKV,setAt]⟩
  ·rename_i e
   obtain⟨⟨i,u⟩,h1,h2⟩:=Option.map_eq_some_iff.1 h
   simp only [Prod.mk.injEq] at h2
   obtain⟨rfl,rfl⟩:=h2
   obtain⟨n,hn,hc,hb⟩:=bump_hit (c:=l) h1
   rw [if_neg e]
   refine⟨n,hn,by simpa using hc, ?_⟩
   simp only [cntKV,List.map_cons,setAt,List.modify_succ_cons] at hb⊢
   rw [hb]
theorem bump_miss:∀ {c:Cnt} {k:List Int},getK (cntKV c) k=none→cntKV (bump c k)=cntKV c++ [(k, .int .i64 1)]
 | [],k,_=>rfl
 |y::l,k,h=>by
  simp only [cntKV,List.map_cons,getK] at h
  unfold bump
  split at h
  ·cases h
  ·rename_i e
   rw [if_neg e]
   have ih:=bump_miss (c:=l) (Option.map_eq_none_iff.1 h)
   simp only [cntKV,List.map_cons,List.cons_append] at ih⊢
   rw [ih]
theorem getK_new:∀ {kv:KV} {k:List Int} (v:Value),getK kv k=none→getK (kv++ [(k,v)]) k=some (kv.length,v)
 | [],k,v,_=>by simp [getK]
 |x::l,k,v,h=>by
  simp only [getK] at h
  split at h
  ·cases h
  ·rename_i e
   have ih:=getK_new (kv:=l) v (Option.map_eq_none_iff.1 h)
   simp only [List.cons_append,getK,e,if_false,ih,Option.map_some,List.length_cons]
theorem setAt_new(kv:KV)(k:List Int)(v w:Value):setAt (kv++ [(k,v)]) kv.length w=kv++ [(k,w)]:=by
 unfold setAt
 apply List.ext_getElem?
 intro j
 rw [List.getElem?_modify]
 simp only [List.getElem?_append]
 by_cases e:kv.length=j
 ·subst e;simp
 ·simp only [e,if_false]
  split
  ·simp
  ·rename_i h
   have:¬j-kv.length=0:=O
   simp [this]
theorem setAt_same{kv:KV}(h:kv[j]? =some (k,v)):setAt kv j v=kv:=by
 unfold setAt
 apply List.ext_getElem?
 intro i
 rw [List.getElem?_modify]
 by_cases e:j=i
 ·subst e;simp [h]
 ·simp [e]
theorem cntKV_len(c:Cnt):(cntKV c).length=c.length:=by simp [cntKV]
theorem cntKV_at(h:(cntKV c)[j]? =some (k,v)):∃n:Nat,c[j]? =some (k,n)∧v= .int .i64 (n:Int):=by
 simp only [cntKV,List.getElem?_map,Option.map_eq_some_iff] at h
 obtain⟨x,h1,h2⟩:=h
 simp only [Prod.mk.injEq] at h2
 exact⟨x.2,by rw [h1, ←h2.1],h2.2.symm⟩
theorem cntKV_keys{n:Nat}(h:∀x∈c,x.1.length=n):∀x∈cntKV c,x.1.length=n:=fun x hx=>by
 obtain⟨y,hy,rfl⟩:=List.mem_map.1 hx
 exact h y hy
def valAt(p:List Int→Bool)(c:Cnt)(j:Nat):Nat:=match c[j]? with
 |some x=>if p x.1 then x.2 else 0
 |none=>0
def heldS(p:List Int→Bool)(c:Cnt)(seen:List Nat):Nat:=(seen.map (valAt p c)).sum
theorem heldS_snoc(p:List Int→Bool)(c:Cnt)(seen:List Nat)(j:Nat):heldS p c (seen++ [j])=heldS p c seen+valAt p c j:=by
 simp [heldS]
theorem sum_range_val(p:List Int→Bool)(c:Cnt):((List.range c.length).map (valAt p c)).sum=sumP p c:=by
 unfold sumP
 congr 1
 apply List.ext_getElem
 ·simp
 ·intro i h1 h2
  simp at h1
  simp [valAt,h1]
theorem heldS_all{seen:List Nat}(hn:seen.Nodup)(hl:∀j∈seen,j<c.length)(ha:∀j,j<c.length→j∈seen):heldS p c seen=sumP p c:=by
 rw [←sum_range_val]
 have:seen.Perm (List.range c.length):=by
  rw [List.perm_ext_iff_of_nodup hn List.nodup_range]
  intro a
  rw [List.mem_range]
  exact⟨hl a,ha a⟩
 exact(this.map _).sum_nat
theorem heldS_le:∀ {seen:List Nat},seen.Nodup→(∀j∈seen,j<c.length)→heldS p c seen≤sumP (fun _=>true) c:=fun {seen} hn hl=>by
 have hle:∀j,valAt p c j≤valAt (fun _=>true) c j:=fun j=>by
  unfold valAt
  split
  ·split<;>simp
  ·exact Nat.le_refl _
 have h1:∀s:List Nat,heldS p c s≤heldS (fun _=>true) c s:=fun s=>by
  induction s with
  |nil=>exact Nat.le_refl _
  |cons a s ih=>
   simp only [heldS,List.map_cons,List.sum_cons] at ih⊢
   have:=hle a;omega
 refine Nat.le_trans (h1 seen) ?_
 rw [←sum_range_val]
 obtain⟨rest,hp⟩:∃rest,(List.range c.length).Perm (seen++rest):=by
  refine⟨(List.range c.length).filter fun j=> !seen.contains j, ?_⟩
  rw [List.perm_ext_iff_of_nodup List.nodup_range]
  ·intro a
   simp only [List.mem_range,List.mem_append,List.mem_filter,Bool.not_eq_true',List.contains_eq_mem,decide_eq_false_iff_not]
   constructor
   ·intro h
    by_cases hs:a∈seen
    ·exact .inl hs
    ·exact .inr ⟨h,hs⟩
   ·rintro(h|h)
    ·exact hl a h
    ·exact h.1
  ·rw [List.nodup_append]
   refine⟨hn,List.nodup_range.sublist List.filter_sublist,fun a ha b hb e=>?_⟩
   subst e
   simp at hb
   exact hb.2 ha
 have:=(hp.map (valAt (fun _=>true) c)).sum_nat
 rw [List.map_append,List.sum_append] at this
 simp only [heldS];omega
theorem nat_nodup_len:∀ {n:Nat} {l:List Nat},l.Nodup→(∀j∈l,j<n)→l.length≤n
 |0, [],_,_=>by simp
 |0,x::l,_,h=>by have:=h x Zi;omega
 |m+1,l,hd,h=>by
  have h1:=nat_nodup_len (n:=m) (l:=l.erase m) (hd.erase _) fun n hn=>by
   have h2:=h n (List.mem_of_mem_erase hn)
   have h3:n≠m:=fun e=>by subst e;exact hd.not_mem_erase hn
   omega
  by_cases hm:m∈l
  ·have:=List.length_erase_of_mem hm;omega
  ·rw [List.erase_of_not_mem hm] at h1;omega
def heldOf(b:Bk)(g k:Int):Nat:=((cases b).filter fun t=>lifts b t.1 g k).length
abbrev Best3:=Int×Int×Int
def askStep(b:Bk)(acc:Best3)(g k:Int):Best3:=if max (heldOf b g k:Int) ((cases b).length-heldOf b g k)<acc.2.2 then(g,k,max (heldOf b g k:Int) ((cases b).length-heldOf b g k)) else acc
def askGear(b:Bk)(g:Int)(acc:Best3):Nat→Best3
 |0=>acc
 |i+1=>askStep b (askGear b g acc i) g ((i+1:Nat):Int)
def askTo(b:Bk):Nat→Best3
 |0=>(-1,0,((cases b).length:Int))
 |g+1=>askGear b g (askTo b g) 99
def askR(b:Bk):Best3×Int:=if openH b 0≠0 then((0,0,0),openH b 0) else(askTo b b.gs.length,0)
def cntOf(b:Bk):Nat→Cnt
 |0=> []
 |i+1=>bump (cntOf b i) (pad 4 ((cases b).getD i ([], [])).1)
theorem cntOf_sum(b:Bk)(p:List Int→Bool):∀i,i≤(cases b).length→sumP p (cntOf b i)=(((cases b).take i).filter fun t=>p (pad 4 t.1)).length
 |0,_=>by simp [cntOf,sumP]
 |i+1,h=>by
  have h':i<(cases b).length:=h
  rw [cntOf,sumP_bump,cntOf_sum b p i O,List.take_succ_eq_append_getElem h',List.filter_append,List.length_append]
  congr 1
  simp only [List.getD_eq_getElem?_getD,List.getElem?_eq_getElem h',Option.getD_some,List.filter_cons,List.filter_nil]
  split<;>rfl
theorem cntOf_held{b:Bk}(g k:Int):sumP (fun p=>lifts b p g k) (cntOf b (cases b).length)=heldOf b g k:=by
 rw [cntOf_sum b _ _ (Nat.le_refl _),List.take_length,heldOf]
 simp only [lifts_pad]
theorem cntOf_len{b:Bk}(hb:b.good):∀i,i≤(cases b).length→∀x∈cntOf b i,x.1.length=4
 |0,_=>fun x hx=>absurd hx List.not_mem_nil
 |i+1,h=>by
  have h':i<(cases b).length:=h
  have hm:=List.getElem_mem h'
  refine bump_len (cntOf_len hb i O) ?_
  simp only [List.getD_eq_getElem?_getD,List.getElem?_eq_getElem h',Option.getD_some]
  exact pad_len (by rw [bearsL_len _ (mem_cases.1 hm).1];exact hb.np.2)
theorem cntOf_total(b:Bk){i:Nat}(h:i≤(cases b).length):sumP (fun _=>true) (cntOf b i)=i:=by
 rw [cntOf_sum b _ i h,List.filter_eq_self.2 (fun _ _=>rfl),List.length_take];omega
theorem heldOf_le(b:Bk)(g k:Int):heldOf b g k≤(cases b).length:=List.length_filter_le _ _
end Go.Lg.B
set_option maxRecDepth 100000
namespace Go.Lg.B
open Go Go.Conc Go.Lg Go.Proofs Go.Proofs.Tryz
variable {kv:KV}{k:List Int}{v z:Value}
theorem ckT234:CheckT prog 10000 234 4 true:=CheckT.array (m:=1) A234 B3 G3 (fun _=>rfl) (CheckT.int A3)
theorem look_hit{j:Nat}(h:getK kv k=some (j,v)):(match getK kv k with|some (_,v)=>v|none=>z)=v:=by rw [h]
theorem look_miss(h:getK kv k=none):(match getK kv k with|some (_,v)=>v|none=>z)=z:=by rw [h]
variable {main:Bool}{J:Goroutine→Mem→Prop}(hJ:Closed prog main J)
include hJ
theorem ask_c{b:Bk}{ro:RO}(he:Env ro)(hv:BkV ro v b)(hs:b.short):CallR prog J (fnv 57) [v] ro (fun w _=>w= .tuple [.int .i64 (askR b).1.1, .int .i64 (askR b).1.2.1, .int .i64 (askR b).1.2.2, .int .i64 (askR b).2].toArray):=by
 obtain⟨vp,vg,vc,vt,rfl,hv⟩:=hv
 have hv':=hv
 obtain⟨_,_,rfl⟩:=hv.1.form
 obtain⟨_,_,rfl⟩:=hv.2.1.form
 obtain⟨_,_,rfl⟩:=hv.2.2.1.form
 obtain⟨_,_,rfl⟩:=hv.2.2.2.form
 have hop:=open_c hJ he hv' hs (zs:= []) .nil (Nat.zero_le _) (fun z hz=>absurd hz List.not_mem_nil)
 rw [List.map_nil,firstH_nil] at hop
 refine ER 87 hJ func57 W fun c cs tail hret C=>Xu W<|Bx Z fun p1=>Rg Y<|Rg Y<|Rg Y<|Ae W<|Xu W<|Rq W G27 B27 V Tk5<|R.call C U U U U (pre:= []) U hop fun w3 ro3 pre3 hl3 hp3=>?_
 rcases hp3 with⟨h0,rfl,rfl⟩|⟨h0,m,kv,vl,rfl,hm,hls,rfl⟩
 ·
  have e:askR b=((0,0,0),openH b 0):=by rw [askR,if_pos h0]
  refine Ro W<|Re Z<|Re Z<|Al W K228 U fun p6=>Rs Z B228 Y V Ph7<|Ae W<|Xx W<|Ro W<|Ri Z b_neq<|Zc U (fun hq=>?_) (fun hq=>?_)
  ·refine Xm W W<|Rg Y<|Rg Y<|Rg Y<|Ae W<|X.ret C U U func57 U (by exact(.tmp U (.tmp U (.tmp U (.tmp U .nil)))))<|Hr hret hl3 ?_
   rw [e];rfl
  ·simp at hq;contradiction
 ·
  have e:askR b=(askTo b b.gs.length,0):=by rw [askR,if_neg (by simp [h0])]
  rw [e] at hret
  obtain⟨hb,_,hne,_⟩:=openH_good h0
  have hng:=hb.ng
  have hcl:=cases_le hb
  have hv3:=hv'.mono hl3
  obtain⟨lb,lc,rfl⟩:=hls.form
  refine Ro W<|Re Z<|Re Z<|Al W K228 U fun p6=>Rs Z B228 Y V Ph7<|Ae W<|Xx W<|Ro W<|Ri Z b_neq<|Zc U (fun hq=>?_) (fun hq=>?_)
  ·simp at hq
  ·refine Xz<|Xu W<|R.makeMapO C U U  fun p24=>Ae W<|Xx W<|Rv 6 W A228 U B226<|Rj W G226 V U<|Rt W A226<|Ro W<|Rz<|Xb<|X.loopI (ι:=Nat) C.1 (fun i=>i≤(cases b).length)
    (fun i=> [(1, .pointer (some ⟨p1,0,none⟩)),(6, .pointer (some ⟨p6,0,none⟩)),(7, .map (some p24)),(26, .slice lb (cases b).length lc),(27, .int .i64 ((cases b).length:Int)),(28, .int .i64 (i:Int))])
    (fun i=>⟨ro3,(p24,mapO (cntKV (cntOf b i)))::_::(m,mapO kv)::_::tail⟩) (fun i=>(cases b).length-i) 0 (Nat.zero_le _) rfl ⟨U,U,U,U,U,U,trivial⟩ fun i hi hnext=>?_
   refine Xu W<|Ri Z b_lss<|Rz<|Xv<|Xj U (fun hlt=>?_) (fun hlt=>?_)
   ·have hi':i<(cases b).length:=O
    obtain⟨pp,off,cap,l,t,fq,hsl,hrop,hsub⟩:=hls.at tc_len O
    cases hsl
    have hmem:=List.getElem_mem hi'
    have hsi:=hsub i hi'
    have hnx:=hnext (i+1) hi' O
    have hbs:cntOf b (i+1)=bump (cntOf b i) (pad 4 (cases b)[i].1):=by
     simp only [cntOf,List.getD_eq_getElem?_getD,List.getElem?_eq_getElem hi',Option.getD_some]
    have hcl4:=cntOf_len hb i hi
    have htot:=cntOf_total b hi
    rw [hbs] at hnx
    generalize(cases b)[i]=co at hmem hsi hnx
    obtain⟨x1,x2,x3,x4,y1,y2,y3,m1,m2,m3⟩:=hb.lit hmem
    rw [tc_eq hb hmem,m3] at hsi
    rw [m1] at hnx
    generalize cntOf b i=c0 at hnx hcl4 htot⊢
    have hck:=cntKV_keys hcl4
    rcases hgk:getK (cntKV c0) [x1,x2,x3,x4] with _|⟨j,vj⟩
    ·
     have hbm:=bump_miss hgk
     rw [hbm] at hnx
     refine Xz<|Xv<|Xb<|Xu W<|Ry Y A226 B237<|La Y G237 B237 hrop hsi<|Al W K237 U fun p9=>Rs Z B237 Y V Ph7<|Rz<|Xf fun hok=>Dt 0 Y<|Dh 0 1 Y A237 U B234<|D5 C 2 hok U U G234 B234 V Tk4<|D.eP2 (i:=3) (i':=5) (dst:=(some 35)) (dst':=(some 37)) [false] [false] hok U U Kr Kr Kr (fun _ _ A hk=>?_) (fun _ _ A hk=>?_)
     ·
      refine R.lookupV (key:= [x1,x2,x3,x4]) C U (A.w U U) (A.x U U) (A.x U U) A276 A234 (fun _ _=>rfl) K3 eqT234 ckT234 U hck V (look_miss hgk) (hk _ _ ⟨QFs.nil, ?_⟩)
      refine Dj 4 Y5 (b_add O O)<|D.fixv (t:=36) (v':= .int .i64 1) U (by rfl)<|De 5 (some 37) [] hok (fun _ _ A hk=>?_)
      refine R.entryNew (key:= [x1,x2,x3,x4]) C U (A.w U U) (A.x U U) (A.x U U) A276 A234 (fun _ _=>rfl) K3 eqT234 ckT234 U hck hgk V (hk _ _ ⟨QFs.nil, ?_⟩)
      refine Dp 6 hok (fun _ _ _ A h=>R.ext C U (A.w U U) (A.x U U) U h)<|De 7 none [] hok (fun _ _ A hk=>?_)
      refine R.entryPut (key:= [x1,x2,x3,x4]) (kv:=cntKV c0++ [([x1,x2,x3,x4], .int .i64 0)]) (w:= .int .i64 0) C U (A.w U U) (A.x U U) (A.x U U) (A.x U U) Zi V (hk undef _ ⟨QFs.nil, ?_⟩)
      refine Dn<|Xi<|Xg W<|Rb Y<|Ro W<|Rz ?_
      rw [setAt_new]
      refine X.drop C.1 (own':=_::_::_::_::tail) (List.sublist_cons_self _ _)<|X.weaken ?_ hnx
      exact⟨rfl,rfl,rfl,rfl,rfl,by simp [look],trivial⟩
     ·
      have hck2:∀x∈cntKV c0++ [([x1,x2,x3,x4],Value.int .i64 0)],x.1.length=4:=fun x hx=>by
       rcases List.mem_append.1 hx with hx|hx
       ·exact hck x hx
       ·rw [List.mem_singleton] at hx;subst hx;rfl
      refine R.entryNew (key:= [x1,x2,x3,x4]) C U (A.w U U) (A.x U U) (A.x U U) A276 A234 (fun _ _=>rfl) K3 eqT234 ckT234 U hck hgk V (hk _ _ ⟨QFs.nil, ?_⟩)
      refine Dp 6 hok (fun _ _ _ A h=>R.ext C U (A.w U U) (A.x U U) U h)<|De 3 (some 35) [] hok (fun _ _ A hk=>?_)
      refine R.lookupV (key:= [x1,x2,x3,x4]) (kv:=cntKV c0++ [([x1,x2,x3,x4], .int .i64 0)]) C U (A.w U U) (A.x U U) (A.x U U) A276 A234 (fun _ _=>rfl) K3 eqT234 ckT234 U hck2 V (look_hit (getK_new _ hgk)) (hk _ _ ⟨QFs.nil, ?_⟩)
      refine Dj 4 Y5 (b_add O O)<|D.fixv (t:=36) (v':= .int .i64 1) U (by rfl)<|De 7 none [] hok (fun _ _ A hk=>?_)
      refine R.entryPut (key:= [x1,x2,x3,x4]) (kv:=cntKV c0++ [([x1,x2,x3,x4], .int .i64 0)]) (w:= .int .i64 0) C U (A.w U U) (A.x U U) (A.x U U) (A.x U U) Zi V (hk undef _ ⟨QFs.nil, ?_⟩)
      refine Dn<|Xi<|Xg W<|Rb Y<|Ro W<|Rz ?_
      rw [setAt_new]
      refine X.drop C.1 (own':=_::_::_::_::tail) (List.sublist_cons_self _ _)<|X.weaken ?_ hnx
      exact⟨rfl,rfl,rfl,rfl,rfl,by simp [look],trivial⟩
    ·
     obtain⟨n,rfl,hcj,hbb⟩:=bump_hit hgk
     rw [hbb] at hnx
     have hkj:=getK_at hgk
     have hsame:=setAt_same hkj
     have hcn:=cnt_le (List.mem_of_getElem? hcj)
     simp only at hcn
     refine Xz<|Xv<|Xb<|Xu W<|Ry Y A226 B237<|La Y G237 B237 hrop hsi<|Al W K237 U fun p9=>Rs Z B237 Y V Ph7<|Rz<|Xf fun hok=>Dt 0 Y<|Dh 0 1 Y A237 U B234<|D5 C 2 hok U U G234 B234 V Tk4<|D.eP2 (i:=3) (i':=5) (dst:=(some 35)) (dst':=(some 37)) [false] [false] hok U U Kr Kr Kr (fun _ _ A hk=>?_) (fun _ _ A hk=>?_)
     ·
      refine R.lookupV (key:= [x1,x2,x3,x4]) C U (A.w U U) (A.x U U) (A.x U U) A276 A234 (fun _ _=>rfl) K3 eqT234 ckT234 U hck V (look_hit hgk) (hk _ _ ⟨QFs.nil, ?_⟩)
      refine Dj 4 Y5 (b_add O O)<|D.fixv (t:=36) (v':= .int .i64 ((n+1:Nat):Int)) U (by exact congrArg (Value.int .i64) O)<|De 5 (some 37) [] hok (fun _ _ A hk=>?_)
      refine R.entryOld (key:= [x1,x2,x3,x4]) C U (A.w U U) (A.x U U) (A.x U U) A276 A234 (fun _ _=>rfl) eqT234 ckT234 U hck hgk (by rw [hsame];repeat (first|exact Upd.here|apply Upd.there)) (hk _ _ ⟨QFs.nil, ?_⟩)
      refine Dp 6 hok (fun _ _ _ A h=>R.ext C U (A.w U U) (A.x U U) U h)<|De 7 none [] hok (fun _ _ A hk=>?_)
      refine R.entryPut (key:= [x1,x2,x3,x4]) (kv:=cntKV c0) C U (A.w U U) (A.x U U) (A.x U U) (A.x U U) hkj V (hk undef _ ⟨QFs.nil, ?_⟩)
      refine Dn<|Xi<|Xg W<|Rb Y<|Ro W<|Rz<|X.drop C.1 (own':=_::_::_::_::tail) (List.sublist_cons_self _ _)<|X.weaken ?_ hnx
      exact⟨rfl,rfl,rfl,rfl,rfl,by simp [look],trivial⟩
     ·
      refine R.entryOld (key:= [x1,x2,x3,x4]) C U (A.w U U) (A.x U U) (A.x U U) A276 A234 (fun _ _=>rfl) eqT234 ckT234 U hck hgk (by rw [hsame];repeat (first|exact Upd.here|apply Upd.there)) (hk _ _ ⟨QFs.nil, ?_⟩)
      refine Dp 6 hok (fun _ _ _ A h=>R.ext C U (A.w U U) (A.x U U) U h)<|De 3 (some 35) [] hok (fun _ _ A hk=>?_)
      refine R.lookupV (key:= [x1,x2,x3,x4]) C U (A.w U U) (A.x U U) (A.x U U) A276 A234 (fun _ _=>rfl) K3 eqT234 ckT234 U hck V (look_hit hgk) (hk _ _ ⟨QFs.nil, ?_⟩)
      refine Dj 4 Y5 (b_add O O)<|D.fixv (t:=36) (v':= .int .i64 ((n+1:Nat):Int)) U (by exact congrArg (Value.int .i64) O)<|De 7 none [] hok (fun _ _ A hk=>?_)
      refine R.entryPut (key:= [x1,x2,x3,x4]) (kv:=cntKV c0) C U (A.w U U) (A.x U U) (A.x U U) (A.x U U) hkj V (hk undef _ ⟨QFs.nil, ?_⟩)
      refine Dn<|Xi<|Xg W<|Rb Y<|Ro W<|Rz<|X.drop C.1 (own':=_::_::_::_::tail) (List.sublist_cons_self _ _)<|X.weaken ?_ hnx
      exact⟨rfl,rfl,rfl,rfl,rfl,by simp [look],trivial⟩
   ·obtain rfl:i=(cases b).length:=by omega
    have hC4:=cntOf_len hb (cases b).length (Nat.le_refl _)
    have hheld:=fun g k:Int=>cntOf_held (b:=b) g k
    have hhle:=fun g k:Int=>heldOf_le b g k
    have htot:=cntOf_total b (Nat.le_refl (cases b).length)
    generalize cntOf b (cases b).length=Cn at hC4 hheld htot⊢
    have hkl:=cntKV_len Cn
    refine Xe U<|Xv<|Xf fun hok=>Dh 6 0 Y A228 U B226<|Db 1 W G226 V U<|Ds C 2 hok U U A226<|Da C 3 hok U U<|Da C 4 hok U U<|Da C 5 hok U U<|Dn<|Xx W<|Rv 2 W A27 U B23<|Rj W G23 V U<|Rt W A23<|Ro W<|Rz<|Xb<|X.loopI (ι:=Nat×RO×KV) C.1 (fun s=>s.1≤b.gs.length∧ro3.le s.2.1∧MapOk s.2.1 b s.2.2)
     (fun s=> [(1, .pointer (some ⟨p1,0,none⟩)),(2, .int .i64 (askTo b s.1).1),(3, .int .i64 (askTo b s.1).2.1),(4, .int .i64 (askTo b s.1).2.2),(6, .pointer (some ⟨p6,0,none⟩)),(7, .map (some p24)),(45, .int .i64 (b.gs.length:Int)),(46, .int .i64 (s.1:Int))])
     (fun s=>⟨s.2.1,(p24,mapO (cntKV Cn))::_::(m,mapO s.2.2)::_::tail⟩) (fun s=>b.gs.length-s.1) (0,ro3,kv) ⟨Nat.zero_le _,RO.le_refl _,hm⟩ rfl ⟨U,U,U,U,U,U,U,U,trivial⟩ fun s hs' hnext=>?_
    obtain⟨g,ro4,kv4⟩:=s
    obtain⟨hg,hle4,hm4⟩:=hs'
    simp only at hg hle4 hm4 hnext⊢
    refine Xu W<|Ri Z b_lss<|Rz<|Xv<|Xj U (fun hltg=>?_) (fun hltg=>?_)
    ·have hg':g<b.gs.length:=O
     have hnx:=fun s:RO×KV=>hnext (g+1,s)
     have hto:askTo b (g+1)=askGear b g (askTo b g) 99:=rfl
     simp only [hto] at hnx
     generalize askTo b g=acc0 at hnx⊢
     refine Xz<|Xv<|Xb<|Xm W W<|Ae W<|Xo W W<|Xb<|X.loopI (ι:=Nat×RO×KV) C.1 (fun s=>s.1≤99∧ro3.le s.2.1∧MapOk s.2.1 b s.2.2)
      (fun s=> [(1, .pointer (some ⟨p1,0,none⟩)),(2, .int .i64 (askGear b g acc0 s.1).1),(3, .int .i64 (askGear b g acc0 s.1).2.1),(4, .int .i64 (askGear b g acc0 s.1).2.2),(6, .pointer (some ⟨p6,0,none⟩)),(7, .map (some p24)),(10, .int .i64 (g:Int)),(11, .int .i64 ((s.1+1:Nat):Int)),(45, .int .i64 (b.gs.length:Int)),(46, .int .i64 (g:Int))])
      (fun s=>⟨s.2.1,(p24,mapO (cntKV Cn))::_::(m,mapO s.2.2)::_::tail⟩) (fun s=>99-s.1) (0,ro4,kv4) ⟨Nat.zero_le _,hle4,hm4⟩ rfl ⟨U,U,U,U,U,U,U,U,U,U,trivial⟩ fun s hs' hnext2=>?_
     obtain⟨w,ro5,kv5⟩:=s
     obtain⟨hw,hle5,hm5⟩:=hs'
     simp only at hw hle5 hm5 hnext2⊢
     refine Xx W<|Ro W<|Ri Z b_leq<|Zj U (fun hltw=>?_) (fun hltw=>?_)
     ·have hw':w<99:=O
      have hnx2:=fun s:RO×KV=>hnext2 (w+1,s)
      have hgo:askGear b g acc0 (w+1)=askStep b (askGear b g acc0 w) g ((w+1:Nat):Int):=rfl
      simp only [hgo] at hnx2
      generalize askGear b g acc0 w=acc at hnx2⊢
      have hhg:=hheld g ((w+1:Nat):Int)
      have hhb:=hhle g ((w+1:Nat):Int)
      simp only [askStep] at hnx2
      generalize heldOf b g ((w+1:Nat):Int)=hO at hhg hhb hnx2
      refine Xz<|Xv<|Xb<|Xo W W<|Xx W<|Ro W<|R.rangeO C U U U A276 V fun q54=>Rz<|Xb<|X.loopI (ι:=List Nat×RO×KV) C.1 (fun s=>s.1.Nodup∧(∀j∈s.1,j<Cn.length)∧ro3.le s.2.1∧MapOk s.2.1 b s.2.2)
       (fun s=> [(1, .pointer (some ⟨p1,0,none⟩)),(2, .int .i64 acc.1),(3, .int .i64 acc.2.1),(4, .int .i64 acc.2.2),(6, .pointer (some ⟨p6,0,none⟩)),(7, .map (some p24)),(10, .int .i64 (g:Int)),(11, .int .i64 ((w+1:Nat):Int)),(12, .int .i64 (heldS (fun p=>lifts b p g ((w+1:Nat):Int)) Cn s.1:Int)),(45, .int .i64 (b.gs.length:Int)),(46, .int .i64 (g:Int)),(54, .pointer (some ⟨q54,0,none⟩))])
       (fun s=>⟨s.2.1,(q54,iterO p24 (cntKV Cn).length s.1)::(p24,mapO (cntKV Cn))::_::(m,mapO s.2.2)::_::tail⟩) (fun s=>Cn.length-s.1.length) ([],ro5,kv5) ⟨List.nodup_nil,fun _ h=>absurd h List.not_mem_nil,hle5,hm5⟩ rfl ⟨U,U,U,U,U,U,U,U,U,U,U,U,trivial⟩ fun s hs' hnext3=>?_
      obtain⟨seen,ro6,kv6⟩:=s
      obtain⟨hnd,hsl,hle6,hm6⟩:=hs'
      simp only at hnd hsl hle6 hm6 hnext3⊢
      have hhs:=heldS_le (p:=fun p=>lifts b p g ((w+1:Nat):Int)) hnd hsl
      refine Xu W<|R.nextO (r:=p24) (kv:=cntKV Cn) (seen:=seen) C U U U V (fun _=>V) (fun hall=>?_) (fun j key val hj hns=>?_)
      ·
       rw [hkl] at hall
       have hend:heldS (fun p=>lifts b p g ((w+1:Nat):Int)) Cn seen=hO:=by rw [heldS_all hnd hsl hall,hhg]
       rw [hend]
       refine Re Z<|FF 56 U (by rfl)<|Rz<|Xv<|Xc U (fun h=>nomatch h) (fun _=>?_)
       refine Xe U<|Xm W W<|Rv 6 W A228 U B226<|Rj W G226 V U<|Rt W A226<|Ro W<|Ri Z (b_sub O O)<|R.max2 C U U U U<|Ae W<|Xm W W<|Ro W<|Ri Z b_lss<|Zj U (fun hbet=>?_) (fun hbet=>?_)
       ·rw [if_pos hbet] at hnx2
        refine Xg W<|Oo W W<|Ro W<|Rg Y<|Rg Y<|Ae W<|Xi<|Xg W<|Ro W<|Rb Y<|Ae W<|X.drop C.1 (own':=_::_::_::_::tail) (List.sublist_cons_self _ _)<|X.weaken ?_ (hnx2 (ro6,kv6) ⟨hw',hle6,hm6⟩ O)
        exact⟨rfl,rfl,rfl,rfl,rfl,rfl,rfl,by simp [look],rfl,rfl,trivial⟩
       ·rw [if_neg hbet] at hnx2
        refine Xz<|Xi<|Xg W<|Ro W<|Rb Y<|Ae W<|X.drop C.1 (own':=_::_::_::_::tail) (List.sublist_cons_self _ _)<|X.weaken ?_ (hnx2 (ro6,kv6) ⟨hw',hle6,hm6⟩ O)
        exact⟨rfl,rfl,rfl,rfl,rfl,rfl,rfl,by simp [look],rfl,rfl,trivial⟩
      ·
       obtain⟨n,hcn,rfl⟩:=cntKV_at hj
       have hjl:j<Cn.length:=(List.getElem?_eq_some_iff.1 hcn).1
       have hk4:=hC4 _ (List.mem_of_getElem? hcn)
       have hnl:=cnt_le (List.mem_of_getElem? hcn)
       simp only at hk4 hnl
       have hsn:=heldS_snoc (fun p=>lifts b p g ((w+1:Nat):Int)) Cn seen j
       have hva:valAt (fun p=>lifts b p g ((w+1:Nat):Int)) Cn j=if lifts b key g ((w+1:Nat):Int) then n else 0:=by simp [valAt,hcn]
       have hnd2:(seen++ [j]).Nodup:=by
        rw [List.nodup_append]
        exact⟨hnd,by simp,fun a ha c hc e=>by rw [List.mem_singleton] at hc;subst hc;subst e;exact hns ha⟩
       have hsl2:∀i∈seen++ [j],i<Cn.length:=fun i hi=>by
        rcases List.mem_append.1 hi with hi|hi
        ·exact hsl i hi
        ·rw [List.mem_singleton] at hi;subst hi;exact hjl
       have hll:=nat_nodup_len hnd2 hsl2
       rw [List.length_append,List.length_singleton] at hll
       have hnx3:=fun s:RO×KV=>hnext3 (seen++ [j],s)
       simp only [hsn,hva] at hnx3
       have hlc:=lifts_c hJ (hv3.mono hle6) hb (g:=(g:Int)) O (l:=((w+1:Nat):Int)) O (p:=key) hk4 (m:=m) hm6
       obtain⟨x1,x2,x3,x4,rfl⟩:∃x1 x2 x3 x4,key= [x1,x2,x3,x4]:=by
        match key,hk4 with
        | [x1,x2,x3,x4],_=>exact⟨_,_,_,_,rfl⟩
       refine Re Z<|FT 56 U (by rfl)<|Rz<|Xv<|Xc U (fun _=>?_) (fun h=>nomatch h)
       refine Xz<|Xb<|Xu W<|R.entryO (r:=p24) (kv:=cntKV Cn) (seen:=seen) (j:=j) C U U U V V hj<|Re Z<|Re Z<|Al W zeroValue234 U fun p13=>Rs Z B234 Y V Ph4<|Ae W<|Xu W<|Rv 0 W A228 U B225<|Rq W G225 B225 V Tk6<|Rq W G234 B234 V Tk4<|Oo W W ?_;refine R.build C U U U K240 U A240 Kr (Fills.part U U B3 U (.here .nil) (Fills.part U U B3 U (.skip (.here .nil)) .nil))<|R.perm C.1 (by exact pm4)<|R.call C U U U U (pre:= [_]) U hlc fun w7 ro7 pre7 hl7 hp7=>?_
       obtain⟨rfl,kv7,rfl,hm7⟩:=hp7
       refine Zc U (fun hlf=>?_) (fun hlf=>?_)
       ·simp only [hlf,if_true] at hnx3
        refine Xg W<|Oo W W<|Rb Y<|Ae W<|Xi<|X.drop C.1 (own':=_::_::_::_::_::tail) (.cons_cons _ (List.sublist_cons_self _ _))<|X.perm C.1 (by exact pm3.symm)<|X.weaken ?_ (hnx3 (ro7,kv7) ⟨hnd2,hsl2,RO.le_trans hle6 hl7,hm7⟩ (by simp only [List.length_append,List.length_singleton];omega))
        exact⟨rfl,rfl,rfl,rfl,rfl,rfl,rfl,rfl,by simp [look],rfl,rfl,rfl,trivial⟩
       ·simp only [hlf,Bool.false_eq_true,if_false,Nat.add_zero] at hnx3
        refine Xz<|Xi<|X.drop C.1 (own':=_::_::_::_::_::tail) (.cons_cons _ (List.sublist_cons_self _ _))<|X.perm C.1 (by exact pm3.symm)<|X.weaken ?_ (hnx3 (ro7,kv7) ⟨hnd2,hsl2,RO.le_trans hle6 hl7,hm7⟩ (by simp only [List.length_append,List.length_singleton];omega))
        exact⟨U,U,U,U,U,U,U,U,U,U,U,U,trivial⟩
     ·obtain rfl:w=99:=by omega
      refine Xe U<|Xi<|Xg W<|Rb Y<|Ro W<|Rz<|X.weaken ?_ (hnx (ro5,kv5) ⟨hg',hle5,hm5⟩ O)
      exact⟨rfl,rfl,rfl,rfl,rfl,rfl,rfl,by simp [look],trivial⟩
    ·obtain rfl:g=b.gs.length:=by omega
     refine Xe U<|Xm W W<|Oo W W<|Rg Y<|Rg Y<|Rg Y<|Ae W<|X.ret C U U func57 U (by exact(.tmp U (.tmp U (.tmp U (.tmp U .nil)))))<|Hr hret (RO.le_trans hl3 hle4) ?_
     rfl
end Go.Lg.B
set_option maxRecDepth 100000
namespace Go.Lg.B
open Go Go.Conc Go.Lg Go.Proofs Go.Proofs.Tryz
variable {zs:List (Value×List Int)}{P:Program}{ro:RO}{v:Value}{xs:List Int}
theorem ones_pt(xs:List Pt):ones (xs.flatMap Pt.cells)=true:=ones_flat (fun _=>rfl) xs
theorem ones_pc(xs:List Pc):ones (xs.flatMap Pc.cells)=true:=ones_flat (fun _=>rfl) xs
theorem ones_ts(xs:List Ts):ones (xs.flatMap Ts.cells)=true:=ones_flat (fun _=>rfl) xs
theorem ones_in(xs:List Int):ones (xs.flatMap ic)=true:=ones_flat (fun _=>rfl) xs
def sv(z:Value×List Int):List Value:= [z.1]
theorem sv_len(z:Value×List Int):(sv z).length=1:=rfl
theorem ones_sv(h:∀z∈zs,capOk z.1):ones (zs.flatMap sv)=true:=by
 induction zs with
 |nil=>rfl
 |cons z zs ih=>
  obtain⟨bs,len,cap,e,_⟩:=h z List.mem_cons_self
  simp only [List.flatMap_cons,sv,e,List.cons_append,List.nil_append,ones,oneCell,Bool.true_and]
  exact ih fun y hy=>h y (List.mem_cons_of_mem _ hy)
theorem Closed.persist{main:Bool}{J:Goroutine→Mem→Prop}(hJ:Closed P main J){g:Goroutine}{own:List (Nat×Obj)}{b:Nat}{o:Obj}(h:∀ro':RO,ro.le ro'→ro' b=some o→J g ⟨ro',own⟩):J g ⟨ro,(b,o)::own⟩:=
 hJ.ghost _ _ fun _ hw=>⟨_,good_persist hw,h _ (good_persist hw).le (by simp [RO.set])⟩
theorem toR{main:Bool}{J:Goroutine→Mem→Prop}(hJ:Closed P main J){α:Type}{enc:α→List Value}{e:TypeId}{k:Nat}{fv:Value}{args:List Value}{xs:List α}(hk:∀x,(enc x).length=k)(hkp:0<k)
  (h:CallV P J fv args ro [] fun v ro' pre'=>ro'=ro∧Buf e k [] v (xs.flatMap enc) pre'):CallR P J fv args ro fun v ro'=>Ls enc k ro' v xs∧capOk v:=by
 intro c cs tail hret
 refine h c cs tail fun v ro' pre' hl ⟨e1,hb⟩=>?_
 have hco:=hb.capOk
 have hfl:=flatMap_len hk xs
 generalize hc:xs.flatMap enc=cl at hb hfl
 cases hb with
 |nil=>
  have:xs= []:=by
   cases xs with
   |nil=>rfl
   |cons x xs=>simp only [List.length_nil,List.length_cons,Nat.add_mul,Nat.one_mul] at hfl;omega
  subst this
  exact hret _ ro' [] hl ⟨⟨.nil,hco⟩,rfl⟩
 | @blk p len cap _ spare h1 h2 h3=>
  have e2:len=xs.length:=by rw [h1] at hfl;exact Nat.eq_of_mul_eq_mul_right hkp hfl
  subst e2
  refine Closed.persist hJ fun ro2 hl2 hp=>hret _ ro2 [] (RO.le_trans hl hl2) ⟨⟨⟨_,_,rfl, .inr ⟨p,0,_,_,_,rfl,hp, ?_⟩⟩,hco⟩,rfl⟩
  have:=Sub.front cl spare
  rw [h1] at this
  rw [hc];exact this
variable {main:Bool}{J:Goroutine→Mem→Prop}(hJ:Closed prog main J)
include hJ
theorem cloneP_c{xs:List Pt}(hls:Ls Pt.cells 4 ro v xs)(hn:xs.length≤1000000):CallV prog J (fnv 226) [v] ro [] (fun v' ro' pre'=>ro'=ro∧Buf 169 4 [] v' (xs.flatMap Pt.cells) pre'):=by
 have hls0:=hls
 obtain⟨base,cap,rfl,hbase⟩:=hls
 refine CallV.intro (first:= []) (cap:= []) hJ Kr fun c cs tail hret=>?_
 have hfl:=flatMap_len Pt.len xs
 refine enter_X (n:=8) func226 U U (Nl U) ?_
 have C:Ctx prog main J (bf 226 .normal):=⟨hJ,by decide⟩
 refine Xo W W<|Xx W<|Ro W<|R.eqNil C U U U U A22<|Zc U (fun hz=>?_) (fun hz=>?_)
 ·have hx:xs= []:=by
   rcases hbase with h|⟨_,_,_,_,_,h,_⟩
   ·exact h
   ·rw [h] at hz;cases hz
  subst hx
  refine Xo W W<|Xw func226 ?_
  exact hret _ _ [] _ (RO.le_refl _) ⟨rfl, .nil⟩ (.refl _)
 ·refine Xz<|Xu W<|R.buildSlice C (vs:=_) U U (show pvals _ _=some (numbered 0 []) from rfl) U A22 B169 K169 Dd (.nil) fun p5=>Ro W<|R.append (kk:=4) C U U U U A22 A22 (fun _=>nofun) (show prog.info? 169=some Tryz.t169 by kernel_rfl) U U U Dd Dd (Buf.blk (cells:= []) (spare:= []) (len:=0) (cap:=0) U U (Nat.le_refl _)) (hls0.rd Pt.len) (ones_pt xs) (by simp only [List.length_nil];omega) fun v' own' hb'=>Ae W<|Xw func226 ?_
  obtain⟨own0,rfl,hb0⟩:=Buf.unapp (tail:= []) (H:=tail) hb'
  exact hret _ _ own0 _ (RO.le_refl _) ⟨rfl,hb0⟩ (.refl _)
theorem clonePR_c{xs:List Pt}(hls:Ls Pt.cells 4 ro v xs)(hn:xs.length≤1000000):CallR prog J (fnv 226) [v] ro (fun v' ro'=>Ls Pt.cells 4 ro' v' xs∧capOk v'):=toR hJ Pt.len Dd (cloneP_c hJ hls hn)
theorem cloneT_c{xs:List Ts}(hls:Ls Ts.cells 3 ro v xs)(hn:xs.length≤1000000):CallV prog J (fnv 228) [v] ro [] (fun v' ro' pre'=>ro'=ro∧Buf 105 3 [] v' (xs.flatMap Ts.cells) pre'):=by
 have hls0:=hls
 obtain⟨base,cap,rfl,hbase⟩:=hls
 refine CallV.intro (first:= []) (cap:= []) hJ Kr fun c cs tail hret=>?_
 have hfl:=flatMap_len Ts.len xs
 refine enter_X (n:=8) func228 U U (Nl U) ?_
 have C:Ctx prog main J (bf 228 .normal):=⟨hJ,by decide⟩
 refine Xo W W<|Xx W<|Ro W<|R.eqNil C U U U U A25<|Zc U (fun hz=>?_) (fun hz=>?_)
 ·have hx:xs= []:=by
   rcases hbase with h|⟨_,_,_,_,_,h,_⟩
   ·exact h
   ·rw [h] at hz;cases hz
  subst hx
  refine Xo W W<|Xw func228 ?_
  exact hret _ _ [] _ (RO.le_refl _) ⟨rfl, .nil⟩ (.refl _)
 ·refine Xz<|Xu W<|R.buildSlice C (vs:=_) U U (show pvals _ _=some (numbered 0 []) from rfl) U A25 B105 K105 Dd (.nil) fun p5=>Ro W<|R.append (kk:=3) C U U U U A25 A25 (fun _=>nofun) (show prog.info? 105=some Tryz.t105 by kernel_rfl) U U U Dd Dd (Buf.blk (cells:= []) (spare:= []) (len:=0) (cap:=0) U U (Nat.le_refl _)) (hls0.rd Ts.len) (ones_ts xs) (by simp only [List.length_nil];omega) fun v' own' hb'=>Ae W<|Xw func228 ?_
  obtain⟨own0,rfl,hb0⟩:=Buf.unapp (tail:= []) (H:=tail) hb'
  exact hret _ _ own0 _ (RO.le_refl _) ⟨rfl,hb0⟩ (.refl _)
theorem cloneTR_c{xs:List Ts}(hls:Ls Ts.cells 3 ro v xs)(hn:xs.length≤1000000):CallR prog J (fnv 228) [v] ro (fun v' ro'=>Ls Ts.cells 3 ro' v' xs∧capOk v'):=toR hJ Ts.len Dd (cloneT_c hJ hls hn)
theorem cloneC_c{xs:List Pc}(hls:Ls Pc.cells 3 ro v xs)(hn:xs.length≤1000000):CallV prog J (fnv 154) [v] ro [] (fun v' ro' pre'=>ro'=ro∧Buf 251 3 [] v' (xs.flatMap Pc.cells) pre'):=by
 have hls0:=hls
 obtain⟨base,cap,rfl,hbase⟩:=hls
 refine CallV.intro (first:= []) (cap:= []) hJ Kr fun c cs tail hret=>?_
 have hfl:=flatMap_len Pc.len xs
 refine enter_X (n:=8) func154 U U (Nl U) ?_
 have C:Ctx prog main J (bf 154 .normal):=⟨hJ,by decide⟩
 refine Xo W W<|Xx W<|Ro W<|R.eqNil C U U U U A24<|Zc U (fun hz=>?_) (fun hz=>?_)
 ·have hx:xs= []:=by
   rcases hbase with h|⟨_,_,_,_,_,h,_⟩
   ·exact h
   ·rw [h] at hz;cases hz
  subst hx
  refine Xo W W<|Xw func154 ?_
  exact hret _ _ [] _ (RO.le_refl _) ⟨rfl, .nil⟩ (.refl _)
 ·refine Xz<|Xu W<|R.buildSlice C (vs:=_) U U (show pvals _ _=some (numbered 0 []) from rfl) U A24 B251 K251 Dd (.nil) fun p5=>Ro W<|R.append (kk:=3) C U U U U A24 A24 (fun _=>nofun) (show prog.info? 251=some Tryz.t251 by kernel_rfl) U U U Dd Dd (Buf.blk (cells:= []) (spare:= []) (len:=0) (cap:=0) U U (Nat.le_refl _)) (hls0.rd Pc.len) (ones_pc xs) (by simp only [List.length_nil];omega) fun v' own' hb'=>Ae W<|Xw func154 ?_
  obtain⟨own0,rfl,hb0⟩:=Buf.unapp (tail:= []) (H:=tail) hb'
  exact hret _ _ own0 _ (RO.le_refl _) ⟨rfl,hb0⟩ (.refl _)
theorem cloneCR_c{xs:List Pc}(hls:Ls Pc.cells 3 ro v xs)(hn:xs.length≤1000000):CallR prog J (fnv 154) [v] ro (fun v' ro'=>Ls Pc.cells 3 ro' v' xs∧capOk v'):=toR hJ Pc.len Dd (cloneC_c hJ hls hn)
theorem cloneI_c(hls:Ls ic 1 ro v xs)(hn:xs.length≤1000000):CallV prog J (fnv 123) [v] ro [] (fun v' ro' pre'=>ro'=ro∧Buf 3 1 [] v' (xs.flatMap ic) pre'):=by
 have hls0:=hls
 obtain⟨base,cap,rfl,hbase⟩:=hls
 refine CallV.intro (first:= []) (cap:= []) hJ Kr fun c cs tail hret=>?_
 have hfl:=flatMap_len ic_len xs
 refine enter_X (n:=8) func123 U U (Nl U) ?_
 have C:Ctx prog main J (bf 123 .normal):=⟨hJ,by decide⟩
 refine Xo W W<|Xx W<|Ro W<|R.eqNil C U U U U A58<|Zc U (fun hz=>?_) (fun hz=>?_)
 ·have hx:xs= []:=by
   rcases hbase with h|⟨_,_,_,_,_,h,_⟩
   ·exact h
   ·rw [h] at hz;cases hz
  subst hx
  refine Xo W W<|Xw func123 ?_
  exact hret _ _ [] _ (RO.le_refl _) ⟨rfl, .nil⟩ (.refl _)
 ·refine Xz<|Xu W<|R.buildSlice C (vs:=_) U U (show pvals _ _=some (numbered 0 []) from rfl) U A58 B3 K3 Dd (.nil) fun p5=>Ro W<|R.append (kk:=1) C U U U U A58 A58 (fun _=>nofun) (show prog.info? 3=some Tryz.t3 by kernel_rfl) U U U Dd Dd (Buf.blk (cells:= []) (spare:= []) (len:=0) (cap:=0) U U (Nat.le_refl _)) (hls0.rd ic_len) (ones_in xs) (by simp only [List.length_nil];omega) fun v' own' hb'=>Ae W<|Xw func123 ?_
  obtain⟨own0,rfl,hb0⟩:=Buf.unapp (tail:= []) (H:=tail) hb'
  exact hret _ _ own0 _ (RO.le_refl _) ⟨rfl,hb0⟩ (.refl _)
theorem cloneIR_c(hls:Ls ic 1 ro v xs)(hn:xs.length≤1000000):CallR prog J (fnv 123) [v] ro (fun v' ro'=>Ls ic 1 ro' v' xs∧capOk v'):=toR hJ ic_len Dd (cloneI_c hJ hls hn)
theorem cloneG_c(hls:Ls sv 1 ro v zs)(hz1:∀z∈zs,capOk z.1)(hn:zs.length≤1000000):CallV prog J (fnv 227) [v] ro [] (fun v' ro' pre'=>ro'=ro∧Buf 58 1 [] v' (zs.flatMap sv) pre'):=by
 have hls0:=hls
 obtain⟨base,cap,rfl,hbase⟩:=hls
 refine CallV.intro (first:= []) (cap:= []) hJ Kr fun c cs tail hret=>?_
 have hfl:=flatMap_len sv_len zs
 refine enter_X (n:=8) func227 U U (Nl U) ?_
 have C:Ctx prog main J (bf 227 .normal):=⟨hJ,by decide⟩
 refine Xo W W<|Xx W<|Ro W<|R.eqNil C U U U U A23<|Zc U (fun hz=>?_) (fun hz=>?_)
 ·have hx:zs= []:=by
   rcases hbase with h|⟨_,_,_,_,_,h,_⟩
   ·exact h
   ·rw [h] at hz;cases hz
  subst hx
  refine Xo W W<|Xw func227 ?_
  exact hret _ _ [] _ (RO.le_refl _) ⟨rfl, .nil⟩ (.refl _)
 ·refine Xz<|Xu W<|R.buildSlice C (vs:=_) U U (show pvals _ _=some (numbered 0 []) from rfl) U A23 B58 K58 Dd (.nil) fun p5=>Ro W<|R.append (kk:=1) C U U U U A23 A23 (fun _=>nofun) (show prog.info? 58=some Tryz.t58 by kernel_rfl) U U U Dd Dd (Buf.blk (cells:= []) (spare:= []) (len:=0) (cap:=0) U U (Nat.le_refl _)) (hls0.rd sv_len) (ones_sv hz1) (by simp only [List.length_nil];omega) fun v' own' hb'=>Ae W<|Xw func227 ?_
  obtain⟨own0,rfl,hb0⟩:=Buf.unapp (tail:= []) (H:=tail) hb'
  exact hret _ _ own0 _ (RO.le_refl _) ⟨rfl,hb0⟩ (.refl _)
end Go.Lg.B
set_option maxRecDepth 100000
namespace Go.Lg.B
open Go Go.Conc Go.Lg Go.Proofs Go.Proofs.Tryz
variable {b:Bk}{zs:List (Value×List Int)}{sp:List Value}{i:Nat}{v:Value}
def noBk:Value:= .agg [.int .i64 0, .slice none 0 0, .slice none 0 0, .slice none 0 0, .slice none 0 0].toArray
def NewV(ro:RO)(b:Bk)(h:Int)(w:Value):Prop:=(h≠0∧w= .tuple [noBk, .int .i64 h].toArray)∨(h=0∧∃v,BkV ro v b∧w= .tuple [v, .int .i64 0].toArray)
theorem openH_zero:openH b 0=if checkBook b≠0 then checkBook b else if cases b= [] then 9 else 0:=by simp [openH]
theorem sv_at(h:i<zs.length):(zs.flatMap sv++sp)[0+((i:Int)).toNat*1]? =some zs[i].1:=by
 have e:zs.flatMap sv=zs.map (·.1):=by
  clear h
  induction zs with
  |nil=>rfl
  |cons z zs ih=>simp [sv,ih]
 rw [Int.toNat_natCast,Nat.zero_add,Nat.mul_one,e,List.getElem?_append_left (by simpa using h)]
 simp [h]
theorem sv_put(h:i<zs.length)(v:Value):Put (0+((i:Int)).toNat*1) [v] (zs.flatMap sv++sp) ((zs.set i (v,zs[i].2)).flatMap sv++sp):=by
 have e:∀l:List (Value×List Int),l.flatMap sv=l.map (·.1):=fun l=>by
  induction l with
  |nil=>rfl
  |cons z l ih=>simp [sv,ih]
 rw [Int.toNat_natCast,Nat.zero_add,Nat.mul_one,e,e]
 have h2:=put_set (zs.map (·.1)++sp) i v Zo
 rw [List.set_append,if_pos (by simpa using h)] at h2
 rw [List.map_set]
 exact h2
theorem set_same_snd(h:i<zs.length)(v:Value):(zs.set i (v,zs[i].2)).map (·.2)=zs.map (·.2):=by
 rw [List.map_set]
 apply List.ext_getElem?
 intro j
 rw [List.getElem?_set]
 split
 ·rename_i e;subst e;simp [h]
 ·rfl
theorem Buf.blkOf{e:TypeId}{own:List (Nat×Obj)}(h:Buf e 1 [] v (zs.flatMap sv) own)(hz:zs≠ []):∃p cap spare,v= .slice (some ⟨p,0,none⟩) zs.length cap∧zs.length≤cap∧own= [(p, .cells (zs.flatMap sv++spare).toArray e (0,0))]:=by
 have hl:=flatMap_len sv_len zs
 generalize hc:zs.flatMap sv=cl at h hl
 cases h with
 |nil=>
  simp at hl
  exact absurd (List.length_eq_zero_iff.1 O) hz
 | @blk p len cap _ spare h1 h2 h3=>
  obtain rfl:len=zs.length:=by omega
  exact⟨p,cap,spare,rfl,h3,rfl⟩
variable {main:Bool}{J:Goroutine→Mem→Prop}(hJ:Closed prog main J)
include hJ
theorem agreed_c{ro:RO}(he:Env ro)(hv:BkV ro v b)(hs:b.short):CallR prog J (fnv 156) [v] ro (fun w ro'=>NewV ro' b (openH b 0) w):=by
 have hvv:=hv
 obtain⟨vp,vg,vc,vt,rfl,hv⟩:=hv
 have hv':=hv
 obtain⟨_,_,rfl⟩:=hv.1.form
 obtain⟨_,_,rfl⟩:=hv.2.1.form
 obtain⟨_,_,rfl⟩:=hv.2.2.1.form
 obtain⟨_,_,rfl⟩:=hv.2.2.2.form
 refine ER 50 hJ func156 W fun c cs tail hret C=>Xu W<|Bx Z fun p1=>Al W K27 U fun p2=>Ae W<|Xx W<|Rq W G27 B27 V Tk5<|Cp Z (checkBook_c hJ (by assumption) (by assumption) (by assumption))<|Ae W<|Xm W W<|Ri Z b_neq<|Zc U (fun hh=>?_) (fun hh=>?_)
 ·have hh:checkBook b≠0:=by simpa using hh
  have e:openH b 0=checkBook b:=by rw [openH,if_pos hh]
  refine Xu W ?_;refine R.build C U U U K27 U A27 Kr .nil<|Ro W<|Rs Z B27 Y V Ph5<|Ae W<|X.ret C U U func156 U (by exact(.agg U G27 B27 V Tk5 (.tmp U .nil)))<|Hr hret (RO.le_refl _) ?_
  rw [e];exact .inl ⟨hh,rfl⟩
 ·have hh:checkBook b=0:=by simpa using hh
  have hb:=good_of hh
  have hnp:=hb.np
  have hng:=hb.ng
  have hnc:=hb.nc
  have hnt:=hb.nt
  refine Xz<|Xx W<|Rq W G27 B27 V Tk5<|R.call C U U U U (pre:= []) U (yardOf_c hJ hv') fun w1 ro1 pre1 hl1 hp1=>?_
  obtain⟨rfl,m,rfl,rfl⟩:=hp1
  refine R.call C U U U U (pre:= [_]) U (some_c hJ hv' hb (m:=m) (kv:= []) (fun x hx=>absurd hx (List.not_mem_nil))) fun w4 ro4 pre4 hl4 hp4=>?_
  obtain⟨rfl,rfl⟩:=hp4
  refine Rh Y<|Zc U (fun hc=>?_) (fun hc=>?_)
  ·have hc:cases b= []:=by simpa using hc
   have e:openH b 0=9:=by rw [openH,if_neg (fun h=>h hh),if_neg Zi,if_pos hc]
   refine Xu W ?_;refine R.build C U U U K27 U A27 Kr .nil<|Rs Z B27 Y V Ph5<|Ae W<|X.ret C U U func156 U (by exact(.agg U G27 B27 V Tk5 (.tmp U .nil)))<|Hr hret hl4 ?_
   rw [e];exact .inl ⟨by decide,rfl⟩
  ·have hc:cases b≠ []:=by simpa using hc
   have e:openH b 0=0:=by rw [openH,if_neg (fun h=>h hh),if_neg Zi,if_neg hc]
   have hv4:=hv'.mono hl4
   obtain⟨zs,hzl,hzg,hzo⟩:=hv4.2.1
   have hzlen:zs.length=b.gs.length:=by rw [←hzg,List.length_map]
   refine Xz<|Xv<|Xf fun hok=>Dh 1 0 Y A27 U B22<|Dl 1 hok (fun _ _ A h=>R.loadOne C U (A.w U U) (A.x U U) G22 Vm U h)<|Dh 2 3 Y A27 U B23<|Dl 4 hok (fun _ _ A h=>R.loadOne C U (A.w U U) (A.x U U) G23 Vm U h)<|Dh 3 6 Y A27 U B24<|Dl 7 hok (fun _ _ A h=>R.loadOne C U (A.w U U) (A.x U U) G24 Vm U h)<|Dh 4 9 Y A27 U B25<|Dl 10 hok (fun _ _ A h=>R.loadOne C U (A.w U U) (A.x U U) G25 Vm U h)<|De 2 (some 20) [true,true,true,false] hok (fun _ _ A hk=>?_)
   refine R.callR C U (A.w U U) (A.x U U) (A.s U U) (clonePR_c hJ hv4.1 O) fun v20 ro20 hl20 hp20=>hk _ _ ⟨(QFs.cons (QF.of U (fun _ _ A h=>R.loadOne C U (A.w U U) (A.x U U) G25 Vm U h)) (QFs.cons (QF.of U (fun _ _ A h=>R.loadOne C U (A.w U U) (A.x U U) G24 Vm U h)) (QFs.cons (QF.of U (fun _ _ A h=>R.loadOne C U (A.w U U) (A.x U U) G23 Vm U h)) QFs.nil))), ?_⟩
   refine Dh 1 12 Y A27 U B22<|De 5 (some 23) [true,true,false] hok (fun _ _ A hk=>?_)
   obtain⟨hls20,hco20⟩:=hp20
   obtain⟨b20,c20,rfl⟩:=hls20.form
   refine R.call C U (A.w U U) (A.x U U) (A.s U U) (pre:= []) U (cloneG_c hJ (hzl.mono hl20) (fun z hz=>(hzo z hz).2) O) fun v23 ro23 pre23 hl23 hp23=>hk _ _ ⟨(QFs.cons (QF.of U (fun _ _ A h=>R.loadOne C U (A.w U U) (A.x U U) G25 Vm U h)) (QFs.cons (QF.of U (fun _ _ A h=>R.loadOne C U (A.w U U) (A.x U U) G24 Vm U h)) QFs.nil)), ?_⟩
   obtain⟨hro23,hbG⟩:=hp23
   subst hro23
   obtain⟨pg,capg,spg,rfl,hcapg,rfl⟩:=Buf.blkOf hbG (by intro h;rw [h] at hzlen;simp at hzlen;omega)
   refine De 8 (some 26) [true,false] hok (fun _ _ A hk=>?_)
   refine R.callR C U (A.w U U) (A.x U U) (A.s U U) (cloneCR_c hJ (hv4.2.2.1.mono (RO.le_trans hl20 hl23)) O) fun v26 ro26 hl26 hp26=>hk _ _ ⟨(QFs.cons (QF.of U (fun _ _ A h=>R.loadOne C U (A.w U U) (A.x U U) G25 Vm U h)) QFs.nil), ?_⟩
   refine De 11 (some 29) [false] hok (fun _ _ A hk=>?_)
   obtain⟨hls26,hco26⟩:=hp26
   obtain⟨b26,c26,rfl⟩:=hls26.form
   have hl426:=RO.le_trans hl20 (RO.le_trans hl23 hl26)
   refine R.callR C U (A.w U U) (A.x U U) (A.s U U) (cloneTR_c hJ (hv4.2.2.2.mono hl426) O) fun v29 ro29 hl29 hp29=>hk _ _ ⟨QFs.nil, ?_⟩
   refine De 13 none [] hok (fun _ _ A hk=>?_)
   obtain⟨hls29,hco29⟩:=hp29
   obtain⟨b29,c29,rfl⟩:=hls29.form
   refine R.store C U (A.w U U) (A.x U U) (A.x U U) B22 U U U (by repeat (first|exact Uh|apply Ut|apply Upd.app)) (.skip (.here .nil)) (hk undef _ ⟨QFs.nil, ?_⟩)
   refine Dh 2 14 Y A27 U B23<|De 15 none [] hok (fun _ _ A hk=>?_)
   refine R.store C U (A.w U U) (A.x U U) (A.x U U) B23 U U U (by repeat (first|exact Uh|apply Ut|apply Upd.app)) (.skip (.skip (.here .nil))) (hk undef _ ⟨QFs.nil, ?_⟩)
   refine Dh 3 16 Y A27 U B24<|De 17 none [] hok (fun _ _ A hk=>?_)
   refine R.store C U (A.w U U) (A.x U U) (A.x U U) B24 U U U (by repeat (first|exact Uh|apply Ut|apply Upd.app)) (.skip (.skip (.skip (.here .nil)))) (hk undef _ ⟨QFs.nil, ?_⟩)
   refine Dh 4 18 Y A27 U B25<|De 19 none [] hok (fun _ _ A hk=>?_)
   refine R.store C U (A.w U U) (A.x U U) (A.x U U) B25 U U U (by repeat (first|exact Uh|apply Ut|apply Upd.app)) (.skip (.skip (.skip (.skip (.here .nil))))) (hk undef _ ⟨QFs.nil, ?_⟩)
   refine Dn<|Xx W<|Rv 2 W A27 U B23<|R.loadOne C U U U G23 Vm U<|Rt W A23<|Ro W<|Rz<|Xb ?_
   have hl429:=RO.le_trans hl426 hl29
   refine X.loopI (ι:=Nat×List (Value×List Int)×RO) C.1 (fun s=>s.1≤b.gs.length∧s.2.1.map (·.2)=b.gs∧ro29.le s.2.2∧∀z∈s.2.1,LsI s.2.2 z.1 z.2∧capOk z.1)
    (fun s=> [(1, .pointer (some ⟨p1,0,none⟩)),(2, .pointer (some ⟨p2,0,none⟩)),(35, .slice (some ⟨pg,0,none⟩) b.gs.length capg),(36, .int .i64 (b.gs.length:Int)),(37, .int .i64 (s.1:Int))])
    (fun s=>⟨s.2.2,(pg, .cells (s.2.1.flatMap sv++spg).toArray 58 (0,0))::(p2,_)::(p1,_)::tail⟩) (fun s=>b.gs.length-s.1) (0,zs,ro29) ⟨Nat.zero_le _,hzg,RO.le_refl _,fun z hz=>⟨(hzo z hz).1.mono hl429,(hzo z hz).2⟩⟩ rfl ⟨rfl,rfl,by rw [hzlen];rfl,by rw [hzlen];rfl,rfl,trivial⟩ fun s hs' hnext=>?_
   obtain⟨i,zs2,ro2⟩:=s
   obtain⟨hi,hmap,hle2,hz2⟩:=hs'
   simp only at hi hmap hle2 hz2 hnext⊢
   have hz2len:zs2.length=b.gs.length:=by rw [←hmap,List.length_map]
   refine Xu W<|Ri Z b_lss<|Rz<|Xv<|Xj U (fun hlt=>?_) (fun hlt=>?_)
   ·have hi':i<zs2.length:=O
    have hzm:=hz2 _ (List.getElem_mem hi')
    have hgi:zs2[i].2∈b.gs:=by rw [←hmap];exact List.mem_map.2 ⟨_,List.getElem_mem hi',rfl⟩
    have hgl:=nodup_len (hb.gs _ hgi).2.2 (hb.gs _ hgi).2.1
    have hput:=fun v=>sv_put (sp:=spg) hi' v
    have hset:=fun v=>set_same_snd hi' v
    have hat:=sv_at (sp:=spg) hi'
    have hmem2:=fun(v:Value) (z:Value×List Int)=>List.mem_or_eq_of_mem_set (l:=zs2) (i:=i) (a:=z) (b:=(v,zs2[i].2))
    generalize zs2[i]=zi at hzm hgl hput hset hat hmem2
    obtain⟨bz,cz,hzf⟩:=hzm.1.form
    refine Xz<|Xv<|Xb<|Xm W W<|Ry Y A23 B58<|R.loadOne C U U U G58 V hat<|Rg Y<|Ae W<|Xf fun hok=>Dh 2 0 Y A27 U B23<|Db 1 W G23 V U<|Dt 2 Y<|Dt 3 Y<|De 4 (some 46) [true] hok (fun _ _ A hk=>?_)
    refine R.callR C U (A.w U U) (A.x U U) (A.s U U) (cloneIR_c hJ hzm.1 O) fun v46 ro46 hl46 hp46=>hk _ _ ⟨(QFs.cons (QF.of U (fun _ _ A h=>R.loadOne C U (A.w U U) (A.x U U) G23 V U h)) QFs.nil), ?_⟩
    obtain⟨hls46,hco46⟩:=hp46
    obtain⟨b46,c46,rfl⟩:=hls46.form
    refine Dw 5 Y A23 B58<|De 6 none [false] hok (fun _ _ A hk=>?_)
    refine R.store C U (A.w U U) (A.x U U) (A.x U U) B58 U U U V (hput _) (hk undef _ ⟨QFs.nil, ?_⟩)
    refine Dn<|Xi<|Xg W<|Rb Y<|Ro W<|Rz<|X.weaken ?_ (hnext (i+1,zs2.set i (.slice b46 zi.2.length c46,zi.2),ro46) ⟨O,by rw [hset,hmap],RO.le_trans hle2 hl46,fun z hz=>?_⟩ (by simp only;omega))
    ·exact⟨rfl,rfl,rfl,rfl,by simp [look],trivial⟩
    ·rcases hmem2 _ z hz with h|h
     ·exact⟨(hz2 z h).1.mono hl46,(hz2 z h).2⟩
     ·subst h;exact⟨hls46,hco46⟩
   ·refine Xe U<|Xu W<|Rq W G27 B27 V Tk5<|Rs Z B27 Y V Ph5<|Ae W<|X.persist C.1 fun ro3 hl3 hpg=>?_
    have hl43:=RO.le_trans hle2 hl3
    refine X.ret C U U func156 U (by exact(.agg U G27 B27 V Tk5 (.tmp U .nil)))<|Hr hret (RO.le_trans hl4 (RO.le_trans hl429 hl43)) ?_
    rw [e]
    refine .inr ⟨rfl,_,⟨_,_,_,_,rfl,hls20.mono (RO.le_trans hl23 (RO.le_trans hl26 (RO.le_trans hl29 hl43))),⟨zs2,⟨_,_,by rw [hz2len, ←hzlen], .inr ⟨pg,0,_,_,_,rfl,hpg, ?_⟩⟩,hmap,fun z hz=>⟨(hz2 z hz).1.mono hl3,(hz2 z hz).2⟩⟩,hls26.mono (RO.le_trans hl29 hl43),hls29.mono hl43⟩,rfl⟩
    have:=Sub.front (zs2.flatMap sv) spg
    rw [flatMap_len sv_len] at this
    exact this
end Go.Lg.B
set_option maxRecDepth 100000
namespace Go.Lg.B
open Go Go.Conc Go.Lg Go.Proofs Go.Proofs.Tryz
variable {α:Type}{k:Nat}{ro:RO}{v:Value}{b:Bk}
def Rc.meet(r y:Rc):Rc:=⟨max r.lo y.lo,min r.hi y.hi⟩
def knownH(r y:Rc)(l:Int):Int:=if !isReach y l 99 then 1 else if(r.meet y).hi<(r.meet y).lo then 9 else 0
def Bk.weighed(b:Bk)(i:Nat)(r:Rc):Bk:={b with cs:=b.cs.modify i fun p=>{p with r:=r} }
def Bk.tried(b:Bk)(t:Ts):Bk:={b with ts:=b.ts++ [t] }
def Bk.part(b:Bk)(i:Int):Pt:=b.ps.getD i.toNat default
def Bk.piece(b:Bk)(i:Int):Pc:=b.cs.getD i.toNat default
def weighH(b:Bk)(i:Int)(y:Rc):Int:=
 if checkBook b≠0 then checkBook b else if there i b.cs.length≠0 then there i b.cs.length else if knownH (b.piece i).r y 1≠0 then knownH (b.piece i).r y 1 else openH (b.weighed i.toNat ((b.piece i).r.meet y)) 0
theorem modify_flat{α:Type}{enc:α→List Value}{k:Nat}(hk:∀x,(enc x).length=k)(f:α→α):∀ (l:List α) (i:Nat) (sp:List Value) (off:Nat) (vs:List Value),i<l.length→(∀x,l[i]? =some x→Put off vs (enc x) (enc (f x)))→Put (i*k+off) vs (l.flatMap enc++sp) ((l.modify i f).flatMap enc++sp)
 |x::l,0,sp,off,vs,_,h=>by
  have h1:=h x rfl
  rw [List.modify_zero_cons,List.flatMap_cons,List.flatMap_cons,Nat.zero_mul,Nat.zero_add,List.append_assoc,List.append_assoc]
  generalize l.flatMap enc++sp=T
  clear h
  generalize enc x=a at h1⊢
  generalize enc (f x)=a' at h1⊢
  induction h1 with
  |nil=>exact .nil
  |here _ ih=>exact .here ih
  |skip _ ih=>exact .skip ih
 |x::l,i+1,sp,off,vs,hi,h=>by
  have ih:=modify_flat hk f l i sp off vs (by simpa using hi) (fun y hy=>h y (by simpa using hy))
  rw [List.modify_succ_cons,List.flatMap_cons,List.flatMap_cons,List.append_assoc,List.append_assoc]
  have e:(i+1)*k+off=(enc x).length+(i*k+off):=by rw [hk,Nat.add_mul];omega
  rw [e]
  generalize(enc x)=a
  induction a with
  |nil=>rw [List.length_nil,Nat.zero_add];exact ih
  |cons y a iha=>rw [List.length_cons,List.cons_append,List.cons_append,show a.length+1+(i*k+off)=(a.length+(i*k+off))+1 by omega];exact .skip iha
theorem flat_get{enc:α→List Value}(hk:∀x,(enc x).length=k){l:List α}{i j:Nat}{sp:List Value}(hi:i<l.length)(hj:j<k):(l.flatMap enc++sp)[i*k+j]? =(enc l[i])[j]? :=by
 have h1:i*k+j<(l.flatMap enc).length:=by
  rw [flatMap_len hk]
  have:(i+1)*k≤l.length*k:=Nat.mul_le_mul_right k hi
  rw [Nat.add_mul] at this;omega
 rw [List.getElem?_append_left h1]
 have h2:=flatMap_part hk l i hi
 rw [←h2,List.getElem?_take,if_pos hj,List.getElem?_drop]
variable {main:Bool}{J:Goroutine→Mem→Prop}(hJ:Closed prog main J)
include hJ
theorem known_c{pb off:Nat}{t:TypeId}{l l':List Value}{r y:Rc}{k:Int}(h0:l[off]? =some (.int .i64 r.lo))(h1:l[off+1]? =some (.int .i64 r.hi))(hp:Put off [.int .i64 (max r.lo y.lo), .int .i64 (min r.hi y.hi)] l l')
  (h0':l'[off]? =some (.int .i64 (max r.lo y.lo))) (h1':l'[off+1]? =some (.int .i64 (min r.hi y.hi))):
  CallV prog J (fnv 155) [.pointer (some ⟨pb,off,none⟩),y.val, .int .i64 k] ro [(pb, .cells l.toArray t (0,0))] fun w ro' pre'=>w= .int .i64 (knownH r y k)∧ro'=ro∧(knownH r y k=0→pre'= [(pb, .cells l'.toArray t (0,0))])∧∃l2,pre'= [(pb, .cells (l2:List Value).toArray t (0,0))]:=by
 refine CallV.intro (first:= []) (vs:= [_,_,_]) (cap:= []) hJ Kr fun c cs tail hret=>enter_X (n:=37) func155 U U (Nl U) ?_
 have C:Ctx prog main J (bf 155 .normal):=⟨hJ,by decide⟩
 refine Xu W<|Bx Z fun p4=>Ae W<|Xx W<|Rq W G45 B45 V Tk2<|Ro W<|Cp Z (isReach_c hJ _ _ _ _)<|Rh Y<|Zc U (fun hq=>?_) (fun hq=>?_)
 ·refine Xo W W<|Xw func155 ?_
  have e:knownH r y k=1:=by rw [knownH,if_pos hq]
  exact hret _ _ [_] _ (RO.le_refl _) ⟨by rw [e];rfl,rfl,fun h=>absurd h (by rw [e];decide),_,rfl⟩ (by repeat (first|exact Sr|apply Sk|apply Sc))
 ·refine Xz<|Xv<|Xf fun hok=>Dt 0 Y<|Dt 1 Y<|Dp 2 hok (fun _ _ _ A h=>R.nilCheck C U (A.w U U) (A.x U U) h)<|Df C 3 hok U U U A45 U B3 U<|Db 4 W G3 V h0<|Dh 0 5 Y A45 U B3<|Db 6 W G3 V U<|Dp 7 hok (fun _ _ _ A h=>R.max2 C U (A.w U U) (A.x U U) (A.x U U) h)<|Dt 8 Y<|Dp 9 hok (fun _ _ _ A h=>R.nilCheck C U (A.w U U) (A.x U U) h)<|Df C 10 hok U U U A45 U B3 U<|Db 11 W G3 V h1<|Dh 1 12 Y A45 U B3<|Db 13 W G3 V U<|Dp 14 hok (fun _ _ _ A h=>R.min2 C U (A.w U U) (A.x U U) (A.x U U) h) ?_;refine Dp 15 hok (fun _ _ _ A h=>R.build C U (A.w U U) (A.p U U) K45 U A45 Kr (Fills.part U U B3 U (.here .nil) (Fills.part U U B3 U (.skip (.here .nil)) .nil)) h)<|Dp 16 hok (fun _ _ _ A h=>R.nilCheck C U (A.w U U) (A.x U U) h)<|De 17 none [false,false,false,false] hok (fun _ _ A hk=>?_)
  refine R.store C U (A.w U U) (A.x U U) (A.x U U) B45 U U U V hp (hk undef _ ⟨QFs.nil, ?_⟩)
  refine Dn<|Xv<|Xv<|Xf fun hok=>Dt 0 Y<|Dp 1 hok (fun _ _ _ A h=>R.nilCheck C U (A.w U U) (A.x U U) h)<|Df C 2 hok U U U A45 U B3 U<|Db 3 W G3 V h0'<|Dt 4 Y<|Dp 5 hok (fun _ _ _ A h=>R.nilCheck C U (A.w U U) (A.x U U) h)<|Df C 6 hok U U U A45 U B3 U<|Db 7 W G3 V h1'<|Dj 8 Y5 b_gtr<|Dn<|Xc U (fun hg=>?_) (fun hg=>?_)
  ·refine Xo W W<|Xw func155 ?_
   have e:knownH r y k=9:=by rw [knownH,if_neg (by simp [hq]),if_pos (by simpa [Rc.meet] using hg)]
   exact hret _ _ [_] _ (RO.le_refl _) ⟨by rw [e];rfl,rfl,fun h=>absurd h (by rw [e];decide),_,rfl⟩ (by repeat (first|exact Sr|apply Sk|apply Sc))
  ·refine Xz<|Xo W W<|Xw func155 ?_
   have e:knownH r y k=0:=by rw [knownH,if_neg (by simp [hq]),if_neg (by simpa [Rc.meet] using hg)]
   exact hret _ _ [_] _ (RO.le_refl _) ⟨by rw [e];rfl,rfl,fun _=>rfl,_,rfl⟩ (by repeat (first|exact Sr|apply Sk|apply Sc))
omit hJ in
theorem bound{P:Program}{J:Goroutine→Mem→Prop}{f:FuncId}{first vs:List Value}{pr:List (Nat×Obj)}{Post:Value→RO→List (Nat×Obj)→Prop}(h:CallV P J (.func (.func f) first.toArray #[]) vs ro pr Post):CallV P J (fnv f) (first++vs) ro pr Post:=fun c cs tail hk=>by
 have:=h c cs tail hk
 simpa [Entry] using this
omit hJ in
theorem blk_of{e:TypeId}{enc:α→List Value}{xs:List α}{own:List (Nat×Obj)}(hk:∀x,(enc x).length=k)(hkp:0<k)(h:Buf e k [] v (xs.flatMap enc) own)(hz:xs≠ []):∃p cap spare,v= .slice (some ⟨p,0,none⟩) xs.length cap∧xs.length≤cap∧own= [(p, .cells (xs.flatMap enc++spare).toArray e (0,0))]:=by
 have hl:=flatMap_len hk xs
 generalize hc:xs.flatMap enc=cl at h hl
 cases h with
 |nil=>
  cases xs with
  |nil=>exact absurd rfl hz
  |cons x xs=>simp only [List.length_nil,List.length_cons,Nat.add_mul,Nat.one_mul] at hl;omega
 | @blk p len cap _ spare h1 h2 h3=>
  have e2:len=xs.length:=by rw [h1] at hl;exact Nat.eq_of_mul_eq_mul_right hkp hl
  subst e2
  exact⟨p,cap,spare,rfl,h3,rfl⟩
omit hJ in
theorem Bk.short.weighed(h:b.short)(i:Nat)(r:Rc):(b.weighed i r).short:=by
 refine⟨h.ps,h.gs,⟨by simpa [Bk.weighed] using h.cs.1,fun p hp=>?_⟩,h.ts⟩
 obtain⟨j,hj,rfl⟩:=List.mem_iff_getElem.1 hp
 simp only [Bk.weighed,List.getElem_modify]
 split
 ·exact h.cs.2 (b.cs[j]'(by simpa [Bk.weighed] using hj)) (List.getElem_mem _)
 ·exact h.cs.2 _ (List.getElem_mem _)
theorem weigh_c(he:Env ro)(hv:BkV ro v b)(hs:b.short)(i:Int)(y:Rc):CallR prog J (fnv 58) [v, .int .i64 i,y.val] ro (fun w ro'=>NewV ro' (b.weighed i.toNat ((b.piece i).r.meet y)) (weighH b i y) w):=by
 have hvv:=hv
 obtain⟨vp,vg,vc,vt,rfl,hv⟩:=hv
 have hv':=hv
 obtain⟨pb,pcap,rfl⟩:=hv.1.form
 obtain⟨gb,gcap,rfl⟩:=hv.2.1.form
 obtain⟨cb,ccap,rfl⟩:=hv.2.2.1.form
 obtain⟨tb,tcap,rfl⟩:=hv.2.2.2.form
 refine ER 44 hJ F58 W fun c cs tail hret C=>Xu W<|Bx Z fun p3=>Bx Z fun p5=>Al W K27 U fun p6=>Ae W<|Xx W<|Rq W G27 B27 V Tk5<|Cp Z (checkBook_c hJ (by assumption) (by assumption) (by assumption))<|Ae W<|Xm W W<|Ri Z b_neq<|Zc U (fun hh=>?_) (fun hh=>?_)
 ·have hh:checkBook b≠0:=by simpa using hh
  have e:weighH b i y=checkBook b:=by rw [weighH,if_pos hh]
  refine Xu W ?_;refine R.build C U U U K27 U A27 Kr .nil<|Ro W<|Rs Z B27 Y V Ph5<|Ae W<|X.ret C U U F58 U (by exact(.agg U G27 B27 V Tk5 (.tmp U .nil)))<|Hr hret (RO.le_refl _) ?_
  rw [e];exact .inl ⟨hh,rfl⟩
 ·have hh:checkBook b=0:=by simpa using hh
  have hb:=good_of hh
  have hn:=hb.nc
  refine Xz<|Xx W<|Ro W<|Rq W G27 B27 V Tk5<|R.call C U U U U (pre:= []) U (yardOf_c hJ hv') fun w1 ro1 pre1 hl1 hp1=>?_
  obtain⟨rfl,m,rfl,rfl⟩:=hp1
  refine Cp Z (bound (askPiece_c hJ hv' hb i m))<|Ae W<|Xm W W<|Ri Z b_neq<|Zc U (fun hi0=>?_) (fun hi0=>?_)
  ·have hi0:there i b.cs.length≠0:=by simpa using hi0
   have e:weighH b i y=there i b.cs.length:=by rw [weighH,if_neg (fun h=>h hh),if_pos hi0]
   refine Xu W ?_;refine R.build C U U U K27 U A27 Kr .nil<|Ro W<|Rs Z B27 Y V Ph5<|Ae W<|X.ret C U U F58 U (by exact(.agg U G27 B27 V Tk5 (.tmp U .nil)))<|Hr hret (RO.le_refl _) ?_
   rw [e];exact .inl ⟨hi0,rfl⟩
  ·have hi0:there i b.cs.length=0:=by simpa using hi0
   have hib:=there_zero.1 hi0
   have hil:i.toNat<b.cs.length:=O
   have hpi:b.piece i=b.cs[i.toNat]:=by simp [Bk.piece,List.getD_eq_getElem?_getD,hil]
   have e0:weighH b i y=if knownH (b.piece i).r y 1≠0 then knownH (b.piece i).r y 1 else openH (b.weighed i.toNat ((b.piece i).r.meet y)) 0:=by rw [weighH,if_neg (fun h=>h hh),if_neg (fun h=>h hi0)]
   refine Xz<|Xu W<|Rv 3 W A27 U B24<|Rj W G24 V U<|R.call C U U U U (pre:= []) U (cloneC_c hJ hv'.2.2.1 O) fun w2 ro2 pre2 hl2 hp2=>?_
   obtain⟨hro2,hbuf⟩:=hp2
   subst hro2
   obtain⟨p9,cap9,sp9,rfl,hcap9,rfl⟩:=blk_of Pc.len Dd hbuf (by intro h;rw [h] at hil;exact absurd hil (Nat.not_lt_zero _))
   have hmf:=modify_flat (enc:=Pc.cells) (k:=3) Pc.len (fun p=>{p with r:=(b.piece i).r.meet y}) b.cs i.toNat sp9 1 [.int .i64 (max (b.piece i).r.lo y.lo), .int .i64 (min (b.piece i).r.hi y.hi)] hil (fun x _=> .skip Ph2)
   have hml:(b.cs.modify i.toNat fun p=>{p with r:=(b.piece i).r.meet y}).length=b.cs.length:=by simp
   have g0:=flat_get (sp:=sp9) Pc.len (l:=b.cs) hil (show 1<3 by decide)
   have g1:=flat_get (sp:=sp9) Pc.len (l:=b.cs) hil (show 1+1<3 by decide)
   have g2:=flat_get (sp:=sp9) Pc.len (l:=b.cs.modify i.toNat fun p=>{p with r:=(b.piece i).r.meet y}) (i:=i.toNat) (by rw [hml];exact hil) (show 1<3 by decide)
   have g3:=flat_get (sp:=sp9) Pc.len (l:=b.cs.modify i.toNat fun p=>{p with r:=(b.piece i).r.meet y}) (i:=i.toNat) (by rw [hml];exact hil) (show 1+1<3 by decide)
   rw [List.getElem_modify,if_pos rfl] at g2 g3
   rw [←hpi] at g0 g1
   have eo:0+i.toNat*3+1=i.toNat*3+1:=O
   have hkc:=known_c hJ (pb:=p9) (t:=251) (off:=0+i.toNat*3+1) (k:=1) (ro:=ro2) (r:=(b.piece i).r) (y:=y) (by rw [eo];exact g0) (by rw [eo];exact g1) (by rw [eo];exact hmf) (by rw [eo];exact g2) (by rw [eo];exact g3)
   refine Rv 3 W A27 U B24<|Rs Z B24 Y V (.skip (.skip (.skip (.here .nil))))<|Rz<|Xv<|Xv<|Xf fun hok=>Dh 3 0 Y A27 U B24<|Db 1 W G24 V U<|Dt 2 Y<|Dw 3 Y A24 B251<|Df C 4 hok U U U A251 U B45 U<|D5 C 5 hok U U G45 B45 V Tk2<|De 6 (some 35) [false,false] hok (fun _ _ A hk=>?_)
   refine R.call C U (A.w U U) (A.x U U) (A.s U U) (pre:= [_]) U hkc fun w3 ro3 pre3 hl3 hp3=>hk _ _ ⟨QFs.nil, ?_⟩
   obtain⟨rfl,hro3,hk0,l2,rfl⟩:=hp3
   subst hro3
   refine Da C 7 hok U U<|Dn<|Xm W W<|Ri Z b_neq<|Zc U (fun hk=>?_) (fun hk=>?_)
   ·have hk:knownH (b.piece i).r y 1≠0:=by simpa using hk
    have e:weighH b i y=knownH (b.piece i).r y 1:=by rw [e0,if_pos hk]
    refine Xu W ?_;refine R.build C U U U K27 U A27 Kr .nil<|Ro W<|Rs Z B27 Y V Ph5<|Ae W<|X.ret C U U F58 U (by exact(.agg U G27 B27 V Tk5 (.tmp U .nil)))<|Hr hret (RO.le_refl _) ?_
    rw [e];exact .inl ⟨hk,rfl⟩
   ·have hk:knownH (b.piece i).r y 1=0:=by simpa using hk
    have e:weighH b i y=openH (b.weighed i.toNat ((b.piece i).r.meet y)) 0:=by rw [e0,if_neg (fun h=>h hk)]
    rw [hk0 hk]
    refine Xz<|Xv<|X.persist C.1 fun ro4 hl4 h9=>?_
    have hls:Ls Pc.cells 3 ro4 (.slice (some ⟨p9,0,none⟩) b.cs.length cap9) (b.cs.modify i.toNat fun p=>{p with r:=(b.piece i).r.meet y}):=⟨_,_,by rw [hml], .inr ⟨p9,0,_,_,_,rfl,h9,by rw [←flatMap_len Pc.len];exact Sub.front _ _⟩⟩
    have hv4:=hv'.mono hl4
    have hag:=agreed_c hJ (b:=b.weighed i.toNat ((b.piece i).r.meet y)) (he.mono hl4) ⟨_,_,_,_,rfl,hv4.1,hv4.2.1,hls,hv4.2.2.2⟩ (hs.weighed _ _)
    refine Xg W<|Rq W G27 B27 V Tk5<|R.callR C U U U U (hag) fun w5 ro5 hl5 hp5=>?_
    rcases hp5 with⟨h1,rfl⟩|⟨h1,v5,hv5,rfl⟩
    ·
     refine Re Z<|Re Z<|Rs Z B27 Y V Ph5<|Ae W<|X.ret C U U F58 U (by exact(.agg U G27 B27 V Tk5 (.tmp U .nil)))<|Hr hret (RO.le_trans hl4 hl5) ?_
     rw [e];exact .inl ⟨h1,rfl⟩
    ·
     have hv5':=hv5
     obtain⟨_,_,_,_,rfl,hv5⟩:=hv5
     obtain⟨_,_,rfl⟩:=hv5.1.form
     obtain⟨_,_,rfl⟩:=hv5.2.1.form
     obtain⟨_,_,rfl⟩:=hv5.2.2.1.form
     obtain⟨_,_,rfl⟩:=hv5.2.2.2.form
     refine Re Z<|Re Z<|Rs Z B27 Y V Ph5<|Ae W<|X.ret C U U F58 U (by exact(.agg U G27 B27 V Tk5 (.tmp U .nil)))<|Hr hret (RO.le_trans hl4 hl5) ?_
     rw [e];exact .inr ⟨h1,_,hv5',rfl⟩
end Go.Lg.B
set_option maxRecDepth 100000
namespace Go.Lg.B
open Go Go.Conc Go.Lg Go.Proofs Go.Proofs.Tryz
variable {ro:RO}{x y:Int}{b:Bk}{v va vb:Value}{a d:List Int}
theorem Ls.lit{α:Type}{enc:α→List Value}{k:Nat}{p cap:Nat}{xs:List α}{t:TypeId}{fq:Nat×Nat}(hk:∀x,(enc x).length=k)(h:ro p=some (.cells (xs.flatMap enc).toArray t fq)):Ls enc k ro (.slice (some ⟨p,0,none⟩) xs.length cap) xs:=by
 refine⟨_,_,rfl, .inr ⟨p,0,_,_,_,rfl,h, ?_⟩⟩
 have:=Sub.front (xs.flatMap enc) []
 rw [List.append_nil,flatMap_len hk] at this
 exact this
theorem cmpI_flip(x y:Int):cmpI y x= -cmpI x y:=by unfold cmpI;split<;>split<;>(try split)<;>omega
theorem cmpI_zero:cmpI x y=0↔x=y:=by unfold cmpI;split<;>(try split)<;>omega
theorem cmpI_neg:cmpI x y<0↔x<y:=by unfold cmpI;split<;>(try split)<;>omega
theorem cmpL_flip:∀a c:List Int,cmpL c a= -cmpL a c
 | [], []=>rfl
 | [],_::_=>rfl
 |_::_, []=>rfl
 |x::xs,y::ys=>by
  have h:=cmpI_flip x y
  have ih:=cmpL_flip xs ys
  simp only [cmpL]
  split<;>split<;>omega
theorem cmpL_zero:∀ {a c:List Int},cmpL a c=0→a=c
 | [], [],_=>rfl
 | [],_::_,h=>by simp [cmpL] at h
 |_::_, [],h=>by simp [cmpL] at h
 |x::xs,y::ys,h=>by
  simp only [cmpL] at h
  split at h
  ·contradiction
  ·rename_i hx
   simp only [ne_eq,Decidable.not_not] at hx
   rw [cmpI_zero.1 hx,cmpL_zero h]
theorem cmpL_refl:∀a:List Int,cmpL a a=0
 | []=>rfl
 |x::xs=>by
  have:cmpI x x=0:=cmpI_zero.2 rfl
  simp [cmpL,this,cmpL_refl xs]
def earlier(a c:List Int):Bool:=decide (cmpL a c<0)
def sameInts(a c:List Int):Bool:= !earlier a c && !earlier c a
def pullsR(b:Bk)(g n:Int):List Int×Int:=
 if checkBook b≠0 then([],checkBook b) else if there g b.gs.length≠0 then([],there g b.gs.length) else if loadH n≠0 then([],loadH n) else(pulls b g n,0)
def nmString:List UInt8:= [115,108,105,110,103]
def nmLuff:List UInt8:= [108,117,102,102]
def nmRope:List UInt8:= [114,111,112,101]
def nmChest:List UInt8:= [99,104,101,115,116]
def nmBar:List UInt8:= [98,97,114]
def exB:Bk:=⟨9, [⟨nmString,0,⟨30,30⟩⟩,⟨nmLuff,2,⟨20,22⟩⟩,⟨nmRope,0,⟨9,9⟩⟩], [[0,1,2], [0,2]], [⟨nmChest,⟨19,21⟩⟩,⟨nmBar,⟨8,8⟩⟩], []⟩
variable {main:Bool}{J:Goroutine→Mem→Prop}(hJ:Closed prog main J)
include hJ
theorem pullsR_c(he:Env ro)(hv:BkV ro v b)(hs:b.short)(g n:Int):CallR prog J (fnv 45) [v, .int .i64 g, .int .i64 n] ro (fun w ro'=>∃vl,LsI ro' vl (pullsR b g n).1∧w= .tuple [vl, .int .i64 (pullsR b g n).2].toArray):=by
 have hv':=hv
 obtain⟨vp,vg,vc,vt,rfl,hv⟩:=hv
 obtain⟨_,_,rfl⟩:=hv.1.form
 obtain⟨_,_,rfl⟩:=hv.2.1.form
 obtain⟨_,_,rfl⟩:=hv.2.2.1.form
 obtain⟨_,_,rfl⟩:=hv.2.2.2.form
 have hsg:=hs.gs.1
 refine ER 35 hJ func45 W fun c cs tail hret C=>Xu W<|Bx Z fun p3=>Rg Y<|Ae W<|Xx W<|Rq W G27 B27 V Tk5<|Cp Z (checkBook_c hJ (by assumption) (by assumption) (by assumption))<|Ae W<|Xm W W<|Ri Z b_neq<|Zc U (fun hh=>?_) (fun hh=>?_)
 ·have hh:checkBook b≠0:=by simpa using hh
  have e:pullsR b g n=([],checkBook b):=by rw [pullsR,if_pos hh]
  refine Xm W W<|Rg Y<|Ae W<|X.ret C U U func45 U (by exact(.tmp U (.tmp U .nil)))<|Hr hret (RO.le_refl _) ?_
  exact⟨_,by rw [e];exact .nil,by rw [e];rfl⟩
 ·have hh:checkBook b=0:=by simpa using hh
  refine Xz<|Xx W<|Ro W<|Rv 2 W A27 U B23<|Rj W G23 V U<|Rt W A23<|Cp Z (there_c hJ _ _ _ O O)<|Ae W<|Xm W W<|Ri Z b_neq<|Zc U (fun hg=>?_) (fun hg=>?_)
  ·have hg:there g b.gs.length≠0:=by simpa using hg
   have e:pullsR b g n=([],there g b.gs.length):=by rw [pullsR,if_neg (fun h=>h hh),if_pos hg]
   refine Xm W W<|Rg Y<|Ae W<|X.ret C U U func45 U (by exact(.tmp U (.tmp U .nil)))<|Hr hret (RO.le_refl _) ?_
   exact⟨_,by rw [e];exact .nil,by rw [e];rfl⟩
  ·have hg:there g b.gs.length=0:=by simpa using hg
   refine Xz<|Xx W<|Ro W<|Cp Z (load_c hJ _ _)<|Ae W<|Xm W W<|Ri Z b_neq<|Zc U (fun hn=>?_) (fun hn=>?_)
   ·have hn:loadH n≠0:=by simpa using hn
    have e:pullsR b g n=([],loadH n):=by rw [pullsR,if_neg (fun h=>h hh),if_neg (fun h=>h hg),if_pos hn]
    refine Xm W W<|Rg Y<|Ae W<|X.ret C U U func45 U (by exact(.tmp U (.tmp U .nil)))<|Hr hret (RO.le_refl _) ?_
    exact⟨_,by rw [e];exact .nil,by rw [e];rfl⟩
   ·have hn:loadH n=0:=by simpa using hn
    have e:pullsR b g n=(pulls b g n,0):=by rw [pullsR,if_neg (fun h=>h hh),if_neg (fun h=>h hg),if_neg (fun h=>h hn)]
    have hg:=there_zero.1 hg
    have hn:=loadH_zero.1 hn
    refine Xz<|Xu W<|Rq W G27 B27 V Tk5 ?_;refine R.build C U U U zeroValue222 U A222 Kr (Fills.part U U B27 U Ph5 .nil)<|Oo W W ?_;refine R.build C U U U K240 U A240 Kr (Fills.part U U B3 U (.here .nil) (Fills.part U U B3 U (.skip (.here .nil)) .nil))<|R.callR C U U U U (pulls_c hJ hv' (good_of hh) O O) fun v1 ro1 hl1 hp1=>Rg Y<|Ae W<|X.ret C U U func45 U (by exact(.tmp U (.tmp U .nil)))<|Hr hret hl1 ?_
    exact⟨_,by rw [e];exact hp1,by rw [e];rfl⟩
theorem earlier_c(ha:LsI ro va a)(hc:LsI ro vb d)(h1:a.length≤1000000)(h2:d.length≤1000000):CallP prog J (fnv 215) [va,vb] ro (.bool (earlier a d)):=by
 obtain⟨ab,ac,rfl⟩:=ha.form
 obtain⟨bb,bc,rfl⟩:=hc.form
 refine EP 36 hJ func215 W fun c cs tail hret C=>Xo W W<|Xx W<|Ae W<|Xb<|X.loopI (ι:=Nat) C.1 (fun i=>i≤a.length∧i≤d.length∧cmpL a d=cmpL (a.drop i) (d.drop i)) (fun i=> [(0, .slice ab a.length ac),(1, .slice bb d.length bc),(5, .int .i64 (i:Int))])
  (fun _=>⟨ro,tail⟩) (fun i=>d.length-i) 0 ⟨Nat.zero_le _,Nat.zero_le _,rfl⟩ rfl ⟨U,U,U,trivial⟩ fun i hi hnext=>?_
 obtain⟨hi,hi2,hcm⟩:=hi
 refine Xx W<|Oo W W<|Rt W A58<|Ri Z b_lss<|Zj U (fun hlt=>?_) (fun hlt=>?_)
 ·have hj':i<d.length:=O
  rw [List.drop_eq_getElem_cons hj'] at hcm
  obtain⟨pp2,off2,cap2,ll2,t2,fq2,hsl2,hrop2,hsub2⟩:=hc.at ic_len O
  cases hsl2
  have hx2:ll2[off2+i*1]? =some (.int .i64 d[i]):=by have:=(hsub2 i hj').get 0 Dd;simpa [ic] using this
  refine Xz<|Xv<|Xb<|Xv<|Xv<|Xf fun hok=>Dt 0 Y<|Dt 1 Y<|Ds C 2 hok U U A58<|Dj 3 Y5 b_geq<|Dt 4 Y<|D.fix (t:=16) U (fun hge=>?_) (fun hge=>?_)
  ·simp only [dT] at hge
   obtain rfl:i=a.length:=by omega
   refine Dr 5 U<|Dr 6 U<|Dr 7 U<|Dr 8 U<|Dr 9 U<|Dr 10 U<|Dr 11 U<|Dr 12 U<|Dr 13 U<|Dp 14 hok (fun _ _ _ A h=>R.pickT C U (A.w U U) (A.x U U) (A.x U U) h)<|Dn<|Xc U (fun _=>?_) (fun h=>nomatch h)
   refine Xu W<|Hq W func215 hret ?_
   rw [earlier,hcm,List.drop_length];rfl
  ·simp only [dF] at hge
   have hi':i<a.length:=O
   rw [List.drop_eq_getElem_cons hi',cmpL] at hcm
   obtain⟨pp,off,cap,ll,t,fq,hsl,hrop,hsub⟩:=ha.at ic_len O
   cases hsl
   have hx:ll[off+i*1]? =some (.int .i64 a[i]):=by have:=(hsub i hi').get 0 Dd;simpa [ic] using this
   refine Dt 5 Y<|Dt 6 Y<|Dw 7 Y A58 B3<|Dc 8 W G3 hrop hx<|Dt 9 Y<|Dt 10 Y<|Dw 11 Y A58 B3<|Dc 12 W G3 hrop2 hx2<|Dj 13 Y5 b_lss<|Dp 14 hok (fun _ _ _ A h=>R.pickF C U (A.w U U) (A.x U U) (A.x U U) h)<|Dn<|Xj U (fun hls=>?_) (fun hls=>?_)
   ·refine Xu W<|Hq W func215 hret ?_
    have:=cmpI_neg.2 hls
    rw [earlier,hcm,if_pos O,decide_eq_true this];rfl
   ·refine Xz<|Xv<|Xf fun hok=>Dt 0 Y<|Dt 1 Y<|Dw 2 Y A58 B3<|Dc 3 W G3 hrop hx<|Dt 4 Y<|Dt 5 Y<|Dw 6 Y A58 B3<|Dc 7 W G3 hrop2 hx2<|Dj 8 Y5 b_gtr<|Dn<|Xj U (fun hgt=>?_) (fun hgt=>?_)
    ·refine Xu W<|Hq W func215 hret ?_
     have h3:¬cmpI a[i] d[i]<0:=fun h=>by have:=cmpI_neg.1 h;omega
     have h4:cmpI a[i] d[i]≠0:=fun h=>by have:=cmpI_zero.1 h;omega
     rw [earlier,hcm,if_pos h4,decide_eq_false h3];rfl
    ·refine Xz<|Xi<|Xg W<|Ro W<|Rb Y<|Ae W ?_
     rw [if_neg (by rw [Decidable.not_not,cmpI_zero];omega)] at hcm
     refine X.weaken ?_ (hnext (i+1) ⟨hi',hj',hcm⟩ O)
     exact⟨rfl,rfl,by simp [look],trivial⟩
 ·obtain rfl:i=d.length:=by omega
  rw [List.drop_length] at hcm
  refine Xe U<|Xu W<|Hq W func215 hret ?_
  have:¬cmpL (a.drop d.length) []<0:=by cases a.drop d.length<;>simp [cmpL]
  rw [earlier,hcm,decide_eq_false this];rfl
theorem sameInts_c(ha:LsI ro va a)(hc:LsI ro vb d)(h1:a.length≤1000000)(h2:d.length≤1000000):CallP prog J (fnv 144) [va,vb] ro (.bool (sameInts a d)):=by
 refine EP 15 hJ func144 W fun c cs tail hret C=>Xo W W<|Xm W W<|Ro W<|Cp Z (earlier_c hJ ha hc h1 h2)<|Rh Y<|Ro W<|R.fix (t:=9) U (fun q1=>?_) (fun q1=>?_)
 ·refine Oo W W<|Cp Z (earlier_c hJ hc ha h2 h1)<|Rh Y<|Pp Z<|Hq W func144 hret ?_
  first|(simp_all [sameInts,retVal];done)
 ·refine Rp W<|Rp W<|Rp W<|Rp W<|Pf Z<|Hq W func144 hret ?_
  first|(simp_all [sameInts,retVal];done)
theorem list_c(ha:LsI ro va a)(hc:LsI ro vb d)(h1:a.length≤1000000)(h2:d.length≤1000000):CallP prog J (fnv 52) [va,vb] ro (.bool (sameInts a d)):=by
 refine EP 8 hJ func52 W fun c cs tail hret C=>Xo W W<|Xm W W<|Ro W<|Cp Z (sameInts_c hJ ha hc h1 h2)<|Hq W func52 hret ?_
 rfl
theorem reach_c(a z:Int)(ro:RO):CallP prog J (fnv 59) [.int .i64 a, .int .i64 z] ro (Rc.val ⟨a,z⟩):=by
 refine EP 8 hJ func59 W fun c cs tail hret C=>Xu W<|Al W K45 U fun p4=>Rz<|Xm W W<|Ro W ?_;refine R.build C U U U K45 U A45 Kr (Fills.part U U B3 U (.here .nil) (Fills.part U U B3 U (.skip (.here .nil)) .nil))<|Rs Z B45 Y V Ph2<|Rz<|X.ret C U U func59 U (by exact(.agg U G45 B45 V Tk2 .nil))<|Hp hret ?_
 rfl
theorem one_c(n:Int)(ro:RO):CallP prog J (fnv 131) [.int .i64 n] ro (Rc.val ⟨n,n⟩):=by
 refine EP 6 hJ func131 W fun c cs tail hret C=>Xu W<|Al W K45 U fun p2=>Rz<|Xm W W<|Ro W ?_;refine R.build C U U U K45 U A45 Kr (Fills.part U U B3 U (.here .nil) (Fills.part U U B3 U (.skip (.here .nil)) .nil))<|Rs Z B45 Y V Ph2<|Rz<|X.ret C U U func131 U (by exact(.agg U G45 B45 V Tk2 .nil))<|Hp hret ?_
 rfl
theorem example_c(ro:RO):CallR prog J (fnv 43) [] ro (fun v ro'=>BkV ro' v exB):=by
 refine ER 17 hJ func43 W fun c cs tail hret C=>Xu W<|Al W K27 U fun p0=>Rz<|Xu W<|Cp Z (one_c hJ _ _) ?_;refine R.build C U U U K169 U A169 Kr (Fills.part U U B9 U (.here .nil) (Fills.part U U B45 U (.skip (.skip Ph2)) .nil))<|Cp Z (reach_c hJ _ _ _) ?_;refine R.build C U U U K169 U A169 Kr (Fills.part U U B9 U (.here .nil) (Fills.part U U B3 U (.skip (.here .nil)) (Fills.part U U B45 U (.skip (.skip Ph2)) .nil)))<|Cp Z (one_c hJ _ _) ?_;refine R.build C U U U K169 U A169 Kr (Fills.part U U B9 U (.here .nil) (Fills.part U U B45 U (.skip (.skip Ph2)) .nil))<|R.buildSlice C (vs:=_) U U (show pvals _ _=some (numbered 0 [_,_,_]) from rfl) U A22 B169 K169 Dd ((.cons U U (.cons U U (.cons U U .nil)))) fun p7=>R.buildSlice C (vs:=_) U U (show pvals _ _=some (numbered 0 [_,_,_]) from rfl) U A58 B3 K3 Dd ((.cons U U (.cons U U (.cons U U .nil)))) fun p8=>R.buildSlice C (vs:=_) U U (show pvals _ _=some (numbered 0 [_,_]) from rfl) U A58 B3 K3 Dd ((.cons U U (.cons U U .nil))) fun p9=>R.buildSlice C (vs:=_) U U (show pvals _ _=some (numbered 0 [_,_]) from rfl) U A23 B58 K58 Dd ((.cons U U (.cons U U .nil))) fun p10=>Cp Z (reach_c hJ _ _ _) ?_;refine R.build C U U U K251 U A251 Kr (Fills.part U U B9 U (.here .nil) (Fills.part U U B45 U (.skip Ph2) .nil))<|Cp Z (one_c hJ _ _) ?_;refine R.build C U U U K251 U A251 Kr (Fills.part U U B9 U (.here .nil) (Fills.part U U B45 U (.skip Ph2) .nil))<|R.buildSlice C (vs:=_) U U (show pvals _ _=some (numbered 0 [_,_]) from rfl) U A24 B251 K251 Dd ((.cons U U (.cons U U .nil))) fun p15=>?_;refine R.build C U U U K27 U A27 Kr (Fills.part U U B3 U (.here .nil) (Fills.part U U B22 U (.skip (.here .nil)) (Fills.part U U B23 U (.skip (.skip (.here .nil))) (Fills.part U U B24 U (.skip (.skip (.skip (.here .nil)))) .nil))))<|Rs Z B27 Y V Ph5<|Rz<|X.persist C.1 fun ro1 hl1 h15=>X.persist C.1 fun ro2 hl2 h10=>X.persist C.1 fun ro3 hl3 h9=>X.persist C.1 fun ro4 hl4 h8=>X.persist C.1 fun ro5 hl5 h7=>?_
 have a45:=RO.le_trans hl4 hl5
 have a35:=RO.le_trans hl3 a45
 have a25:=RO.le_trans hl2 a35
 refine X.ret C U U func43 U (by exact(.agg U G27 B27 V Tk5 .nil))<|Hr hret (RO.le_trans hl1 a25)<|⟨_,_,_,_,rfl,Ls.lit (xs:=exB.ps) (cap:=3) Pt.len (show ro5 p7=some (.cells (exB.ps.flatMap Pt.cells).toArray 169 (0,0)) from h7),⟨[(.slice (some ⟨p8,0,none⟩) 3 3, [0,1,2]),(.slice (some ⟨p9,0,none⟩) 2 2, [0,2])],Ls.lit (enc:=fun z:Value×List Int=> [z.1]) (k:=1) (xs:= [(.slice (some ⟨p8,0,none⟩) 3 3, [0,1,2]),(.slice (some ⟨p9,0,none⟩) 2 2, [0,2])]) (cap:=2) (fun _=>rfl) (a35 _ _ h10),rfl,fun z hz=>?_⟩,Ls.lit (xs:=exB.cs) (cap:=2) Pc.len (show ro5 p15=some (.cells (exB.cs.flatMap Pc.cells).toArray 251 (0,0)) from a25 _ _ h15), .nil⟩
 simp only [List.mem_cons,List.not_mem_nil,or_false] at hz
 rcases hz with rfl|rfl
 ·exact⟨Ls.lit (xs:=([0,1,2]:List Int)) ic_len (hl5 _ _ h8),_,_,_,rfl,Nat.le_refl _⟩
 ·exact⟨Ls.lit (xs:=([0,2]:List Int)) ic_len (a45 _ _ h9),_,_,_,rfl,Nat.le_refl _⟩
theorem tried_c(hv:BkV ro v b)(hn:b.ts.length≤1000)(t:Ts):CallR prog J (fnv 44) [v,t.val] ro (fun w ro'=>BkV ro' w (b.tried t)):=by
 obtain⟨vp,vg,vc,vt,rfl,hv⟩:=hv
 obtain⟨pb,pcap,rfl⟩:=hv.1.form
 obtain⟨gb,gcap,rfl⟩:=hv.2.1.form
 obtain⟨cb,ccap,rfl⟩:=hv.2.2.1.form
 obtain⟨tb,tcap,rfl⟩:=hv.2.2.2.form
 have hfl:=flatMap_len Ts.len b.ts
 have htl:t.cells.length=3:=rfl
 have hts:(b.tried t).ts.flatMap Ts.cells=b.ts.flatMap Ts.cells++t.cells:=by simp [Bk.tried]
 refine ER 14 hJ func44 W fun c cs tail hret C=>Xu W<|Bx Z fun p2=>Bx Z fun p3=>Al W K27 U fun p4=>Rz<|Xv<|X.perm C.1 (List.Perm.swap _ _ _)<|X.persist C.1 fun ro1 hl1 hp3=>?_
 have hv1:=hv.mono hl1
 refine Xf fun hok=>Dh 4 1 Y A27 U B25<|Dl 2 hok (fun _ _ A h=>R.loadOne C U (A.w U U) (A.x U U) G25 Vm U h)<|Dl 4 hok (fun _ _ A h=>R.loadAggRo C U (A.w U U) (A.x U U) G105 B105 hp3 (by have:=Sub.front t.cells [];rwa [List.append_nil] at this) h)<|D.eP2 (i:=0) (i':=5) (dst:=(some 5)) (dst':=(some 10)) [true,true] [false,true] hok U U Kr Kr Kr (fun _ _ A hk=>?_) (fun _ _ A hk=>?_)
 ·
  refine R.buildSlice C (vs:=_) U (A.w U U) (show pvals _ _=some (numbered 0 []) from(A.p U U)) U A25 B105 K105 Dd (.nil) fun p5=>hk _ _ ⟨(QFs.cons (QF.of U (fun _ _ A h=>R.loadAggRo C U (A.w U U) (A.x U U) G105 B105 hp3 (by have:=Sub.front t.cells [];rwa [List.append_nil] at this) h)) (QFs.cons (QF.of U (fun _ _ A h=>R.loadOne C U (A.w U U) (A.x U U) G25 Vm U h)) QFs.nil)), ?_⟩
  refine D.eP2 (i:=3) (i':=5) (dst:=(some 8)) (dst':=(some 10)) [true,false] [false,true] hok U U Kr Kr Kr (fun _ _ A hk=>?_) (fun _ _ A hk=>?_)
  ·
   refine R.append (kk:=3) C U (A.w U U) (A.x U U) (A.x U U) A25 A25 (fun _=>nofun) (show prog.info? 105=some Tryz.t105 by kernel_rfl) U U U Dd Dd (Buf.blk (cells:= []) (spare:= []) (len:=0) (cap:=0) U U (Nat.le_refl _)) (hv1.2.2.2.rd Ts.len) (ones_ts b.ts) (by simp only [List.length_nil];omega) fun v' own' hb'=>hk _ _ ⟨(QFs.cons (QF.of U (fun _ _ A h=>R.loadAggRo C U (A.w U U) (A.x U U) G105 B105 hp3 (by have:=Sub.front t.cells [];rwa [List.append_nil] at this) h)) QFs.nil), ?_⟩
   refine De 5 (some 10) [false] hok (fun _ _ A hk=>?_)
   refine R.buildSlice C (vs:=_) U (A.w U U) (show pvals _ _=some (numbered 0 [_]) from(A.p U U)) U A25 B105 K105 Dd (Cat.one U U) fun p10=>hk _ _ ⟨QFs.nil, ?_⟩
   refine De 6 (some 11) [] hok (fun _ _ A hk=>?_)
   refine R.append1 (kk:=3) C U (A.w U U) (A.x U U) (A.x U U) A25 A25 (fun _=>nofun) (show prog.info? 105=some Tryz.t105 by kernel_rfl) U U U Dd Dd hb' U U (by(try simp only [List.length_append,List.length_cons,List.length_nil]);omega) fun v' own' hb'=>hk _ _ ⟨QFs.nil, ?_⟩
   refine Dh 4 7 Y A27 U B25<|De 8 none [] hok (fun _ _ A hk=>?_)
   obtain⟨own1,rfl,hb1⟩:=hb'.unapp (tail:= [])
   rw [List.nil_append, ←hts] at hb1
   refine R.store C U (A.w U U) (A.x U U) (A.x U U) B25 hb'.cells1 U hb'.ones1 (by repeat (first|exact Uh|apply Ut|apply Upd.app)) (.skip (.skip (.skip (.skip (.here .nil))))) (hk undef _ ⟨QFs.nil, ?_⟩)
   refine Dn<|Xv<|X.finish C.1 Ts.len Dd (hb1.app _) fun ro4 hl4 hls=>?_
   obtain⟨_,_,rfl⟩:=hls.form
   refine Xg W<|Rq W G27 B27 V Tk5<|Rs Z B27 Y V Ph5<|Rz<|X.ret C U U func44 U (by exact(.agg U G27 B27 V Tk5 .nil))<|Hr hret (RO.le_trans hl1 hl4) ?_
   exact⟨_,_,_,_,rfl,hv1.1.mono hl4,hv1.2.1.mono hl4,hv1.2.2.1.mono hl4,by simpa [Bk.tried] using hls⟩
  ·
   refine R.buildSlice C (vs:=_) U (A.w U U) (show pvals _ _=some (numbered 0 [_]) from(A.p U U)) U A25 B105 K105 Dd (Cat.one U U) fun p10=>hk _ _ ⟨(QFs.cons (QF.of U (fun _ _ A h=>R.loadOne C U (A.w U U) (A.x U U) G25 Vm U h)) QFs.nil), ?_⟩
   refine De 3 (some 8) [false] hok (fun _ _ A hk=>?_)
   refine R.perm C.1 (List.Perm.swap _ _ _)<|R.append (kk:=3) C U (A.w U U) (A.x U U) (A.x U U) A25 A25 (fun _=>nofun) (show prog.info? 105=some Tryz.t105 by kernel_rfl) U U U Dd Dd (Buf.blk (cells:= []) (spare:= []) (len:=0) (cap:=0) U U (Nat.le_refl _)) (hv1.2.2.2.rd Ts.len) (ones_ts b.ts) (by simp only [List.length_nil];omega) fun v' own' hb'=>hk _ _ ⟨QFs.nil, ?_⟩
   refine De 6 (some 11) [] hok (fun _ _ A hk=>?_)
   obtain⟨own0,rfl,hb0⟩:=hb'.unapp (tail:= [])
   refine R.perm C.1 List.perm_middle<|R.append1 (kk:=3) C U (A.w U U) (A.x U U) (A.x U U) A25 A25 (fun _=>nofun) (show prog.info? 105=some Tryz.t105 by kernel_rfl) U U U Dd Dd (hb0.app _) U U (by(try simp only [List.length_append,List.length_cons,List.length_nil]);omega) fun v' own' hb'=>hk _ _ ⟨QFs.nil, ?_⟩
   refine Dh 4 7 Y A27 U B25<|De 8 none [] hok (fun _ _ A hk=>?_)
   obtain⟨own1,rfl,hb1⟩:=hb'.unapp (tail:= [])
   rw [List.nil_append, ←hts] at hb1
   refine R.store C U (A.w U U) (A.x U U) (A.x U U) B25 hb'.cells1 U hb'.ones1 (by repeat (first|exact Uh|apply Ut|apply Upd.app)) (.skip (.skip (.skip (.skip (.here .nil))))) (hk undef _ ⟨QFs.nil, ?_⟩)
   refine Dn<|Xv<|X.finish C.1 Ts.len Dd (hb1.app _) fun ro4 hl4 hls=>?_
   obtain⟨_,_,rfl⟩:=hls.form
   refine Xg W<|Rq W G27 B27 V Tk5<|Rs Z B27 Y V Ph5<|Rz<|X.ret C U U func44 U (by exact(.agg U G27 B27 V Tk5 .nil))<|Hr hret (RO.le_trans hl1 hl4) ?_
   exact⟨_,_,_,_,rfl,hv1.1.mono hl4,hv1.2.1.mono hl4,hv1.2.2.1.mono hl4,by simpa [Bk.tried] using hls⟩
 ·
  refine R.buildSlice C (vs:=_) U (A.w U U) (show pvals _ _=some (numbered 0 [_]) from(A.p U U)) U A25 B105 K105 Dd (Cat.one U U) fun p10=>hk _ _ ⟨(QFs.cons (QF.of U (fun _ _ A h=>R.loadOne C U (A.w U U) (A.x U U) G25 Vm U h)) QFs.nil), ?_⟩
  refine De 0 (some 5) [true] hok (fun _ _ A hk=>?_)
  refine R.buildSlice C (vs:=_) U (A.w U U) (show pvals _ _=some (numbered 0 []) from(A.p U U)) U A25 B105 K105 Dd (.nil) fun p5=>hk _ _ ⟨(QFs.cons (QF.of U (fun _ _ A h=>R.loadOne C U (A.w U U) (A.x U U) G25 Vm U h)) QFs.nil), ?_⟩
  refine De 3 (some 8) [false] hok (fun _ _ A hk=>?_)
  refine R.append (kk:=3) C U (A.w U U) (A.x U U) (A.x U U) A25 A25 (fun _=>nofun) (show prog.info? 105=some Tryz.t105 by kernel_rfl) U U U Dd Dd (Buf.blk (cells:= []) (spare:= []) (len:=0) (cap:=0) U U (Nat.le_refl _)) (hv1.2.2.2.rd Ts.len) (ones_ts b.ts) (by simp only [List.length_nil];omega) fun v' own' hb'=>hk _ _ ⟨QFs.nil, ?_⟩
  refine De 6 (some 11) [] hok (fun _ _ A hk=>?_)
  obtain⟨own0,rfl,hb0⟩:=hb'.unapp (tail:= [])
  refine R.perm C.1 List.perm_middle<|R.append1 (kk:=3) C U (A.w U U) (A.x U U) (A.x U U) A25 A25 (fun _=>nofun) (show prog.info? 105=some Tryz.t105 by kernel_rfl) U U U Dd Dd (hb0.app _) U U (by(try simp only [List.length_append,List.length_cons,List.length_nil]);omega) fun v' own' hb'=>hk _ _ ⟨QFs.nil, ?_⟩
  refine Dh 4 7 Y A27 U B25<|De 8 none [] hok (fun _ _ A hk=>?_)
  obtain⟨own1,rfl,hb1⟩:=hb'.unapp (tail:= [])
  rw [List.nil_append, ←hts] at hb1
  refine R.store C U (A.w U U) (A.x U U) (A.x U U) B25 hb'.cells1 U hb'.ones1 (by repeat (first|exact Uh|apply Ut|apply Upd.app)) (.skip (.skip (.skip (.skip (.here .nil))))) (hk undef _ ⟨QFs.nil, ?_⟩)
  refine Dn<|Xv<|X.finish C.1 Ts.len Dd (hb1.app _) fun ro4 hl4 hls=>?_
  obtain⟨_,_,rfl⟩:=hls.form
  refine Xg W<|Rq W G27 B27 V Tk5<|Rs Z B27 Y V Ph5<|Rz<|X.ret C U U func44 U (by exact(.agg U G27 B27 V Tk5 .nil))<|Hr hret (RO.le_trans hl1 hl4) ?_
  exact⟨_,_,_,_,rfl,hv1.1.mono hl4,hv1.2.1.mono hl4,hv1.2.2.1.mono hl4,by simpa [Bk.tried] using hls⟩
end Go.Lg.B
set_option maxRecDepth 100000
namespace Go.Lg.B
open Go Go.Conc Go.Lg Go.Proofs Go.Proofs.Tryz
variable {l r:List Int}
theorem asc_unique:∀ {a c:List Int},a.Pairwise (· < ·)→c.Pairwise (· < ·)→(∀x,x∈a↔x∈c)→a=c
 | [], [],_,_,_=>rfl
 | [],y::c,_,_,h=>absurd ((h y).2 List.mem_cons_self) Zi
 |x::a, [],_,_,h=>absurd ((h x).1 List.mem_cons_self) Zi
 |x::a,y::c,ha,hc,h=>by
  rw [List.pairwise_cons] at ha hc
  have hxy:x=y:=by
   rcases List.mem_cons.1 ((h x).1 List.mem_cons_self) with e|e
   ·exact e
   ·rcases List.mem_cons.1 ((h y).2 List.mem_cons_self) with e2|e2
    ·exact e2.symm
    ·have:=hc.1 x e
     have:=ha.1 y e2
     omega
  subst hxy
  rw [asc_unique ha.2 hc.2 fun z=>?_]
  have hz:=h z
  simp only [List.mem_cons] at hz
  constructor
  ·intro hm
   rcases hz.1 (.inr hm) with e|e
   ·have:=ha.1 z hm;omega
   ·exact e
  ·intro hm
   rcases hz.2 (.inr hm) with e|e
   ·have:=hc.1 z hm;omega
   ·exact e
theorem asc_last{acc:List Int}{x:Int}(h:acc.Pairwise (· < ·))(hx:x∈acc)(hm:∀y∈acc,y≤x):acc.getLast? =some x:=by
 induction acc with
 |nil=>cases hx
 |cons y acc ih=>
  rw [List.pairwise_cons] at h
  cases acc with
  |nil=>
   simp only [List.mem_singleton] at hx
   subst hx;rfl
  |cons z acc=>
   have hx':x∈z::acc:=by
    rcases List.mem_cons.1 hx with e|e
    ·have:=h.1 z List.mem_cons_self
     have:=hm z Zi
     omega
    ·exact e
   have:=ih h.2 hx' fun w hw=>hm w (List.mem_cons_of_mem _ hw)
   rw [List.getLast?_cons_cons];exact this
theorem fold_asc:∀ (l acc:List Int),acc.Pairwise (· < ·)→l.Pairwise (· ≤ ·)→(∀x∈acc,∀y∈l,x≤y)→(l.foldl cstep acc).Pairwise (· < ·)∧∀x,x∈l.foldl cstep acc↔x∈acc∨x∈l
 | [],acc,h,_,_=>⟨h,fun x=>by simp⟩
 |x::l,acc,h,hl,hle=>by
  rw [List.pairwise_cons] at hl
  have hax:∀y∈acc,y≤x:=fun y hy=>hle y hy x List.mem_cons_self
  rw [List.foldl_cons]
  by_cases hc:acc.getLast? =some x
  ·rw [cstep,if_pos hc]
   have hxa:x∈acc:=List.mem_of_getLast? hc
   have:=fold_asc l acc h hl.2 fun a ha y hy=>hle a ha y (List.mem_cons_of_mem _ hy)
   refine⟨this.1,fun z=>?_⟩
   rw [this.2,List.mem_cons]
   constructor
   ·rintro(h|h)
    ·exact .inl h
    ·exact .inr (.inr h)
   ·rintro(h|rfl|h)
    ·exact .inl h
    ·exact .inl hxa
    ·exact .inr h
  ·rw [cstep,if_neg hc]
   have hlt:∀y∈acc,y<x:=fun y hy=>by
    have:=hax y hy
    by_cases e:y=x
    ·subst e;exact absurd (asc_last h hy hax) hc
    ·omega
   have:=fold_asc l (acc++ [x]) (by
    rw [List.pairwise_append]
    exact⟨h,by simp,fun a ha b hb=>by simp only [List.mem_singleton] at hb;subst hb;exact hlt a ha⟩) hl.2 (fun a ha y hy=>by
     rcases List.mem_append.1 ha with e|e
     ·exact hle a e y (List.mem_cons_of_mem _ hy)
     ·simp only [List.mem_singleton] at e;subst e;exact hl.1 y hy)
   refine⟨this.1,fun z=>?_⟩
   rw [this.2]
   have e1:(z∈acc++ [x])↔(z∈acc∨z=x):=by rw [List.mem_append,List.mem_singleton]
   rw [e1,List.mem_cons]
   constructor
   ·rintro((h|h)|h)
    ·exact .inl h
    ·exact .inr (.inl h)
    ·exact .inr (.inr h)
   ·rintro(h|h|h)
    ·exact .inl (.inl h)
    ·exact .inl (.inr h)
    ·exact .inr h
theorem compact_sort(hr:r.Pairwise (· < ·))(h:∀x,x∈r↔x∈l):compactL (l.mergeSort fun x y=>decide (x≤y))=r:=by
 have hs:(l.mergeSort fun x y=>decide (x≤y)).Pairwise (· ≤ ·):=by
  have:=List.pairwise_mergeSort (le:=fun x y:Int=>decide (x≤y)) (by intro a b c;simp;omega) (by intro a b;simp;omega) l
  exact this.imp (by intro a b;simp)
 have hf:=fold_asc _ [] .nil hs Zi
 refine asc_unique hf.1 hr fun x=>?_
 show x∈List.foldl cstep [] _↔_
 rw [hf.2,h]
 simp [(List.mergeSort_perm l _).mem_iff]
theorem numbers_eq(hr:r.Pairwise (· < ·))(h:((l.all fun x=>r.contains x) && (r.all fun x=>l.contains x))=true):numbers l=r:=by
 simp only [Bool.and_eq_true,List.all_eq_true,List.contains_iff_mem] at h
 exact compact_sort hr fun x=>⟨h.2 x,h.1 x⟩
def exK:Ks:=⟨[30,20,9], [21,8]⟩
def exT:Bk:=exB.tried ⟨0,21,true⟩
def exC:Bk:=exT.tried ⟨0,21,false⟩
def exW:Bk:=exB.weighed 0 ((exB.piece 0).r.meet ⟨19,20⟩)
theorem k_short:exB.short:=⟨by decide,by decide,by decide,by decide⟩
theorem k_shortT:exT.short:=⟨by decide,by decide,by decide,by decide⟩
theorem k_shortC:exC.short:=⟨by decide,by decide,by decide,by decide⟩
theorem k_shortW:exW.short:=⟨by decide,by decide,by decide,by decide⟩
theorem k_shortK:exK.short:=⟨by decide,by decide⟩
theorem k_pulls:pullsR exB 0 20=([20,20,8,8],0):=by kernel_rfl
theorem k_lifts:liftsOf exB exK 0 0=(false,0):=by kernel_rfl
theorem k_is:isCaseOf exT exK=(false,0):=by kernel_rfl
theorem k_cases:casesOf exB=(9,0):=by kernel_rfl
theorem k_casesT:casesOf exT=(6,0):=by kernel_rfl
theorem k_bears:bearsR exT 1=([21,22],0):=by
 rw [bearsR,if_neg (fun h=>h Kr)]
 exact congrArg (·,(0:Int)) (numbers_eq Dd Kr)
theorem k_weights:weightsR exB 0=([19,20,21],0):=by
 rw [weightsR,if_neg (fun h=>h Kr)]
 exact congrArg (·,(0:Int)) (numbers_eq Dd Kr)
theorem k_may1:mayR exB 0 0=(0,0):=by kernel_rfl
theorem k_may2:mayR exT 0 0=(1,0):=by kernel_rfl
theorem k_may3:mayR exB 1 0=(2,0):=by kernel_rfl
theorem k_may4:mayR exB 1 1=(1,0):=by kernel_rfl
theorem k_most:mostR exB 0=(20,0):=by kernel_rfl
theorem k_mostT:mostR exT 0=(21,0):=by kernel_rfl
theorem k_weak1:weakR exB 0 22=([1],0):=by
 rw [weakR,if_neg (fun h=>h Kr)]
 exact congrArg (·,(0:Int)) (numbers_eq Dd Kr)
theorem k_weak2:weakR exB 0 23=([1,2,3],0):=by
 rw [weakR,if_neg (fun h=>h Kr)]
 exact congrArg (·,(0:Int)) (numbers_eq Dd Kr)
theorem k_few:fewestR exB=(none,0):=by kernel_rfl
theorem k_fewT:fewestR exT=(some [0],0):=by kernel_rfl
theorem k_share:shareR exT=(some [0,1],0):=by kernel_rfl
theorem k_renew:renewR exB=(some [1],0):=by kernel_rfl
theorem k_ask:askR exB=((0,21,6),0):=by kernel_rfl
theorem k_weigh:weighH exB 0 ⟨19,20⟩=0:=by kernel_rfl
theorem k_mayW:mayR exW 0 0=(1,0):=by kernel_rfl
theorem k_clash:clashR exC=([0,1],0):=by kernel_rfl
end Go.Lg.B
set_option maxRecDepth 100000
namespace Go.Lg.B
open Go Go.Conc Go.Lg Go.Proofs Go.Proofs.Tryz
variable {fv v vk:Value}{args:List Value}{ro:RO}{Q:Machine→Outcome→World→Trace→Prop}
theorem CallR.to{J:Goroutine→Mem→Prop}{w1 w0:Value}(h:CallR prog J fv args ro fun w _=>w=w1)(e:w1=w0):CallR prog J fv args ro fun w _=>w=w0:=by subst e;exact h
theorem CallR.imp{J:Goroutine→Mem→Prop}{A B:Value→RO→Prop}(h:CallR prog J fv args ro A)(e:∀v r,A v r→B v r):CallR prog J fv args ro B:=CallR.mono h fun v r _ x=>e v r x
theorem new_zero{b:Bk}{h:Int}{w:Value}(hn:NewV ro b h w)(h0:h=0):∃v,BkV ro v b∧w= .tuple [v, .int .i64 0].toArray:=hn.elim (fun x=>absurd h0 x.1) (fun x=>x.2)
variable {main:Bool}{J:Goroutine→Mem→Prop}(hJ:Closed prog main J)
include hJ
theorem x_pulls(he:Env ro)(hv:BkV ro v exB):CallR prog J (fnv 45) [v, .int .i64 0, .int .i64 20] ro fun w ro'=>∃vl,LsI ro' vl [20,20,8,8]∧w= .tuple [vl, .int .i64 0].toArray:=by
 have:=pullsR_c hJ he hv k_short 0 20
 rwa [k_pulls] at this
theorem x_lifts(he:Env ro)(hv:BkV ro v exB)(hk:KsV ro vk exK):CallR prog J (fnv 46) [v,vk, .int .i64 0, .int .i64 0] ro fun w _=>w= .tuple [.bool false, .int .i64 0].toArray:=CallR.to (liftsR_c hJ he hv k_short hk k_shortK 0 0) (by rw [k_lifts])
theorem x_is(he:Env ro)(hv:BkV ro v exT)(hk:KsV ro vk exK):CallR prog J (fnv 47) [v,vk] ro fun w _=>w= .tuple [.bool false, .int .i64 0].toArray:=CallR.to (isCase_c hJ he hv k_shortT hk k_shortK) (by rw [k_is])
theorem x_cases(he:Env ro)(hv:BkV ro v exB):CallR prog J (fnv 48) [v] ro fun w _=>w= .tuple [.int .i64 9, .int .i64 0].toArray:=CallR.to (casesN_c hJ he hv k_short) (by rw [k_cases])
theorem x_casesT(he:Env ro)(hv:BkV ro v exT):CallR prog J (fnv 48) [v] ro fun w _=>w= .tuple [.int .i64 6, .int .i64 0].toArray:=CallR.to (casesN_c hJ he hv k_shortT) (by rw [k_casesT])
theorem x_bears(he:Env ro)(hv:BkV ro v exT):CallR prog J (fnv 49) [v, .int .i64 1] ro fun w ro'=>∃vl,LsI ro' vl [21,22]∧w= .tuple [vl, .int .i64 0].toArray:=by
 have:=bears_c hJ he hv k_shortT 1
 rwa [k_bears] at this
theorem x_weights(he:Env ro)(hv:BkV ro v exB):CallR prog J (fnv 50) [v, .int .i64 0] ro fun w ro'=>∃vl,LsI ro' vl [19,20,21]∧w= .tuple [vl, .int .i64 0].toArray:=by
 have:=weights_c hJ he hv k_short 0
 rwa [k_weights] at this
theorem x_may1(he:Env ro)(hv:BkV ro v exB):CallR prog J (fnv 51) [v, .int .i64 0, .int .i64 0] ro fun w _=>w= .tuple [.int .i64 0, .int .i64 0].toArray:=CallR.to (may_c hJ he hv k_short 0 0) (by rw [k_may1])
theorem x_may2(he:Env ro)(hv:BkV ro v exT):CallR prog J (fnv 51) [v, .int .i64 0, .int .i64 0] ro fun w _=>w= .tuple [.int .i64 1, .int .i64 0].toArray:=CallR.to (may_c hJ he hv k_shortT 0 0) (by rw [k_may2])
theorem x_may3(he:Env ro)(hv:BkV ro v exB):CallR prog J (fnv 51) [v, .int .i64 1, .int .i64 0] ro fun w _=>w= .tuple [.int .i64 2, .int .i64 0].toArray:=CallR.to (may_c hJ he hv k_short 1 0) (by rw [k_may3])
theorem x_may4(he:Env ro)(hv:BkV ro v exB):CallR prog J (fnv 51) [v, .int .i64 1, .int .i64 1] ro fun w _=>w= .tuple [.int .i64 1, .int .i64 0].toArray:=CallR.to (may_c hJ he hv k_short 1 1) (by rw [k_may4])
theorem x_mayW(he:Env ro)(hv:BkV ro v exW):CallR prog J (fnv 51) [v, .int .i64 0, .int .i64 0] ro fun w _=>w= .tuple [.int .i64 1, .int .i64 0].toArray:=CallR.to (may_c hJ he hv k_shortW 0 0) (by rw [k_mayW])
theorem x_most(he:Env ro)(hv:BkV ro v exB):CallR prog J (fnv 32) [v, .int .i64 0] ro fun w _=>w= .tuple [.int .i64 20, .int .i64 0].toArray:=CallR.to (most_c hJ he hv k_short 0) (by rw [k_most])
theorem x_mostT(he:Env ro)(hv:BkV ro v exT):CallR prog J (fnv 32) [v, .int .i64 0] ro fun w _=>w= .tuple [.int .i64 21, .int .i64 0].toArray:=CallR.to (most_c hJ he hv k_shortT 0) (by rw [k_mostT])
theorem x_weak1(he:Env ro)(hv:BkV ro v exB):CallR prog J (fnv 53) [v, .int .i64 0, .int .i64 22] ro fun w ro'=>∃vl,LsI ro' vl [1]∧w= .tuple [vl, .int .i64 0].toArray:=by
 have:=weak_c hJ he hv k_short 0 22
 rwa [k_weak1] at this
theorem x_weak2(he:Env ro)(hv:BkV ro v exB):CallR prog J (fnv 53) [v, .int .i64 0, .int .i64 23] ro fun w ro'=>∃vl,LsI ro' vl [1,2,3]∧w= .tuple [vl, .int .i64 0].toArray:=by
 have:=weak_c hJ he hv k_short 0 23
 rwa [k_weak2] at this
omit hJ in
theorem x_few(he:Env ro)(hv:BkV ro v exB):CallR prog (JM prog Q) (fnv 54) [v] ro fun w ro'=>∃vl,LsI ro' vl []∧w= .tuple [vl, .bool false, .int .i64 0].toArray:=by
 have:=fewestG_c (Q:=Q) he hv k_short
 rwa [k_few] at this
omit hJ in
theorem x_fewT(he:Env ro)(hv:BkV ro v exT):CallR prog (JM prog Q) (fnv 54) [v] ro fun w ro'=>∃vl,LsI ro' vl [0]∧w= .tuple [vl, .bool true, .int .i64 0].toArray:=by
 have:=fewestG_c (Q:=Q) he hv k_shortT
 rwa [k_fewT] at this
omit hJ in
theorem x_share(he:Env ro)(hv:BkV ro v exT):CallR prog (JM prog Q) (fnv 55) [v] ro fun w ro'=>∃vl,LsI ro' vl [0,1]∧w= .tuple [vl, .bool true, .int .i64 0].toArray:=by
 have:=share_c (Q:=Q) he hv k_shortT
 rwa [k_share] at this
omit hJ in
theorem x_renew(he:Env ro)(hv:BkV ro v exB):CallR prog (JM prog Q) (fnv 56) [v] ro fun w ro'=>∃vl,LsI ro' vl [1]∧w= .tuple [vl, .bool true, .int .i64 0].toArray:=by
 have:=renew_c (Q:=Q) he hv k_short
 rwa [k_renew] at this
theorem x_ask(he:Env ro)(hv:BkV ro v exB):CallR prog J (fnv 57) [v] ro fun w _=>w= .tuple [.int .i64 0, .int .i64 21, .int .i64 6, .int .i64 0].toArray:=CallR.to (ask_c hJ he hv k_short) (by rw [k_ask])
theorem x_weigh(he:Env ro)(hv:BkV ro v exB):CallR prog J (fnv 58) [v, .int .i64 0,Rc.val ⟨19,20⟩] ro fun w ro'=>∃v',BkV ro' v' exW∧w= .tuple [v', .int .i64 0].toArray:=CallR.imp (weigh_c hJ he hv k_short 0 ⟨19,20⟩) fun _ _ h=>new_zero h k_weigh
theorem x_clash(he:Env ro)(hv:BkV ro v exC):CallR prog J (fnv 60) [v] ro fun w ro'=>∃vl,LsI ro' vl [0,1]∧w= .tuple [vl, .int .i64 0].toArray:=by
 have:=clash_c hJ he hv k_shortC
 rwa [k_clash] at this
end Go.Lg.B
set_option maxRecDepth 100000
namespace Go.Lg.B
open Go Go.Conc Go.Lg Go.Proofs Go.Proofs.Tryz
variable {ro ro':RO}{p p1 p2:Nat}{l:List Value}{c:Frame}{cs:List Frame}{tail:List (Nat×Obj)}{w14 w16 w4:Value}
def At(ro:RO)(p:Nat)(b:Bk):Prop:= ∃b1 c1 b2 c2 b3 c3 b4 c4,ro p=some (.cells [.int .i64 b.w, .slice b1 b.ps.length c1, .slice b2 b.gs.length c2, .slice b3 b.cs.length c3, .slice b4 b.ts.length c4].toArray 27 (0,0))∧BkP ro b (.slice b1 b.ps.length c1) (.slice b2 b.gs.length c2) (.slice b3 b.cs.length c3) (.slice b4 b.ts.length c4)
theorem At.mono{b:Bk}(h:At ro p b)(hl:ro.le ro'):At ro' p b:=let⟨b1,c1,b2,c2,b3,c3,b4,c4,h1,h2⟩:=h;⟨b1,c1,b2,c2,b3,c3,b4,c4,hl _ _ h1,h2.mono hl⟩
theorem sub5(h:l.length=5):Sub 0 5 l l:=by have:=Sub.front l [];rwa [List.append_nil,h] at this
theorem sub2(h:l.length=2):Sub 0 2 l l:=by have:=Sub.front l [];rwa [List.append_nil,h] at this
def LyK(ro:RO)(p:Nat):Prop:= ∃b1 c1 b2 c2,ro p=some (.cells [.slice b1 3 c1, .slice b2 2 c2].toArray 107 (0,0))∧LsI ro (.slice b1 3 c1) [30,20,9]∧LsI ro (.slice b2 2 c2) [21,8]
theorem LyK.mono(h:LyK ro p)(hl:ro.le ro'):LyK ro' p:=let⟨b1,c1,b2,c2,h1,h2,h3⟩:=h;⟨b1,c1,b2,c2,hl _ _ h1,h2.mono hl,h3.mono hl⟩
variable {Q:Machine→Outcome→World→Trace→Prop}
noncomputable def b23:Code:=Tryz.f11.body.getD .skip
noncomputable def g28:Code:=cR (cR (cR (cR (cR (cR (cR (cR (cR (cR (cR (cR (cR (cR (cR (cR (cR (cR (cR (cR (cR (cR (cR (cR (cR (cR (cR (cR b23)))))))))))))))))))))))))))
theorem hoisted_f{p33:Nat}(he:Env ro)(a2:At ro p2 exT)(a33:At ro p33 exW)
  (hret:∀ro' own,ro.le ro'→tail.Sublist own→JM prog Q (G (c.finish (.bool true)) cs) ⟨ro',own⟩):
  X (JM prog Q) (bf 11 .normal) (c::cs) 373 [.code g28] [] [(2, .pointer (some ⟨p2,0,none⟩)),(33, .pointer (some ⟨p33,0,none⟩)),(5, .int .i64 0),(7, .int .i64 0),(30, .int .i64 0),(31, .int .i64 21),(32, .int .i64 6)]
   ⟨ro,tail⟩:=by
 have hJ:Closed prog true (JM prog Q):=JM.closed
 let main:=true
 let J:=JM prog Q
 have C:Ctx prog true (JM prog Q) (bf 11 .normal):=⟨hJ,by decide⟩
 obtain⟨q2a,c2a,q2b,c2b,q2c,c2c,q2d,c2d,h2,hP2⟩:=a2
 have hv2:BkV ro (.agg [.int .i64 exT.w, .slice q2a exT.ps.length c2a, .slice q2b exT.gs.length c2b, .slice q2c exT.cs.length c2c, .slice q2d exT.ts.length c2d].toArray) exT:=⟨_,_,_,_,rfl,hP2⟩
 obtain⟨q33a,c33a,q33b,c33b,q33c,c33c,q33d,c33d,h33,hP33⟩:=a33
 have hv33:BkV ro (.agg [.int .i64 exW.w, .slice q33a exW.ps.length c33a, .slice q33b exW.gs.length c33b, .slice q33c exW.cs.length c33c, .slice q33d exW.ts.length c33d].toArray) exW:=⟨_,_,_,_,rfl,hP33⟩
 have k0:=RO.le_refl ro
 refine Xu W<|La Y G27 B27 (k0 _ _ h33) (sub5 U)<|R.callR C U U U U ((x_mayW hJ (he.mono k0) (hv33.mono k0))) fun v1 ro1 hl1 hq1=>?_
 subst hq1
 have k1:=RO.le_trans k0 hl1
 refine Ro W<|Re Z<|Re Z<|Rg Y<|Ae W<|Xu W<|La Y G27 B27 (k1 _ _ h2) (sub5 U) ?_;refine R.build C U U U K105 U A105 Kr (Fills.part U U B3 U (.skip (.here .nil)) .nil)<|R.callR C U U U U (tried_c hJ (hv2.mono k1) Dd ⟨0,21,false⟩) fun v2 ro2 hl2 hq2=>?_
 have k2:=RO.le_trans k1 hl2
 refine R.callR C U U U U ((x_clash hJ (he.mono k2) hq2)) fun v3 ro3 hl3 hq3=>?_
 obtain⟨y3,hy3,rfl⟩:=hq3
 have k3:=RO.le_trans k2 hl3
 refine Ro W<|Re Z<|Re Z<|Rg Y<|Ae W<|Xm W W<|Ri Z b_eql<|FT 339 U (by rfl)<|Oo W W<|Ri Z b_eql<|FT 342 U (by rfl)<|Pp Z<|Oo W W<|Ri Z b_eql<|FT 346 U (by rfl)<|Pp Z<|Oo W W<|Ri Z b_eql<|FT 350 U (by rfl)<|Pp Z<|Oo W W<|Ri Z b_eql<|FT 354 U (by rfl)<|Pp Z<|Oo W W<|Ri Z b_eql<|FT 358 U (by rfl)<|Pp Z<|Oo W W<|Ri Z b_eql<|FT 362 U (by rfl)<|Pp Z<|Ro W ?_;refine Ro W<|Ri Z b_eql<|FT 366 U (by rfl)<|Pp Z<|Oo W W<|R.buildSlice C (vs:=_) U U (show pvals _ _=some (numbered 0 [_,_]) from rfl) U A58 B3 K3 Dd ((.cons U U (.cons U U .nil))) fun p370=>R.persist C.1 fun ro4 hl4 hp4=>Cp Z (list_c hJ (hy3.mono hl4) (Ls.lit (xs:=([0,1]:List Int)) (t:=3) (fq:=(0,0)) ic_len hp4) Dd Dd)<|FT 371 U (by exact congrArg Value.bool Kr) ?_
 have k4:=RO.le_trans k3 hl4
 refine Pp Z<|Ae W<|X.ret C U U func11 U (by exact .tmp U .nil) ?_
 exact hret _ _ k4 Vs
noncomputable def g26:Code:=cR (cR (cR (cR (cR (cR (cR (cR (cR (cR (cR (cR (cR (cR (cR (cR (cR (cR (cR (cR (cR (cR (cR (cR (cR (cR b23)))))))))))))))))))))))))
theorem hoisted_e(he:Env ro)(a1:At ro p1 exB)(a2:At ro p2 exT)
  (hret:∀ro' own,ro.le ro'→tail.Sublist own→JM prog Q (G (c.finish (.bool true)) cs) ⟨ro',own⟩):
  X (JM prog Q) (bf 11 .normal) (c::cs) 373 [.code g26] [] [(1, .pointer (some ⟨p1,0,none⟩)),(2, .pointer (some ⟨p2,0,none⟩))]
   ⟨ro,tail⟩:=by
 have hJ:Closed prog true (JM prog Q):=JM.closed
 let main:=true
 let J:=JM prog Q
 have C:Ctx prog true (JM prog Q) (bf 11 .normal):=⟨hJ,by decide⟩
 obtain⟨q1a,c1a,q1b,c1b,q1c,c1c,q1d,c1d,h1,hP1⟩:=a1
 have hv1:BkV ro (.agg [.int .i64 exB.w, .slice q1a exB.ps.length c1a, .slice q1b exB.gs.length c1b, .slice q1c exB.cs.length c1c, .slice q1d exB.ts.length c1d].toArray) exB:=⟨_,_,_,_,rfl,hP1⟩
 obtain⟨q2a,c2a,q2b,c2b,q2c,c2c,q2d,c2d,h2,hP2⟩:=a2
 have hv2:BkV ro (.agg [.int .i64 exT.w, .slice q2a exT.ps.length c2a, .slice q2b exT.gs.length c2b, .slice q2c exT.cs.length c2c, .slice q2d exT.ts.length c2d].toArray) exT:=⟨_,_,_,_,rfl,hP2⟩
 have k0:=RO.le_refl ro
 refine Xu W<|La Y G27 B27 (k0 _ _ h1) (sub5 U)<|R.callR C U U U U ((x_ask hJ (he.mono k0) (hv1.mono k0))) fun v1 ro1 hl1 hq1=>?_
 subst hq1
 have k1:=RO.le_trans k0 hl1
 refine Ro W<|Re Z<|Re Z<|Re Z<|Re Z<|Rg Y<|Rg Y<|Rg Y<|Ae W<|Xv<|Xf fun hok=>Dl 0 hok (fun _ _ A h=>R.loadAggRo C U (A.w U U) (A.x U U) G27 B27 (k1 _ _ h1) (sub5 U) h)<|D.eP2 (i:=1) (i':=6) (dst:=(some 322)) (dst':=(some 33)) [true] [true] hok U U Kr Kr Kr (fun _ _ A hk=>?_) (fun _ _ A hk=>?_)
 ·
  refine R.callP C U (A.w U U) (A.x U U) (A.s U U) (reach_c hJ _ _ _) (hk _ _ ⟨(QFs.cons (QF.of U (fun _ _ A h=>R.loadAggRo C U (A.w U U) (A.x U U) G27 B27 (k1 _ _ h1) (sub5 U) h)) QFs.nil), ?_⟩)
  refine D.eP2 (i:=2) (i':=6) (dst:=(some 323)) (dst':=(some 33)) [false] [true] hok U U Kr Kr Kr (fun _ _ A hk=>?_) (fun _ _ A hk=>?_)
  ·
   refine R.callR C U (A.w U U) (A.x U U) (A.s U U) ((x_weigh hJ (he.mono k1) (hv1.mono k1))) fun v2 ro2 hl2 hq2=>hk _ _ ⟨QFs.nil, ?_⟩
   obtain⟨v2,hv3,rfl⟩:=hq2
   obtain⟨vp3,vg3,vc3,vt3,rfl,hP3⟩:=hv3
   obtain⟨z1,e1,rfl⟩:=hP3.1.form
   obtain⟨z2,e2,rfl⟩:=hP3.2.1.form
   obtain⟨z3,e3,rfl⟩:=hP3.2.2.1.form
   obtain⟨z4,e4,rfl⟩:=hP3.2.2.2.form
   have k2:=RO.le_trans k1 hl2
   refine Dt 3 Y<|Dp 4 hok (fun _ _ _ A h=>R.ext C U (A.w U U) (A.x U U) U h)<|Dp 5 hok (fun _ _ _ A h=>R.ext C U (A.w U U) (A.x U U) U h)<|De 6 (some 33) [] hok (fun _ _ A hk=>?_)
   refine R.alloc C U (A.w U U) K27 U fun p33=>hk _ _ ⟨QFs.nil, ?_⟩
   refine De 7 none [] hok (fun _ _ A hk=>?_)
   refine R.store C U (A.w U U) (A.x U U) (A.x U U) B27 U U U V Ph5 (hk undef _ ⟨QFs.nil, ?_⟩)
   refine Da C 8 hok U U<|Dn<|X.persist C.1 fun ro3 hl3 h33=>?_
   have k3:=RO.le_trans k2 hl3
   refine X.weaken ?_ (hoisted_f (he.mono k3) (At.mono ⟨_,_,_,_,_,_,_,_,h2,hP2⟩ k3) ⟨_,_,_,_,_,_,_,_,h33,hP3.mono hl3⟩ fun ro' own h1 h2=>hret ro' own (RO.le_trans k3 h1) h2)
   exact⟨U,U,U,U,U,U,U,trivial⟩
  ·
   refine R.alloc C U (A.w U U) K27 U fun p33=>hk _ _ ⟨(QFs.cons (QF.of U (fun _ _ A h=>R.loadAggRo C U (A.w U U) (A.x U U) G27 B27 (k1 _ _ h1) (sub5 U) h)) QFs.nil), ?_⟩
   refine De 2 (some 323) [false] hok (fun _ _ A hk=>?_)
   refine R.callR C U (A.w U U) (A.x U U) (A.s U U) ((x_weigh hJ (he.mono k1) (hv1.mono k1))) fun v2 ro2 hl2 hq2=>hk _ _ ⟨QFs.nil, ?_⟩
   obtain⟨v2,hv3,rfl⟩:=hq2
   obtain⟨vp3,vg3,vc3,vt3,rfl,hP3⟩:=hv3
   obtain⟨z1,e1,rfl⟩:=hP3.1.form
   obtain⟨z2,e2,rfl⟩:=hP3.2.1.form
   obtain⟨z3,e3,rfl⟩:=hP3.2.2.1.form
   obtain⟨z4,e4,rfl⟩:=hP3.2.2.2.form
   have k2:=RO.le_trans k1 hl2
   refine Dt 3 Y<|Dp 4 hok (fun _ _ _ A h=>R.ext C U (A.w U U) (A.x U U) U h)<|Dp 5 hok (fun _ _ _ A h=>R.ext C U (A.w U U) (A.x U U) U h)<|De 7 none [] hok (fun _ _ A hk=>?_)
   refine R.store C U (A.w U U) (A.x U U) (A.x U U) B27 U U U V Ph5 (hk undef _ ⟨QFs.nil, ?_⟩)
   refine Da C 8 hok U U<|Dn<|X.persist C.1 fun ro3 hl3 h33=>?_
   have k3:=RO.le_trans k2 hl3
   refine X.weaken ?_ (hoisted_f (he.mono k3) (At.mono ⟨_,_,_,_,_,_,_,_,h2,hP2⟩ k3) ⟨_,_,_,_,_,_,_,_,h33,hP3.mono hl3⟩ fun ro' own h1 h2=>hret ro' own (RO.le_trans k3 h1) h2)
   exact⟨U,U,U,U,U,U,U,trivial⟩
 ·
  refine R.alloc C U (A.w U U) K27 U fun p33=>hk _ _ ⟨(QFs.cons (QF.of U (fun _ _ A h=>R.loadAggRo C U (A.w U U) (A.x U U) G27 B27 (k1 _ _ h1) (sub5 U) h)) QFs.nil), ?_⟩
  refine De 1 (some 322) [true] hok (fun _ _ A hk=>?_)
  refine R.callP C U (A.w U U) (A.x U U) (A.s U U) (reach_c hJ _ _ _) (hk _ _ ⟨(QFs.cons (QF.of U (fun _ _ A h=>R.loadAggRo C U (A.w U U) (A.x U U) G27 B27 (k1 _ _ h1) (sub5 U) h)) QFs.nil), ?_⟩)
  refine De 2 (some 323) [false] hok (fun _ _ A hk=>?_)
  refine R.callR C U (A.w U U) (A.x U U) (A.s U U) ((x_weigh hJ (he.mono k1) (hv1.mono k1))) fun v2 ro2 hl2 hq2=>hk _ _ ⟨QFs.nil, ?_⟩
  obtain⟨v2,hv3,rfl⟩:=hq2
  obtain⟨vp3,vg3,vc3,vt3,rfl,hP3⟩:=hv3
  obtain⟨z1,e1,rfl⟩:=hP3.1.form
  obtain⟨z2,e2,rfl⟩:=hP3.2.1.form
  obtain⟨z3,e3,rfl⟩:=hP3.2.2.1.form
  obtain⟨z4,e4,rfl⟩:=hP3.2.2.2.form
  have k2:=RO.le_trans k1 hl2
  refine Dt 3 Y<|Dp 4 hok (fun _ _ _ A h=>R.ext C U (A.w U U) (A.x U U) U h)<|Dp 5 hok (fun _ _ _ A h=>R.ext C U (A.w U U) (A.x U U) U h)<|De 7 none [] hok (fun _ _ A hk=>?_)
  refine R.store C U (A.w U U) (A.x U U) (A.x U U) B27 U U U V Ph5 (hk undef _ ⟨QFs.nil, ?_⟩)
  refine Da C 8 hok U U<|Dn<|X.persist C.1 fun ro3 hl3 h33=>?_
  have k3:=RO.le_trans k2 hl3
  refine X.weaken ?_ (hoisted_f (he.mono k3) (At.mono ⟨_,_,_,_,_,_,_,_,h2,hP2⟩ k3) ⟨_,_,_,_,_,_,_,_,h33,hP3.mono hl3⟩ fun ro' own h1 h2=>hret ro' own (RO.le_trans k3 h1) h2)
  exact⟨U,U,U,U,U,U,U,trivial⟩
noncomputable def g25:Code:=cR (cR (cR (cR (cR (cR (cR (cR (cR (cR (cR (cR (cR (cR (cR (cR (cR (cR (cR (cR (cR (cR (cR (cR (cR b23))))))))))))))))))))))))
theorem hoisted_d{w26 w28:Value}(he:Env ro)(a1:At ro p1 exB)(a2:At ro p2 exT)(y4:LsI ro w4 [1])(y14:LsI ro w14 [1,2,3])(y16:LsI ro w16 [0])(y26:LsI ro w26 [0,1])(y28:LsI ro w28 [1])
  (hret:∀ro' own,ro.le ro'→tail.Sublist own→JM prog Q (G (c.finish (.bool true)) cs) ⟨ro',own⟩):
  X (JM prog Q) (bf 11 .normal) (c::cs) 373 [.code g25] [] [(1, .pointer (some ⟨p1,0,none⟩)),(2, .pointer (some ⟨p2,0,none⟩)),(5, .int .i64 0),(7, .int .i64 0),(9, .int .i64 0),(11, .int .i64 0),(13, .int .i64 0),(15, .int .i64 0),(17, .int .i64 0),(19, .int .i64 0),(10, .int .i64 20),(12, .int .i64 21),(4,w4),(14,w14),(6, .bool false),(8, .bool true),(16,w16),(27, .bool true),(26,w26),(29, .bool true),(28,w28)]
   ⟨ro,tail⟩:=by
 have hJ:Closed prog true (JM prog Q):=JM.closed
 let main:=true
 let J:=JM prog Q
 have C:Ctx prog true (JM prog Q) (bf 11 .normal):=⟨hJ,by decide⟩
 obtain⟨q1a,c1a,q1b,c1b,q1c,c1c,q1d,c1d,h1,hP1⟩:=a1
 have hv1:BkV ro (.agg [.int .i64 exB.w, .slice q1a exB.ps.length c1a, .slice q1b exB.gs.length c1b, .slice q1c exB.cs.length c1c, .slice q1d exB.ts.length c1d].toArray) exB:=⟨_,_,_,_,rfl,hP1⟩
 obtain⟨q2a,c2a,q2b,c2b,q2c,c2c,q2d,c2d,h2,hP2⟩:=a2
 have hv2:BkV ro (.agg [.int .i64 exT.w, .slice q2a exT.ps.length c2a, .slice q2b exT.gs.length c2b, .slice q2c exT.cs.length c2c, .slice q2d exT.ts.length c2d].toArray) exT:=⟨_,_,_,_,rfl,hP2⟩
 have k0:=RO.le_refl ro
 obtain⟨_,_,rfl⟩:=y4.form
 obtain⟨_,_,rfl⟩:=y14.form
 obtain⟨_,_,rfl⟩:=y16.form
 obtain⟨_,_,rfl⟩:=y26.form
 obtain⟨_,_,rfl⟩:=y28.form
 refine Xx W<|Ro W<|Ri Z b_neq<|FF 231 U (by rfl)<|Oo W W<|Ri Z b_neq<|FF 234 U (by rfl)<|Pf Z<|Oo W W<|Ri Z b_neq<|FF 238 U (by rfl)<|Pf Z<|Oo W W<|Ri Z b_neq<|FF 242 U (by rfl)<|Pf Z<|Oo W W<|Ri Z b_neq<|FF 246 U (by rfl)<|Pf Z<|Oo W W<|Ri Z b_neq<|FF 250 U (by rfl)<|Pf Z<|Oo W W<|Ri Z b_neq<|FF 254 U (by rfl)<|Pf Z<|Oo W W<|Ri Z b_neq<|FF 258 U (by rfl)<|Pf Z ?_;refine Oo W W<|Ri Z b_neq<|FF 262 U (by rfl)<|Pf Z<|Oo W W<|Ri Z b_neq<|FF 266 U (by rfl)<|Pf Z<|Oo W W<|R.buildSlice C (vs:=_) U U (show pvals _ _=some (numbered 0 [_]) from rfl) U A58 B3 K3 Dd (Cat.one U U) fun p270=>R.persist C.1 fun ro1 hl1 hp1=>?_
 have k1:=RO.le_trans k0 hl1
 refine Cp Z (list_c hJ (y4.mono k1) (Ls.lit (xs:=([1]:List Int)) (t:=3) (fq:=(0,0)) ic_len hp1) Dd Dd)<|FT 271 U (by exact congrArg Value.bool Kr)<|Rh Y<|FF 272 U U<|Pf Z<|Oo W W<|R.buildSlice C (vs:=_) U U (show pvals _ _=some (numbered 0 [_,_,_]) from rfl) U A58 B3 K3 Dd ((.cons U U (.cons U U (.cons U U .nil)))) fun p276=>R.persist C.1 fun ro2 hl2 hp2=>?_
 have k2:=RO.le_trans k1 hl2
 refine Cp Z (list_c hJ (y14.mono k2) (Ls.lit (xs:=([1,2,3]:List Int)) (t:=3) (fq:=(0,0)) ic_len hp2) Dd Dd)<|FT 277 U (by exact congrArg Value.bool Kr)<|Rh Y<|FF 278 U U<|Pf Z<|Oo W W<|Pf Z<|Oo W W<|Rh Y<|FF 285 U U<|Pf Z<|Oo W W<|R.buildSlice C (vs:=_) U U (show pvals _ _=some (numbered 0 [_]) from rfl) U A58 B3 K3 Dd (Cat.one U U) fun p289=>R.persist C.1 fun ro3 hl3 hp3=>?_
 have k3:=RO.le_trans k2 hl3
 refine Cp Z (list_c hJ (y16.mono k3) (Ls.lit (xs:=([0]:List Int)) (t:=3) (fq:=(0,0)) ic_len hp3) Dd Dd)<|FT 290 U (by exact congrArg Value.bool Kr)<|Rh Y<|FF 291 U U<|Pf Z<|Oo W W<|Rh Y<|FF 295 U U<|Pf Z<|Oo W W<|R.buildSlice C (vs:=_) U U (show pvals _ _=some (numbered 0 [_,_]) from rfl) U A58 B3 K3 Dd ((.cons U U (.cons U U .nil))) fun p299=>R.persist C.1 fun ro4 hl4 hp4=>?_
 have k4:=RO.le_trans k3 hl4
 refine Cp Z (list_c hJ (y26.mono k4) (Ls.lit (xs:=([0,1]:List Int)) (t:=3) (fq:=(0,0)) ic_len hp4) Dd Dd)<|FT 300 U (by exact congrArg Value.bool Kr)<|Rh Y<|FF 301 U U<|Pf Z<|Oo W W<|Rh Y<|FF 305 U U<|Pf Z<|Oo W W<|R.buildSlice C (vs:=_) U U (show pvals _ _=some (numbered 0 [_]) from rfl) U A58 B3 K3 Dd (Cat.one U U) fun p309=>R.persist C.1 fun ro5 hl5 hp5=>?_
 have k5:=RO.le_trans k4 hl5
 refine Cp Z (list_c hJ (y28.mono k5) (Ls.lit (xs:=([1]:List Int)) (t:=3) (fq:=(0,0)) ic_len hp5) Dd Dd)<|FT 310 U (by exact congrArg Value.bool Kr)<|Rh Y<|FF 311 U U<|Pf Z<|Zc U (fun h=>nomatch h) (fun _=>?_)
 refine Xz<|X.weaken ?_ (hoisted_e (he.mono k5) (At.mono ⟨_,_,_,_,_,_,_,_,h1,hP1⟩ k5) (At.mono ⟨_,_,_,_,_,_,_,_,h2,hP2⟩ k5) fun ro' own h1 h2=>hret ro' own (RO.le_trans k5 h1) h2)
 exact⟨U,U,trivial⟩
noncomputable def g17:Code:=cR (cR (cR (cR (cR (cR (cR (cR (cR (cR (cR (cR (cR (cR (cR (cR (cR b23))))))))))))))))
theorem hoisted_c3(he:Env ro)(a1:At ro p1 exB)(a2:At ro p2 exT)
  (hret:∀ro' own,ro.le ro'→tail.Sublist own→JM prog Q (G (c.finish (.bool true)) cs) ⟨ro',own⟩):
  X (JM prog Q) (bf 11 .normal) (c::cs) 373 [.code g17] [] [(1, .pointer (some ⟨p1,0,none⟩)),(2, .pointer (some ⟨p2,0,none⟩))]
   ⟨ro,tail⟩:=by
 have hJ:Closed prog true (JM prog Q):=JM.closed
 let main:=true
 let J:=JM prog Q
 have C:Ctx prog true (JM prog Q) (bf 11 .normal):=⟨hJ,by decide⟩
 obtain⟨q1a,c1a,q1b,c1b,q1c,c1c,q1d,c1d,h1,hP1⟩:=a1
 have hv1:BkV ro (.agg [.int .i64 exB.w, .slice q1a exB.ps.length c1a, .slice q1b exB.gs.length c1b, .slice q1c exB.cs.length c1c, .slice q1d exB.ts.length c1d].toArray) exB:=⟨_,_,_,_,rfl,hP1⟩
 obtain⟨q2a,c2a,q2b,c2b,q2c,c2c,q2d,c2d,h2,hP2⟩:=a2
 have hv2:BkV ro (.agg [.int .i64 exT.w, .slice q2a exT.ps.length c2a, .slice q2b exT.gs.length c2b, .slice q2c exT.cs.length c2c, .slice q2d exT.ts.length c2d].toArray) exT:=⟨_,_,_,_,rfl,hP2⟩
 have k0:=RO.le_refl ro
 refine Xu W<|La Y G27 B27 (k0 _ _ h1) (sub5 U)<|R.callR C U U U U ((x_most hJ (he.mono k0) (hv1.mono k0))) fun v1 ro1 hl1 hq1=>?_
 subst hq1
 have k1:=RO.le_trans k0 hl1
 refine Ro W<|Re Z<|Re Z<|Rg Y<|Ae W<|Xu W<|La Y G27 B27 (k1 _ _ h2) (sub5 U)<|R.callR C U U U U ((x_mostT hJ (he.mono k1) (hv2.mono k1))) fun v2 ro2 hl2 hq2=>?_
 subst hq2
 have k2:=RO.le_trans k1 hl2
 refine Ro W<|Re Z<|Re Z<|Rg Y<|Ae W<|Xu W<|La Y G27 B27 (k2 _ _ h1) (sub5 U)<|R.callR C U U U U ((x_weak1 hJ (he.mono k2) (hv1.mono k2))) fun v3 ro3 hl3 hq3=>?_
 obtain⟨y3,hy3,rfl⟩:=hq3
 have k3:=RO.le_trans k2 hl3
 refine Ro W<|Re Z<|Re Z<|Rg Y<|Ae W<|Xu W<|La Y G27 B27 (k3 _ _ h1) (sub5 U)<|R.callR C U U U U ((x_weak2 hJ (he.mono k3) (hv1.mono k3))) fun v4 ro4 hl4 hq4=>?_
 obtain⟨y4,hy4,rfl⟩:=hq4
 have k4:=RO.le_trans k3 hl4
 refine Ro W<|Re Z<|Re Z<|Rg Y<|Ae W<|Xu W<|La Y G27 B27 (k4 _ _ h1) (sub5 U)<|R.callR C U U U U ((x_few (he.mono k4) (hv1.mono k4))) fun v5 ro5 hl5 hq5=>?_
 obtain⟨y5,hy5,rfl⟩:=hq5
 have k5:=RO.le_trans k4 hl5
 refine Ro W<|Re Z<|Re Z<|Re Z<|Rg Y<|Ae W<|Xu W<|La Y G27 B27 (k5 _ _ h2) (sub5 U)<|R.callR C U U U U ((x_fewT (he.mono k5) (hv2.mono k5))) fun v6 ro6 hl6 hq6=>?_
 obtain⟨y6,hy6,rfl⟩:=hq6
 have k6:=RO.le_trans k5 hl6
 refine Ro W<|Re Z<|Re Z<|Re Z<|Rg Y<|Rg Y<|Ae W<|Xu W<|La Y G27 B27 (k6 _ _ h2) (sub5 U)<|R.callR C U U U U ((x_share (he.mono k6) (hv2.mono k6))) fun v7 ro7 hl7 hq7=>?_
 obtain⟨y7,hy7,rfl⟩:=hq7
 have k7:=RO.le_trans k6 hl7
 refine Ro W<|Re Z<|Re Z<|Re Z<|Rg Y<|Rg Y<|Ae W<|Xu W<|La Y G27 B27 (k7 _ _ h1) (sub5 U)<|R.callR C U U U U ((x_renew (he.mono k7) (hv1.mono k7))) fun v8 ro8 hl8 hq8=>?_
 obtain⟨y8,hy8,rfl⟩:=hq8
 have k8:=RO.le_trans k7 hl8
 refine Ro W<|Re Z<|Re Z<|Re Z<|Rg Y<|Rg Y<|Ae W<|X.weaken ?_ (hoisted_d (he.mono k8) (At.mono ⟨_,_,_,_,_,_,_,_,h1,hP1⟩ k8) (At.mono ⟨_,_,_,_,_,_,_,_,h2,hP2⟩ k8) (hy3.mono (RO.le_trans hl4 (RO.le_trans hl5 (RO.le_trans hl6 (RO.le_trans hl7 hl8))))) (hy4.mono (RO.le_trans hl5 (RO.le_trans hl6 (RO.le_trans hl7 hl8)))) (hy6.mono (RO.le_trans hl7 hl8)) (hy7.mono hl8) hy8 fun ro' own h1 h2=>hret ro' own (RO.le_trans k8 h1) h2)
 exact⟨U,U,U,U,U,U,U,U,U,U,U,U,U,U,U,U,U,U,U,U,U,trivial⟩
noncomputable def g15:Code:=cR (cR (cR (cR (cR (cR (cR (cR (cR (cR (cR (cR (cR (cR (cR b23))))))))))))))
theorem hoisted_b(he:Env ro)(a1:At ro p1 exB)(a2:At ro p2 exT)(y4:LsI ro w4 [20,20,8,8])(y14:LsI ro w14 [21,22])(y16:LsI ro w16 [19,20,21])
  (hret:∀ro' own,ro.le ro'→tail.Sublist own→JM prog Q (G (c.finish (.bool true)) cs) ⟨ro',own⟩):
  X (JM prog Q) (bf 11 .normal) (c::cs) 373 [.code g15] [] [(1, .pointer (some ⟨p1,0,none⟩)),(2, .pointer (some ⟨p2,0,none⟩)),(4,w4),(5, .int .i64 0),(6, .bool false),(7, .int .i64 0),(8, .bool false),(9, .int .i64 0),(10, .int .i64 9),(11, .int .i64 0),(12, .int .i64 6),(13, .int .i64 0),(14,w14),(15, .int .i64 0),(16,w16),(17, .int .i64 0),(18, .int .i64 0),(19, .int .i64 0),(20, .int .i64 1),(21, .int .i64 0),(22, .int .i64 2),(23, .int .i64 0),(24, .int .i64 1),(25, .int .i64 0)]
   ⟨ro,tail⟩:=by
 have hJ:Closed prog true (JM prog Q):=JM.closed
 let main:=true
 let J:=JM prog Q
 have C:Ctx prog true (JM prog Q) (bf 11 .normal):=⟨hJ,by decide⟩
 obtain⟨q1a,c1a,q1b,c1b,q1c,c1c,q1d,c1d,h1,hP1⟩:=a1
 have hv1:BkV ro (.agg [.int .i64 exB.w, .slice q1a exB.ps.length c1a, .slice q1b exB.gs.length c1b, .slice q1c exB.cs.length c1c, .slice q1d exB.ts.length c1d].toArray) exB:=⟨_,_,_,_,rfl,hP1⟩
 obtain⟨q2a,c2a,q2b,c2b,q2c,c2c,q2d,c2d,h2,hP2⟩:=a2
 have hv2:BkV ro (.agg [.int .i64 exT.w, .slice q2a exT.ps.length c2a, .slice q2b exT.gs.length c2b, .slice q2c exT.cs.length c2c, .slice q2d exT.ts.length c2d].toArray) exT:=⟨_,_,_,_,rfl,hP2⟩
 have k0:=RO.le_refl ro
 obtain⟨_,_,rfl⟩:=y4.form
 obtain⟨_,_,rfl⟩:=y14.form
 obtain⟨_,_,rfl⟩:=y16.form
 refine Xx W<|Ro W<|Ri Z b_neq<|FF 99 U (by rfl)<|Oo W W<|Ri Z b_neq<|FF 102 U (by rfl)<|Pf Z<|Oo W W<|Ri Z b_neq<|FF 106 U (by rfl)<|Pf Z<|Oo W W<|Ri Z b_neq<|FF 110 U (by rfl)<|Pf Z<|Oo W W<|Ri Z b_neq<|FF 114 U (by rfl)<|Pf Z<|Oo W W<|Ri Z b_neq<|FF 118 U (by rfl)<|Pf Z<|Oo W W<|Ri Z b_neq<|FF 122 U (by rfl)<|Pf Z<|Oo W W<|Ri Z b_neq<|FF 126 U (by rfl)<|Pf Z ?_;refine Oo W W<|Ri Z b_neq<|FF 130 U (by rfl)<|Pf Z<|Oo W W<|Ri Z b_neq<|FF 134 U (by rfl)<|Pf Z<|Oo W W<|Ri Z b_neq<|FF 138 U (by rfl)<|Pf Z<|Zc U (fun h=>nomatch h) (fun _=>?_)
 refine Xz<|Xx W<|Ro W<|R.buildSlice C (vs:=_) U U (show pvals _ _=some (numbered 0 [_,_,_,_]) from rfl) U A58 B3 K3 Dd ((.cons U U (.cons U U (.cons U U (.cons U U .nil))))) fun p141=>R.persist C.1 fun ro1 hl1 hp1=>?_
 have k1:=RO.le_trans k0 hl1
 refine Cp Z (list_c hJ (y4.mono k1) (Ls.lit (xs:=([20,20,8,8]:List Int)) (t:=3) (fq:=(0,0)) ic_len hp1) Dd Dd)<|FT 142 U (by exact congrArg Value.bool Kr)<|Rh Y<|FF 143 U U<|Oo W W<|Pf Z<|Oo W W<|Pf Z<|Oo W W<|Ri Z b_neq<|FF 152 U (by rfl)<|Pf Z<|Oo W W<|Ri Z b_neq<|FF 156 U (by rfl)<|Pf Z<|Oo W W<|R.buildSlice C (vs:=_) U U (show pvals _ _=some (numbered 0 [_,_]) from rfl) U A58 B3 K3 Dd ((.cons U U (.cons U U .nil))) fun p160=>R.persist C.1 fun ro2 hl2 hp2=>?_
 have k2:=RO.le_trans k1 hl2
 refine Cp Z (list_c hJ (y14.mono k2) (Ls.lit (xs:=([21,22]:List Int)) (t:=3) (fq:=(0,0)) ic_len hp2) Dd Dd)<|FT 161 U (by exact congrArg Value.bool Kr)<|Rh Y<|FF 162 U U<|Pf Z<|Oo W W<|R.buildSlice C (vs:=_) U U (show pvals _ _=some (numbered 0 [_,_,_]) from rfl) U A58 B3 K3 Dd ((.cons U U (.cons U U (.cons U U .nil)))) fun p166=>R.persist C.1 fun ro3 hl3 hp3=>?_
 have k3:=RO.le_trans k2 hl3
 refine Cp Z (list_c hJ (y16.mono k3) (Ls.lit (xs:=([19,20,21]:List Int)) (t:=3) (fq:=(0,0)) ic_len hp3) Dd Dd)<|FT 167 U (by exact congrArg Value.bool Kr)<|Rh Y<|FF 168 U U<|Pf Z<|Oo W W<|Ri Z b_neq<|FF 172 U (by rfl)<|Pf Z<|Oo W W<|Ri Z b_neq<|FF 176 U (by rfl)<|Pf Z<|Oo W W<|Ri Z b_neq<|FF 180 U (by rfl)<|Pf Z<|Oo W W<|Ri Z b_neq<|FF 184 U (by rfl)<|Pf Z<|Zc U (fun h=>nomatch h) (fun _=>?_)
 refine Xz<|X.weaken ?_ (hoisted_c3 (he.mono k3) (At.mono ⟨_,_,_,_,_,_,_,_,h1,hP1⟩ k3) (At.mono ⟨_,_,_,_,_,_,_,_,h2,hP2⟩ k3) fun ro' own h1 h2=>hret ro' own (RO.le_trans k3 h1) h2)
 exact⟨U,U,trivial⟩
noncomputable def g4:Code:=cR (cR (cR (cR b23)))
theorem hoisted_a{p3:Nat}(he:Env ro)(a1:At ro p1 exB)(a2:At ro p2 exT)(a3:LyK ro p3)
  (hret:∀ro' own,ro.le ro'→tail.Sublist own→JM prog Q (G (c.finish (.bool true)) cs) ⟨ro',own⟩):
  X (JM prog Q) (bf 11 .normal) (c::cs) 373 [.code g4] [] [(1, .pointer (some ⟨p1,0,none⟩)),(2, .pointer (some ⟨p2,0,none⟩)),(3, .pointer (some ⟨p3,0,none⟩))]
   ⟨ro,tail⟩:=by
 have hJ:Closed prog true (JM prog Q):=JM.closed
 let main:=true
 let J:=JM prog Q
 have C:Ctx prog true (JM prog Q) (bf 11 .normal):=⟨hJ,by decide⟩
 obtain⟨q1a,c1a,q1b,c1b,q1c,c1c,q1d,c1d,h1,hP1⟩:=a1
 have hv1:BkV ro (.agg [.int .i64 exB.w, .slice q1a exB.ps.length c1a, .slice q1b exB.gs.length c1b, .slice q1c exB.cs.length c1c, .slice q1d exB.ts.length c1d].toArray) exB:=⟨_,_,_,_,rfl,hP1⟩
 obtain⟨q2a,c2a,q2b,c2b,q2c,c2c,q2d,c2d,h2,hP2⟩:=a2
 have hv2:BkV ro (.agg [.int .i64 exT.w, .slice q2a exT.ps.length c2a, .slice q2b exT.gs.length c2b, .slice q2c exT.cs.length c2c, .slice q2d exT.ts.length c2d].toArray) exT:=⟨_,_,_,_,rfl,hP2⟩
 obtain⟨k1,d1,k2,d2,h3,hk1,hk2⟩:=a3
 have hk:KsV ro (.agg [.slice k1 3 d1, .slice k2 2 d2].toArray) exK:=⟨_,_,rfl,hk1,hk2⟩
 have k0:=RO.le_refl ro
 refine Xu W<|La Y G27 B27 (k0 _ _ h1) (sub5 U)<|R.callR C U U U U ((x_pulls hJ (he.mono k0) (hv1.mono k0))) fun v1 ro1 hl1 hq1=>?_
 obtain⟨y1,hy1,rfl⟩:=hq1
 have k1:=RO.le_trans k0 hl1
 refine Ro W<|Re Z<|Re Z<|Rg Y<|Ae W<|Xu W<|La Y G27 B27 (k1 _ _ h1) (sub5 U)<|La Y isAgg107 B107 (k1 _ _ h3) (sub2 U)<|R.callR C U U U U ((x_lifts hJ (he.mono k1) (hv1.mono k1) (hk.mono k1))) fun v2 ro2 hl2 hq2=>?_
 subst hq2
 have k2:=RO.le_trans k1 hl2
 refine Ro W<|Re Z<|Re Z<|Rg Y<|Ae W<|Xu W<|La Y G27 B27 (k2 _ _ h2) (sub5 U)<|La Y isAgg107 B107 (k2 _ _ h3) (sub2 U)<|R.callR C U U U U ((x_is hJ (he.mono k2) (hv2.mono k2) (hk.mono k2))) fun v3 ro3 hl3 hq3=>?_
 subst hq3
 have k3:=RO.le_trans k2 hl3
 refine Ro W<|Re Z<|Re Z<|Rg Y<|Ae W<|Xu W<|La Y G27 B27 (k3 _ _ h1) (sub5 U)<|R.callR C U U U U ((x_cases hJ (he.mono k3) (hv1.mono k3))) fun v4 ro4 hl4 hq4=>?_
 subst hq4
 have k4:=RO.le_trans k3 hl4
 refine Ro W<|Re Z<|Re Z<|Rg Y<|Ae W<|Xu W<|La Y G27 B27 (k4 _ _ h2) (sub5 U)<|R.callR C U U U U ((x_casesT hJ (he.mono k4) (hv2.mono k4))) fun v5 ro5 hl5 hq5=>?_
 subst hq5
 have k5:=RO.le_trans k4 hl5
 refine Ro W<|Re Z<|Re Z<|Rg Y<|Ae W<|Xu W<|La Y G27 B27 (k5 _ _ h2) (sub5 U)<|R.callR C U U U U ((x_bears hJ (he.mono k5) (hv2.mono k5))) fun v6 ro6 hl6 hq6=>?_
 obtain⟨y6,hy6,rfl⟩:=hq6
 have k6:=RO.le_trans k5 hl6
 refine Ro W<|Re Z<|Re Z<|Rg Y<|Ae W<|Xu W<|La Y G27 B27 (k6 _ _ h1) (sub5 U)<|R.callR C U U U U ((x_weights hJ (he.mono k6) (hv1.mono k6))) fun v7 ro7 hl7 hq7=>?_
 obtain⟨y7,hy7,rfl⟩:=hq7
 have k7:=RO.le_trans k6 hl7
 refine Ro W<|Re Z<|Re Z<|Rg Y<|Ae W<|Xu W<|La Y G27 B27 (k7 _ _ h1) (sub5 U)<|R.callR C U U U U ((x_may1 hJ (he.mono k7) (hv1.mono k7))) fun v8 ro8 hl8 hq8=>?_
 subst hq8
 have k8:=RO.le_trans k7 hl8
 refine Ro W<|Re Z<|Re Z<|Rg Y<|Ae W<|Xu W<|La Y G27 B27 (k8 _ _ h2) (sub5 U)<|R.callR C U U U U ((x_may2 hJ (he.mono k8) (hv2.mono k8))) fun v9 ro9 hl9 hq9=>?_
 subst hq9
 have k9:=RO.le_trans k8 hl9
 refine Ro W<|Re Z<|Re Z<|Rg Y<|Ae W<|Xu W<|La Y G27 B27 (k9 _ _ h1) (sub5 U)<|R.callR C U U U U ((x_may3 hJ (he.mono k9) (hv1.mono k9))) fun v10 ro10 hl10 hq10=>?_
 subst hq10
 have k10:=RO.le_trans k9 hl10
 refine Ro W<|Re Z<|Re Z<|Rg Y<|Ae W<|Xu W<|La Y G27 B27 (k10 _ _ h1) (sub5 U)<|R.callR C U U U U ((x_may4 hJ (he.mono k10) (hv1.mono k10))) fun v11 ro11 hl11 hq11=>?_
 subst hq11
 have k11:=RO.le_trans k10 hl11
 refine Ro W<|Re Z<|Re Z<|Rg Y<|Ae W<|X.weaken ?_ (hoisted_b (he.mono k11) (At.mono ⟨_,_,_,_,_,_,_,_,h1,hP1⟩ k11) (At.mono ⟨_,_,_,_,_,_,_,_,h2,hP2⟩ k11) (hy1.mono (RO.le_trans hl2 (RO.le_trans hl3 (RO.le_trans hl4 (RO.le_trans hl5 (RO.le_trans hl6 (RO.le_trans hl7 (RO.le_trans hl8 (RO.le_trans hl9 (RO.le_trans hl10 hl11)))))))))) (hy6.mono (RO.le_trans hl7 (RO.le_trans hl8 (RO.le_trans hl9 (RO.le_trans hl10 hl11))))) (hy7.mono (RO.le_trans hl8 (RO.le_trans hl9 (RO.le_trans hl10 hl11)))) fun ro' own h1 h2=>hret ro' own (RO.le_trans k11 h1) h2)
 exact⟨U,U,U,U,U,U,U,U,U,U,U,U,U,U,U,U,U,U,U,U,U,U,U,U,trivial⟩
theorem hoisted_c(ro:RO)(he:Env ro):CallR prog (JM prog Q) (fnv 11) [] ro (fun w _=>w= .bool true):=by
 have hJ:Closed prog true (JM prog Q):=JM.closed
 let main:=true
 let J:=JM prog Q
 refine ER 373 hJ func11 W fun c cs tail hret C=>Xo W W<|Xu W<|R.callR C U U U U ((example_c hJ _)) fun v1 ro1 hl1 hq1=>?_
 have hq0:=hq1
 obtain⟨va1,va2,va3,va4,rfl,hP⟩:=hq1
 obtain⟨b1,c1,rfl⟩:=hP.1.form
 obtain⟨b2,c2,rfl⟩:=hP.2.1.form
 obtain⟨b3,c3,rfl⟩:=hP.2.2.1.form
 obtain⟨b4,c4,rfl⟩:=hP.2.2.2.form
 refine Al W K27 U fun p1=>Rs Z B27 Y V Ph5<|Rz<|Xv<|X.persist C.1 fun ro2 hl2 h1=>Xg W<|La Y G27 B27 h1 (sub5 U) ?_;refine R.build C U U U K105 U A105 Kr (Fills.part U U B3 U (.skip (.here .nil)) (Fills.part U U B4 U (.skip (.skip (.here .nil))) .nil))<|R.callR C U U U U (tried_c hJ (hq0.mono hl2) Dd ⟨0,21,true⟩) fun v3 ro3 hl3 hq3=>?_
 obtain⟨va1,va2,va3,va4,rfl,hP3⟩:=hq3
 obtain⟨b31,c31,rfl⟩:=hP3.1.form
 obtain⟨b32,c32,rfl⟩:=hP3.2.1.form
 obtain⟨b33,c33,rfl⟩:=hP3.2.2.1.form
 obtain⟨b34,c34,rfl⟩:=hP3.2.2.2.form
 refine Al W K27 U fun p2=>Rs Z B27 Y V Ph5<|Rz<|Xv<|X.persist C.1 fun ro4 hl4 h2=>Xg W<|R.buildSlice C (vs:=_) U U (show pvals _ _=some (numbered 0 [_,_,_]) from rfl) U A58 B3 K3 Dd ((.cons U U (.cons U U (.cons U U .nil)))) fun p38=>R.buildSlice C (vs:=_) U U (show pvals _ _=some (numbered 0 [_,_]) from rfl) U A58 B3 K3 Dd ((.cons U U (.cons U U .nil))) fun p39=>?_;refine R.build C U U U zeroValue107 U A107 Kr (Fills.part U U B58 U (.here .nil) (Fills.part U U B58 U (.skip (.here .nil)) .nil))<|Al W zeroValue107 U fun p3=>Rs Z B107 Y V Ph2<|Rz<|X.persist C.1 fun ro5 hl5 h3=>X.persist C.1 fun ro6 hl6 h39=>X.persist C.1 fun ro7 hl7 h38=>?_
 have k67:=RO.le_trans hl6 hl7
 have k57:=RO.le_trans hl5 k67
 have k47:=RO.le_trans hl4 k57
 have k37:=RO.le_trans hl3 k47
 have k27:=RO.le_trans hl2 k37
 have k17:=RO.le_trans hl1 k27
 refine X.weaken ?_ (hoisted_a (he.mono k17) ⟨_,_,_,_,_,_,_,_,k37 _ _ h1,hP.mono k27⟩ ⟨_,_,_,_,_,_,_,_,k57 _ _ h2,hP3.mono k47⟩ ⟨_,_,_,_,k67 _ _ h3,Ls.lit (xs:=([30,20,9]:List Int)) (t:=3) (fq:=(0,0)) ic_len h38,Ls.lit (xs:=([21,8]:List Int)) (t:=3) (fq:=(0,0)) ic_len (hl7 _ _ h39)⟩ fun ro' own h1 h2=>hret _ ro' own (RO.le_trans k17 h1) h2 U)
 exact⟨U,U,U,trivial⟩
end Go.Lg.B
set_option maxRecDepth 100000
namespace Go.Lg.B
open Go Go.Conc Go.Lg Go.Proofs Go.Proofs.Tryz
variable {b:Bk}{v:Value}{ro:RO}
def climbsH(n:Int):Option Int→List Int→Int
 |_, []=>0
 |q,k::l=>if !between k 0 (n-1) then 6 else if q.any (fun x=>decide (k≤x)) then 7 else climbsH n (some k) l
def loadOf(x:Int):Int:=1+x%99
def insideL(a c:List Int):Bool:=a.all fun n=>c.contains n
theorem insideL_cons(x:Int)(a c:List Int):insideL (x::a) c=(c.contains x && insideL a c):=rfl
def great(b:Bk):Bool:=decide (20<b.ps.length)||decide (20<b.gs.length)||decide (20<b.cs.length)||decide (20<b.ts.length)||(b.ps.any fun p=>decide (100<p.nm.length))||(b.gs.any fun g=>decide (20<g.length))||(b.cs.any fun p=>decide (100<p.nm.length))
section
variable {main:Bool}{J:Goroutine→Mem→Prop}(hJ:Closed prog main J)
include hJ
theorem betweenR_c(n l m:Int)(ro:RO):CallP prog J (fnv 121) [.int .i64 n, .int .i64 l, .int .i64 m] ro (.bool (between n l m)):=by
 refine EP 15 hJ func121 W fun c cs tail hret C=>Xo W W<|Xm W W<|Ro W<|Ri Z b_leq<|Ro W<|R.fix (t:=10) U (fun q1=>?_) (fun q1=>?_)
 ·refine Oo W W<|Ri Z b_leq<|Pp Z<|Hq W func121 hret ?_
  first|(simp_all [between,retVal];done)|(simp_all [between,retVal];omega)
 ·refine Rp W<|Rp W<|Rp W<|Pf Z<|Hq W func121 hret ?_
  first|(simp_all [between,retVal];done)|(simp_all [between,retVal];omega)
theorem insideR_c(x:Rc)(l m:Int)(ro:RO):CallP prog J (fnv 14) [x.val, .int .i64 l, .int .i64 m] ro (.bool (isReach x l m)):=by
 refine EP 24 hJ func14 W fun c cs tail hret C=>Xu W<|Bx Z fun p3=>Ae W<|Xm W W<|Rv 0 W A45 U B3<|Rj W G3 V U<|Ri Z b_leq<|Ro W<|R.fix (t:=11) U (fun q1=>?_) (fun q1=>?_)
 ·refine Rv 0 W A45 U B3<|Rj W G3 V U<|Rv 1 W A45 U B3<|Rj W G3 V U<|Ri Z b_leq<|Pp Z<|Ro W<|R.fix (t:=18) U (fun q2=>?_) (fun q2=>?_)
  ·refine Rv 1 W A45 U B3<|Rj W G3 V U<|Ro W<|Ri Z b_leq<|Pp Z<|Hq W func14 hret ?_
   first|(simp_all [isReach,retVal];done)|(simp_all [isReach,retVal];omega)
  ·refine Rp W<|Rp W<|Rp W<|Rp W<|Pf Z<|Hq W func14 hret ?_
   first|(simp_all [isReach,retVal];done)|(simp_all [isReach,retVal];omega)
 ·refine Rp W<|Rp W<|Rp W<|Rp W<|Rp W<|Pf Z<|Ro W<|Rp W<|Rp W<|Rp W<|Rp W<|Pf Z<|Hq W func14 hret ?_
  first|(simp_all [isReach,retVal];done)|(simp_all [isReach,retVal];omega)
theorem letterR_c(c:UInt8)(ro:RO):CallP prog J (fnv 274) [.int .u8 (c.toNat:Int)] ro (.bool (isLet c)):=by
 have hc:c.toNat<256:=UInt8.toNat_lt _
 refine EP 6 hJ func274 W fun c cs tail hret C=>Xo W W<|Xm W W<|R.convInt C U U U A5 A3 (wrap64 O O)<|Cp Z (betweenR_c hJ _ _ _ _)<|Hq W func274 hret ?_
 rfl
theorem digitR_c(c:UInt8)(ro:RO):CallP prog J (fnv 275) [.int .u8 (c.toNat:Int)] ro (.bool (isDig c)):=by
 have hc:c.toNat<256:=UInt8.toNat_lt _
 refine EP 6 hJ func275 W fun c cs tail hret C=>Xo W W<|Xm W W<|R.convInt C U U U A5 A3 (wrap64 O O)<|Cp Z (betweenR_c hJ _ _ _ _)<|Hq W func275 hret ?_
 rfl
theorem loadR_c{x:Int}(hx:0≤x∧x≤255)(ro:RO):CallP prog J (fnv 16) [.int .u8 x] ro (.int .i64 (loadOf x)):=by
 refine EP 7 hJ func16 W fun c cs tail hret C=>Xo W W<|Xm W W<|R.convInt C U U U A5 A3 (wrap64 O O)<|Ri Z (b_remP O O)<|Rb Y<|Hq W func16 hret ?_
 rfl
theorem isPartR_c(hv:BkV ro v b)(hb:b.ps.length≤1000000)(k:Int):CallP prog J (fnv 209) [v, .int .i64 k] ro (.bool (between k 0 (b.ps.length-1))):=by
 obtain⟨vp,vg,vc,vt,rfl,hp,hg,hc,ht⟩:=hv
 obtain⟨b1,c1,rfl⟩:=hp.form
 refine EP 11 hJ func209 W fun c cs tail hret C=>Xu W<|Bx Z fun p2=>Ae W<|Xm W W<|Rv 1 W A27 U B22<|Rj W G22 V U<|Rt W A22<|Ri Z (b_sub O O)<|Cp Z (betweenR_c hJ _ _ _ _)<|Hq W func209 hret ?_
 simp_all [retVal]
theorem isGearR_c(hv:BkV ro v b)(hb:b.gs.length≤1000000)(k:Int):CallP prog J (fnv 127) [v, .int .i64 k] ro (.bool (between k 0 (b.gs.length-1))):=by
 obtain⟨vp,vg,vc,vt,rfl,hp,hg,hc,ht⟩:=hv
 obtain⟨b1,c1,rfl⟩:=hg.form
 refine EP 11 hJ func127 W fun c cs tail hret C=>Xu W<|Bx Z fun p2=>Ae W<|Xm W W<|Rv 2 W A27 U B23<|Rj W G23 V U<|Rt W A23<|Ri Z (b_sub O O)<|Cp Z (betweenR_c hJ _ _ _ _)<|Hq W func127 hret ?_
 simp_all [retVal]
theorem holdsR_c{l:List Int}(hl:LsI ro v l)(hn:l.length≤1000000)(n:Int):CallP prog J (fnv 166) [v, .int .i64 n] ro (.bool (l.contains n)):=by
 obtain⟨lb,lc,rfl⟩:=hl.form
 refine EP 18 hJ func166 W fun c cs tail hret C=>Xo W W<|Xx W<|Ae W<|Xb<|X.loopI (ι:=Nat) C.1 (fun i=>i≤l.length∧l.contains n=(l.drop i).contains n) (fun i=> [(0, .slice lb l.length lc),(1, .int .i64 n),(5, .int .i64 (i:Int))])
  (fun _=>⟨ro,tail⟩) (fun i=>l.length-i) 0 ⟨Nat.zero_le _,rfl⟩ rfl ⟨U,U,U,trivial⟩ fun i hi hnext=>?_
 obtain⟨hi,hr⟩:=hi
 refine Xx W<|Oo W W<|Rt W A58<|Ri Z b_lss<|Zj U (fun hlt=>?_) (fun hlt=>?_)
 ·have hi':i<l.length:=O
  obtain⟨pp,off,cap,ll,t,fq,hsl,hrop,hsub⟩:=hl.at ic_len O
  cases hsl
  have hx:=ic_at hsub hi'
  rw [List.drop_eq_getElem_cons hi',List.contains_cons] at hr
  refine Xz<|Xv<|Xb<|Xm W W<|Ro W<|Ry Y A58 B3<|Lo Y G3 hrop hx<|Ro W<|Ri Z b_eql<|Zc U (fun he=>?_) (fun he=>?_)
  ·have he2:l[i]=n:=by simpa using he
   rw [he2,beq_self_eq_true,Bool.true_or] at hr
   refine Xu W<|Hq W func166 hret ?_
   rw [hr];rfl
  ·have he2:l[i]≠n:=by simpa using he
   rw [beq_eq_false_iff_ne.2 (Ne.symm he2),Bool.false_or] at hr
   refine Xz<|Xi<|Xg W<|Ro W<|Rb Y<|Ae W<|X.weaken ?_ (hnext (i+1) ⟨hi',hr⟩ O)
   exact⟨rfl,rfl,by simp [look],trivial⟩
 ·obtain rfl:i=l.length:=by omega
  rw [List.drop_length] at hr
  refine Xe U<|Xu W<|Hq W func166 hret ?_
  rw [hr];rfl
theorem inside2R_c{w:Value}{a d:List Int}(ha:LsI ro v a)(hd:LsI ro w d)(hn:a.length≤1000000)(hn2:d.length≤1000000):CallP prog J (fnv 70) [v,w] ro (.bool (insideL a d)):=by
 obtain⟨lb,lc,rfl⟩:=ha.form
 obtain⟨db,dc,rfl⟩:=hd.form
 refine EP 19 hJ func70 W fun c cs tail hret C=>Xo W W<|Xx W<|Ae W<|Xb<|X.loopI (ι:=Nat) C.1 (fun i=>i≤a.length∧insideL a d=insideL (a.drop i) d) (fun i=> [(0, .slice lb a.length lc),(1, .slice db d.length dc),(5, .int .i64 (i:Int))])
  (fun _=>⟨ro,tail⟩) (fun i=>a.length-i) 0 ⟨Nat.zero_le _,rfl⟩ rfl ⟨U,U,U,trivial⟩ fun i hi hnext=>?_
 obtain⟨hi,hr⟩:=hi
 refine Xx W<|Oo W W<|Rt W A58<|Ri Z b_lss<|Zj U (fun hlt=>?_) (fun hlt=>?_)
 ·have hi':i<a.length:=O
  obtain⟨pp,off,cap,ll,t,fq,hsl,hrop,hsub⟩:=ha.at ic_len O
  cases hsl
  have hx:=ic_at hsub hi'
  rw [List.drop_eq_getElem_cons hi',insideL_cons] at hr
  refine Xz<|Xv<|Xb<|Xm W W<|Oo W W<|Ry Y A58 B3<|Lo Y G3 hrop hx<|Cp Z (holdsR_c hJ (by assumption) (by assumption) _)<|Rh Y<|Zc U (fun he=>?_) (fun he=>?_)
  ·have he2:d.contains a[i]=false:=by simpa using he
   rw [he2,Bool.false_and] at hr
   refine Xu W<|Hq W func70 hret ?_
   rw [hr];rfl
  ·have he2:d.contains a[i]=true:=by simpa using he
   rw [he2,Bool.true_and] at hr
   refine Xz<|Xi<|Xg W<|Ro W<|Rb Y<|Ae W<|X.weaken ?_ (hnext (i+1) ⟨hi',hr⟩ O)
   exact⟨rfl,rfl,by simp [look],trivial⟩
 ·obtain rfl:i=a.length:=by omega
  rw [List.drop_length] at hr
  refine Xe U<|Xu W<|Hq W func70 hret ?_
  rw [hr];rfl
end
end Go.Lg.B
set_option maxRecDepth 100000
namespace Go.Lg.B
open Go Go.Conc Go.Lg Go.Proofs Go.Proofs.Tryz
variable {i off:Nat}{l:List Value}{b:Bk}{v:Value}{ro:RO}
theorem labGo_one(c:UInt8)(s:List UInt8):labGo 0 (c::s)=if isLet c=true then labGo 1 s else false:=by
 rw [labGo];cases isLet c<;>simp
theorem labGo_more(hi:0<i)(c:UInt8)(s:List UInt8):labGo i (c::s)=if isLet c=true∨isDig c=true then labGo (i+1) s else false:=by
 have:(i==0)=false:=by simp;omega
 rw [labGo,this];cases isLet c<;>cases isDig c<;>simp
theorem pt_nm{q:Pt}(h:Sub (off+i*4) 4 l q.cells):l[off+i*4+0]? =some (strV q.nm):=by
 have:=h.get 0 O
 simpa [Pt.cells] using this
theorem pc_nm{q:Pc}(h:Sub (off+i*3) 3 l q.cells):l[off+i*3+0]? =some (strV q.nm):=by
 have:=h.get 0 O
 simpa [Pc.cells] using this
variable {main:Bool}{J:Goroutine→Mem→Prop}(hJ:Closed prog main J)
include hJ
theorem isLabelR_c(s:List UInt8)(hs:s.length≤1000000)(ro:RO):CallP prog J (fnv 207) [strV s] ro (.bool (isLabel s)):=by
 refine EP 32 hJ func207 W fun c cs tail hret C=>Xo W W<|Xx W<|Ro W<|R.sLen C U U U A9<|Cp Z (betweenR_c hJ _ _ _ _)<|Rh Y<|Ro W<|R.fix (t:=8) U (fun g1=>?_) (fun g1=>?_)
 ·have g1:between (s.length:Int) 1 12=false:=by simpa using g1
  refine Rp W<|Rp W<|Rp W<|Rp W<|Pp Z<|Zc U (fun _=>?_) (fun h=>nomatch h)
  refine Xu W<|Hq W func207 hret ?_
  rw [isLabel,g1,Bool.and_false];rfl
 ·have g1:between (s.length:Int) 1 12=true:=by simpa using g1
  obtain⟨c0,s,rfl⟩:∃c t,s=c::t:=by
   cases s with
   |nil=>exact absurd g1 Dd
   |cons c t=>exact⟨c,t,rfl⟩
  have hI:isLabel (c0::s)=labGo 0 (c0::s):=by rw [isLabel,g1,Bool.and_true]
  rw [hI,labGo_one] at hret
  refine Ro W<|R.sIndex C U U U U A9 Dd U<|Cp Z (letterR_c hJ c0 _)<|Rh Y<|Pf Z<|Zc U (fun g2=>?_) (fun g2=>?_)
  ·have g2:isLet c0=false:=by simpa using g2
   refine Xu W<|Hq W func207 hret ?_
   rw [g2];rfl
  ·have g2:isLet c0=true:=by simpa using g2
   rw [if_pos g2] at hret
   generalize hS:c0::s=S
   have hS1:S.drop 1=s:=by rw [←hS];rfl
   have hSl:1≤S.length:=by rw [←hS];simp
   have hSh:S.length≤1000000:=by rw [←hS];exact hs
   refine Xz<|Xx W<|Ae W<|Xb<|X.loopI (ι:=Nat) C.1 (fun i=>1≤i∧i≤S.length∧labGo 1 s=labGo i (S.drop i)) (fun i=> [(0,strV S),(3, .int .i64 (i:Int))])
    (fun _=>⟨ro,tail⟩) (fun i=>S.length-i) 1 ⟨Nat.le_refl _,hSl,by rw [hS1]⟩ rfl ⟨U,U,trivial⟩ fun i hi hnext=>?_
   obtain⟨hi1,hi,hinv⟩:=hi
   refine Xx W<|Oo W W<|R.sLen C U U U A9<|Ri Z b_lss<|Zj U (fun hlt=>?_) (fun hlt=>?_)
   ·have hi':i<S.length:=O
    have hd:S.drop i=S[i]::S.drop (i+1):=List.drop_eq_getElem_cons hi'
    have hat:S[((i:Int)).toNat]? =some S[i]:=by rw [Int.toNat_natCast];exact List.getElem?_eq_getElem hi'
    rw [hd,labGo_more hi1] at hinv
    generalize S[i]=ch at hat hinv
    refine Xz<|Xv<|Xb<|Xm W W<|Ro W<|R.sIndex C U U U U A9 O hat<|Cp Z (letterR_c hJ ch _)<|Rh Y<|Ro W<|R.fix (t:=25) U (fun g3=>?_) (fun g3=>?_)
    ·have g3:isLet ch=false:=by simpa using g3
     refine Oo W W<|R.sIndex C U U U U A9 O hat<|Cp Z (digitR_c hJ ch _)<|Rh Y<|Pp Z<|Zc U (fun g4=>?_) (fun g4=>?_)
     ·have g4:isDig ch=false:=by simpa using g4
      refine Xu W<|Hq W func207 hret ?_
      rw [hinv,if_neg (by simp [g3,g4])];rfl
     ·have g4:isDig ch=true:=by simpa using g4
      refine Xz<|Xi<|Xg W<|Ro W<|Rb Y<|Ae W<|X.weaken ?_ (hnext (i+1) ⟨O,hi',by rw [hinv,if_pos (.inr g4)]⟩ O)
      exact⟨rfl,by simp [look],trivial⟩
    ·have g3:isLet ch=true:=by simpa using g3
     refine Rp W<|Rp W<|Rp W<|Rp W<|Rp W<|Pf Z<|Zc U (fun h=>nomatch h) (fun _=>?_)
     refine Xz<|Xi<|Xg W<|Ro W<|Rb Y<|Ae W<|X.weaken ?_ (hnext (i+1) ⟨O,hi',by rw [hinv,if_pos (.inl g3)]⟩ O)
     exact⟨rfl,by simp [look],trivial⟩
   ·obtain rfl:i=S.length:=by omega
    rw [List.drop_length] at hinv
    simp only [labGo] at hinv
    refine Xe U<|Xu W<|Hq W func207 hret ?_
    rw [hinv];rfl
theorem narrowR_c(x:Rc)(l m:Int)(hl: -1000000≤l)(hm:m≤1000000)(ro:RO):CallP prog J (fnv 208) [x.val, .int .i64 l, .int .i64 m] ro (.bool (isReach x l m && decide (x.hi-x.lo<3))):=by
 refine EP 19 hJ func208 W fun c cs tail hret C=>Xu W<|Bx Z fun p3=>Ae W<|Xu W<|Rq W G45 B45 V Tk2<|Oo W W<|Cp Z (insideR_c hJ _ _ _ _)<|Ro W<|R.fix (t:=11) U (fun g1=>?_) (fun g1=>?_)
 ·have g1:isReach x l m=true:=by simpa using g1
  have hb:l≤x.lo∧x.lo≤x.hi∧x.hi≤m:=by simpa [isReach,and_assoc] using g1
  refine Rv 1 W A45 U B3<|Rj W G3 V U<|Rv 0 W A45 U B3<|Rj W G3 V U<|Ri Z (b_sub O O)<|Ri Z b_lss<|Pp Z<|Hq W func208 hret ?_
  rw [g1,Bool.true_and];rfl
 ·have g1:isReach x l m=false:=by simpa using g1
  refine Rp W<|Rp W<|Rp W<|Rp W<|Rp W<|Rp W<|Pf Z<|Hq W func208 hret ?_
  rw [g1,Bool.false_and];rfl
theorem checkPartsR_c(hv:BkV ro v b)(hs:b.short):CallP prog J (fnv 124) [v] ro (.int .i64 (if b.winchH≠0 then b.winchH else b.partsH)):=by
 obtain⟨vp,vg,vc,vt,rfl,hp,hg,hc,ht⟩:=hv
 obtain⟨pb,pc,rfl⟩:=hp.form
 have hsl:=hs.ps
 refine EP 55 hJ F124 W fun c cs tail hret C=>Xu W<|Bx Z fun p1=>Ae W<|Xx W<|Rv 0 W A27 U B3<|Rj W G3 V U<|Cp Z (betweenR_c hJ _ _ _ _)<|Rh Y<|Zc U (fun hw=>?_) (fun hw=>?_)
 ·have hw:between b.w 0 99=false:=by simpa using hw
  have e:b.winchH=1:=by rw [Bk.winchH,if_neg (by simp [hw])]
  refine Xu W<|Hq W F124 hret ?_
  rw [if_pos (by rw [e];decide),e];rfl
 ·have hw:between b.w 0 99=true:=by simpa using hw
  have e:b.winchH=0:=by rw [Bk.winchH,if_pos hw]
  rw [if_neg (fun h=>h e)] at hret
  refine Xz<|Xx W<|Rv 1 W A27 U B22<|Rj W G22 V U<|Rt W A22<|Cp Z (betweenR_c hJ _ _ _ _)<|Rh Y<|Zc U (fun hn=>?_) (fun hn=>?_)
  ·have hn:between (b.ps.length:Int) 1 4=false:=by simpa using hn
   refine Xu W<|Hq W F124 hret ?_
   rw [Bk.partsH,if_pos (by simp [hn])];rfl
  ·have hn:between (b.ps.length:Int) 1 4=true:=by simpa using hn
   rw [Bk.partsH,if_neg (by simp [hn])] at hret
   refine Xz<|Xx W<|Ae W<|Xb<|X.loopI (ι:=Nat) C.1 (fun i=>i≤b.ps.length∧partsGo [] b.ps=partsGo ((b.ps.take i).map Pt.nm) (b.ps.drop i))
    (fun i=> [(3, .int .i64 (i:Int)),(1, .pointer (some ⟨p1,0,none⟩))])
    (fun i=>⟨ro,(p1, .cells [.int .i64 b.w, .slice pb b.ps.length pc,vg,vc,vt].toArray 27 (0,0))::tail⟩) (fun i=>b.ps.length-i) 0 ⟨Nat.zero_le _,by simp⟩ rfl ⟨U,U,trivial⟩ fun i hi hnext=>?_
   obtain⟨hi,hr⟩:=hi
   refine Xx W<|Ro W<|Rv 1 W A27 U B22<|Rj W G22 V U<|Rt W A22<|Ri Z b_lss<|Zj U (fun hlt=>?_) (fun hlt=>?_)
   ·have hi':i<b.ps.length:=O
    obtain⟨p,off,cap,l,t,fq,hsl',hrop,hsub⟩:=hp.at Pt.len O
    cases hsl'
    have hnm:=hsl.2 _ (List.getElem_mem hi')
    rw [List.drop_eq_getElem_cons hi'] at hr
    have hsi:=hsub i hi'
    have hmt:=map_take (f:=Pt.nm) hi'
    generalize b.ps[i]=q at hnm hr hsi hmt
    simp only [partsGo] at hr
    refine Xz<|Xv<|Xb<|Xu W<|Rv 1 W A27 U B22<|Rj W G22 V U<|Ro W<|Ry Y A22 B169<|La Y isAgg169 B169 hrop hsi<|Al W K169 U fun p4=>Rs Z B169 Y V Ph4<|Rz<|Xx W<|Rv 0 W A169 U B9<|Rj W G9 V U<|Cp Z (isLabelR_c hJ _ O _)<|Rh Y<|Zc U (fun h1=>?_) (fun h1=>?_)
    ·have h1:isLabel q.nm=false:=by simpa using h1
     have e1:nameH q.nm ((b.ps.take i).map Pt.nm)=4:=by rw [nameH,if_pos (by simp [h1])]
     refine Xu W<|Hq W F124 hret ?_
     rw [if_pos (by rw [e1];decide),e1] at hr
     rw [hr];rfl
    ·have h1:isLabel q.nm=true:=by simpa using h1
     refine Xz<|Xx W<|Ae W<|Xb<|X.loopI (ι:=Nat) C.1 (fun j=>j≤i∧q.nm∉ ((b.ps.take i).map Pt.nm).take j)
      (fun j=> [(4, .pointer (some ⟨p4,0,none⟩)),(5, .int .i64 (j:Int)),(3, .int .i64 (i:Int)),(1, .pointer (some ⟨p1,0,none⟩))])
      (fun j=>⟨ro,(p4, .cells q.cells.toArray 169 (0,0))::(p1, .cells [.int .i64 b.w, .slice (some ⟨p,off,none⟩) b.ps.length pc,vg,vc,vt].toArray 27 (0,0))::tail⟩) (fun j=>i-j) 0 ⟨Nat.zero_le _,by simp⟩ rfl ⟨U,U,U,U,trivial⟩ fun j hj hnext2=>?_
     obtain⟨hj,hout⟩:=hj
     refine Xx W<|Oo W W<|Ri Z b_lss<|Zj U (fun hlt2=>?_) (fun hlt2=>?_)
     ·have hj':j<i:=O
      have hjl:j<b.ps.length:=O
      have hnj:=pt_nm (hsub j hjl)
      have htk:((b.ps.take i).map Pt.nm).take (j+1)=((b.ps.take i).map Pt.nm).take j++ [(b.ps[j]).nm]:=by
       rw [List.take_succ_eq_append_getElem Zo]
       simp
      generalize(b.ps[j]).nm=nj at hnj htk
      refine Xz<|Xv<|Xb<|Xv<|Xf fun hok=>Df C 0 hok U U U A27 U B22 U<|Db 1 W G22 V U<|Dt 2 Y<|Dw 3 Y A22 B169<|Df C 4 hok U U U A169 U B9 U<|Dc 5 W G9 hrop hnj<|Df C 6 hok U U U A169 U B9 U<|Db 7 W G9 V U<|Dp 8 hok (fun _ _ _ A h=>R.str C U (A.w U U) (A.x U U) (A.x U U) b_seql h)<|Dn<|Xc U (fun h2=>?_) (fun h2=>?_)
      ·have h2:nj=q.nm:=by simpa using h2
       have hin:q.nm∈(b.ps.take i).map Pt.nm:=by
        refine List.mem_of_mem_take (i:=j+1) ?_
        rw [htk,h2];simp
       have e1:nameH q.nm ((b.ps.take i).map Pt.nm)=5:=by rw [nameH,if_neg (by simp [h1]),if_pos hin]
       refine Xu W<|Hq W F124 hret ?_
       rw [if_pos (by rw [e1];decide),e1] at hr
       rw [hr];rfl
      ·have h2:nj≠q.nm:=by simpa using h2
       refine Xz<|Xi<|Xg W<|Ro W<|Rb Y<|Ae W<|X.weaken ?_ (hnext2 (j+1) ⟨hj', ?_⟩ O)
       ·exact⟨rfl,by simp [look],rfl,rfl,trivial⟩
       ·rw [htk,List.mem_append,List.mem_singleton]
        exact fun h=>h.elim hout fun h=>h2 h.symm
     ·obtain rfl:j=i:=by omega
      rw [List.take_of_length_le Zo] at hout
      have e1:nameH q.nm ((b.ps.take j).map Pt.nm)=0:=by rw [nameH,if_neg (by simp [h1]),if_neg hout]
      rw [if_neg (fun h=>h e1)] at hr
      refine Xe U<|Xu W<|R.fieldAddr C U U U A169 U B3 U<|Rj W G3 V U<|Cp Z (betweenR_c hJ _ _ _ _)<|Rh Y<|Ro W<|R.fix (t:=49) U (fun h3=>?_) (fun h3=>?_)
      ·have h3:between q.sh 0 4=false:=by simpa using h3
       refine Rp W<|Rp W<|Rp W<|Rp W<|Pp Z<|Zc U (fun _=>?_) (fun h=>nomatch h)
       refine Xu W<|Hq W F124 hret ?_
       rw [if_pos (by simp [h3])] at hr
       rw [hr];rfl
      ·have h3:between q.sh 0 4=true:=by simpa using h3
       refine R.fieldAddr C U U U A169 U B45 U<|Rq W G45 B45 V V<|Cp Z (narrowR_c hJ _ _ _ O O _)<|Rh Y<|Pf Z<|Zc U (fun h4=>?_) (fun h4=>?_)
       ·have h4:isNarrow q.r 0=false:=(by simpa only [Bool.not_eq_true'] using h4:(isReach q.r 0 99 && decide (q.r.hi-q.r.lo<3))=false)
        refine Xu W<|Hq W F124 hret ?_
        rw [if_pos (by simp [h4])] at hr
        rw [hr];rfl
       ·have h4:isNarrow q.r 0=true:=(by simpa only [Bool.not_eq_false'] using h4:(isReach q.r 0 99 && decide (q.r.hi-q.r.lo<3))=true)
        rw [if_neg (by simp [h3,h4])] at hr
        refine Xz<|Xi<|Xg W<|Ro W<|Rb Y<|Ae W<|X.drop C.1 (own':=_::tail) (List.sublist_cons_self _ _)<|X.weaken ?_ (hnext (j+1) ⟨hi', ?_⟩ O)
        ·exact⟨by simp [look],rfl,trivial⟩
        ·rw [hr,hmt]
   ·obtain rfl:i=b.ps.length:=by omega
    simp only [List.drop_length,partsGo] at hr
    refine Xe U<|Xu W<|Hq W F124 hret ?_
    rw [hr];rfl
theorem checkPiecesR_c(hv:BkV ro v b)(hs:b.short):CallP prog J (fnv 126) [v] ro (.int .i64 b.piecesH):=by
 obtain⟨vp,vg,vc,vt,rfl,hp,hg,hc,ht⟩:=hv
 obtain⟨pb,pc,rfl⟩:=hc.form
 have hsl:=hs.cs
 refine EP 45 hJ func126 W fun c cs tail hret C=>Xu W<|Bx Z fun p1=>Ae W<|Xx W<|Rv 3 W A27 U B24<|Rj W G24 V U<|Rt W A24<|Cp Z (betweenR_c hJ _ _ _ _)<|Rh Y<|Zc U (fun hn=>?_) (fun hn=>?_)
 ·have hn:between (b.cs.length:Int) 1 3=false:=by simpa using hn
  refine Xu W<|Hq W func126 hret ?_
  rw [Bk.piecesH,if_pos (by simp [hn])];rfl
 ·have hn:between (b.cs.length:Int) 1 3=true:=by simpa using hn
  rw [Bk.piecesH,if_neg (by simp [hn])] at hret
  refine Xz<|Xx W<|Ae W<|Xb<|X.loopI (ι:=Nat) C.1 (fun i=>i≤b.cs.length∧piecesGo [] b.cs=piecesGo ((b.cs.take i).map Pc.nm) (b.cs.drop i))
   (fun i=> [(3, .int .i64 (i:Int)),(1, .pointer (some ⟨p1,0,none⟩))])
   (fun i=>⟨ro,(p1, .cells [.int .i64 b.w,vp,vg, .slice pb b.cs.length pc,vt].toArray 27 (0,0))::tail⟩) (fun i=>b.cs.length-i) 0 ⟨Nat.zero_le _,by simp⟩ rfl ⟨U,U,trivial⟩ fun i hi hnext=>?_
  obtain⟨hi,hr⟩:=hi
  refine Xx W<|Ro W<|Rv 3 W A27 U B24<|Rj W G24 V U<|Rt W A24<|Ri Z b_lss<|Zj U (fun hlt=>?_) (fun hlt=>?_)
  ·have hi':i<b.cs.length:=O
   obtain⟨p,off,cap,l,t,fq,hsl',hrop,hsub⟩:=hc.at Pc.len O
   cases hsl'
   have hnm:=hsl.2 _ (List.getElem_mem hi')
   rw [List.drop_eq_getElem_cons hi'] at hr
   have hsi:=hsub i hi'
   have hmt:=map_take (f:=Pc.nm) hi'
   generalize b.cs[i]=q at hnm hr hsi hmt
   simp only [piecesGo] at hr
   refine Xz<|Xv<|Xb<|Xu W<|Rv 3 W A27 U B24<|Rj W G24 V U<|Ro W<|Ry Y A24 B251<|La Y isAgg251 B251 hrop hsi<|Al W K251 U fun p4=>Rs Z B251 Y V Ph3<|Rz<|Xx W<|Rv 0 W A251 U B9<|Rj W G9 V U<|Cp Z (isLabelR_c hJ _ O _)<|Rh Y<|Zc U (fun h1=>?_) (fun h1=>?_)
   ·have h1:isLabel q.nm=false:=by simpa using h1
    have e1:nameH q.nm ((b.cs.take i).map Pc.nm)=4:=by rw [nameH,if_pos (by simp [h1])]
    refine Xu W<|Hq W func126 hret ?_
    rw [if_pos (by rw [e1];decide),e1] at hr
    rw [hr];rfl
   ·have h1:isLabel q.nm=true:=by simpa using h1
    refine Xz<|Xx W<|Ae W<|Xb<|X.loopI (ι:=Nat) C.1 (fun j=>j≤i∧q.nm∉ ((b.cs.take i).map Pc.nm).take j)
     (fun j=> [(4, .pointer (some ⟨p4,0,none⟩)),(5, .int .i64 (j:Int)),(3, .int .i64 (i:Int)),(1, .pointer (some ⟨p1,0,none⟩))])
     (fun j=>⟨ro,(p4, .cells q.cells.toArray 251 (0,0))::(p1, .cells [.int .i64 b.w,vp,vg, .slice (some ⟨p,off,none⟩) b.cs.length pc,vt].toArray 27 (0,0))::tail⟩) (fun j=>i-j) 0 ⟨Nat.zero_le _,by simp⟩ rfl ⟨U,U,U,U,trivial⟩ fun j hj hnext2=>?_
    obtain⟨hj,hout⟩:=hj
    refine Xx W<|Oo W W<|Ri Z b_lss<|Zj U (fun hlt2=>?_) (fun hlt2=>?_)
    ·have hj':j<i:=O
     have hjl:j<b.cs.length:=O
     have hnj:=pc_nm (hsub j hjl)
     have htk:((b.cs.take i).map Pc.nm).take (j+1)=((b.cs.take i).map Pc.nm).take j++ [(b.cs[j]).nm]:=by
      rw [List.take_succ_eq_append_getElem Zo]
      simp
     generalize(b.cs[j]).nm=nj at hnj htk
     refine Xz<|Xv<|Xb<|Xv<|Xf fun hok=>Df C 0 hok U U U A27 U B24 U<|Db 1 W G24 V U<|Dt 2 Y<|Dw 3 Y A24 B251<|Df C 4 hok U U U A251 U B9 U<|Dc 5 W G9 hrop hnj<|Df C 6 hok U U U A251 U B9 U<|Db 7 W G9 V U<|Dp 8 hok (fun _ _ _ A h=>R.str C U (A.w U U) (A.x U U) (A.x U U) b_seql h)<|Dn<|Xc U (fun h2=>?_) (fun h2=>?_)
     ·have h2:nj=q.nm:=by simpa using h2
      have hin:q.nm∈(b.cs.take i).map Pc.nm:=by
       refine List.mem_of_mem_take (i:=j+1) ?_
       rw [htk,h2];simp
      have e1:nameH q.nm ((b.cs.take i).map Pc.nm)=5:=by rw [nameH,if_neg (by simp [h1]),if_pos hin]
      refine Xu W<|Hq W func126 hret ?_
      rw [if_pos (by rw [e1];decide),e1] at hr
      rw [hr];rfl
     ·have h2:nj≠q.nm:=by simpa using h2
      refine Xz<|Xi<|Xg W<|Ro W<|Rb Y<|Ae W<|X.weaken ?_ (hnext2 (j+1) ⟨hj', ?_⟩ O)
      ·exact⟨rfl,by simp [look],rfl,rfl,trivial⟩
      ·rw [htk,List.mem_append,List.mem_singleton]
       exact fun h=>h.elim hout fun h=>h2 h.symm
    ·obtain rfl:j=i:=by omega
     rw [List.take_of_length_le Zo] at hout
     have e1:nameH q.nm ((b.cs.take j).map Pc.nm)=0:=by rw [nameH,if_neg (by simp [h1]),if_neg hout]
     rw [if_neg (fun h=>h e1)] at hr
     refine Xe U<|Xu W<|R.fieldAddr C U U U A251 U B45 U<|Rq W G45 B45 V V<|Cp Z (narrowR_c hJ _ _ _ O O _)<|Rh Y<|Zc U (fun h4=>?_) (fun h4=>?_)
     ·have h4:isNarrow q.r 1=false:=(by simpa only [Bool.not_eq_true'] using h4:(isReach q.r 1 99 && decide (q.r.hi-q.r.lo<3))=false)
      refine Xu W<|Hq W func126 hret ?_
      rw [if_pos (by simp [h4])] at hr
      rw [hr];rfl
     ·have h4:isNarrow q.r 1=true:=(by simpa only [Bool.not_eq_false'] using h4:(isReach q.r 1 99 && decide (q.r.hi-q.r.lo<3))=true)
      rw [if_neg (by simp [h4])] at hr
      refine Xz<|Xi<|Xg W<|Ro W<|Rb Y<|Ae W<|X.drop C.1 (own':=_::tail) (List.sublist_cons_self _ _)<|X.weaken ?_ (hnext (j+1) ⟨hi', ?_⟩ O)
      ·exact⟨by simp [look],rfl,trivial⟩
      ·rw [hr,hmt]
  ·obtain rfl:i=b.cs.length:=by omega
   simp only [List.drop_length,piecesGo] at hr
   refine Xe U<|Xu W<|Hq W func126 hret ?_
   rw [hr];rfl
end Go.Lg.B
set_option maxRecDepth 100000
namespace Go.Lg.B
open Go Go.Conc Go.Lg Go.Proofs Go.Proofs.Tryz
variable {s:List UInt8}{b:Bk}{v:Value}{ro:RO}
theorem there_if(n m:Int):there n m=if between n 0 (m-1)=true then 0 else 6:=rfl
theorem label_len(h:isLabel s=true):s.length≤12:=by
 simp only [isLabel,Bool.and_eq_true] at h
 have:=between_iff.1 h.2;omega
theorem name_len{before:List (List UInt8)}(h:nameH s before=0):s.length≤12:=by
 unfold nameH at h
 split at h
 ·cases h
 ·rename_i h1;exact label_len (by simpa using h1)
theorem partsGo_names:∀ {l:List Pt} {before:List (List UInt8)},partsGo before l=0→∀p∈l,p.nm.length≤12
 |x::l,before,h,p,hp=>by
  simp only [partsGo] at h
  split at h
  ·exact absurd h ‹_›
  ·rename_i h1
   split at h
   ·cases h
   ·rcases List.mem_cons.1 hp with rfl|hp
    ·exact name_len (Classical.not_not.1 h1)
    ·exact partsGo_names h p hp
theorem piecesGo_names:∀ {l:List Pc} {before:List (List UInt8)},piecesGo before l=0→∀p∈l,p.nm.length≤12
 |x::l,before,h,p,hp=>by
  simp only [piecesGo] at h
  split at h
  ·exact absurd h ‹_›
  ·rename_i h1
   split at h
   ·cases h
   ·rcases List.mem_cons.1 hp with rfl|hp
    ·exact name_len (Classical.not_not.1 h1)
    ·exact piecesGo_names h p hp
theorem check_parts(h:checkBook b=0):b.winchH=0∧b.partsH=0∧b.gearsH=0∧b.piecesH=0∧b.testsH=0:=by
 unfold checkBook at h
 split at h
 ·contradiction
 ·split at h
  ·contradiction
  ·split at h
   ·contradiction
   ·split at h
    ·contradiction
    ·rename_i h1 h2 h3 h4
     exact⟨Classical.not_not.1 h1,Classical.not_not.1 h2,Classical.not_not.1 h3,Classical.not_not.1 h4,h⟩
theorem names_of(h:checkBook b=0):(∀p∈b.ps,p.nm.length≤12)∧∀p∈b.cs,p.nm.length≤12:=by
 obtain⟨_,h2,_,h4,_⟩:=check_parts h
 refine⟨partsGo_names (before:= []) ?_,piecesGo_names (before:= []) ?_⟩
 ·unfold Bk.partsH at h2;split at h2
  ·cases h2
  ·exact h2
 ·unfold Bk.piecesH at h4;split at h4
  ·cases h4
  ·exact h4
theorem gear_small(hb:b.good):∀g∈b.gs,g.length≤4:=fun g hg=>by
 obtain⟨i,hi,rfl⟩:=List.mem_iff_getElem.1 hg
 have:=hb.gearLen (g:=(i:Int)) O O
 simpa [Bk.gear,List.getD_eq_getElem?_getD,hi] using this
theorem not_great(h:checkBook b=0):great b=false:=by
 have hb:=good_of h
 have h1:=hb.np;have h2:=hb.ng;have h3:=hb.nc;have h4:=hb.nt
 have hn:=names_of h
 have e1:(b.ps.any fun p=>decide (100<p.nm.length))=false:=by
  rw [List.any_eq_false];intro p hp;have:=hn.1 p hp;simp;omega
 have e2:(b.gs.any fun g=>decide (20<g.length))=false:=by
  rw [List.any_eq_false];intro g hg;have:=gear_small hb g hg;simp;omega
 have e3:(b.cs.any fun p=>decide (100<p.nm.length))=false:=by
  rw [List.any_eq_false];intro p hp;have:=hn.2 p hp;simp;omega
 rw [great,e1,e2,e3]
 simp;omega
theorem short_of(h:great b=false):b.short:=by
 simp only [great,Bool.or_eq_false_iff,decide_eq_false_iff_not,List.any_eq_false,decide_eq_true_eq] at h
 obtain⟨⟨⟨⟨⟨⟨h1,h2⟩,h3⟩,h4⟩,h5⟩,h6⟩,h7⟩:=h
 exact⟨⟨O,fun p hp=>by have:=h5 p hp;omega⟩,⟨O,fun g hg=>by have:=h6 g hg;omega⟩,⟨O,fun p hp=>by have:=h7 p hp;omega⟩,O⟩
variable {main:Bool}{J:Goroutine→Mem→Prop}(hJ:Closed prog main J)
include hJ
theorem checkGearsR_c(hv:BkV ro v b)(hs:b.short):CallP prog J (fnv 125) [v] ro (.int .i64 b.gearsH):=by
 have hvv:=hv
 obtain⟨vp,vg,vc,vt,rfl,hp,hg,hc,ht⟩:=hv
 obtain⟨pb,pc,rfl⟩:=hp.form
 obtain⟨gb,gc,rfl⟩:=hg.form
 have hsl:=hs.gs
 have hsp:=hs.ps.1
 refine EP 47 hJ func125 W fun c cs tail hret C=>Xu W<|Bx Z fun p1=>Ae W<|Xx W<|Rv 2 W A27 U B23<|Rj W G23 V U<|Rt W A23<|Cp Z (betweenR_c hJ _ _ _ _)<|Rh Y<|Zc U (fun hn=>?_) (fun hn=>?_)
 ·have hn:between (b.gs.length:Int) 1 3=false:=by simpa using hn
  refine Xu W<|Hq W func125 hret ?_
  rw [Bk.gearsH,if_pos (by simp [hn])];rfl
 ·have hn:between (b.gs.length:Int) 1 3=true:=by simpa using hn
  rw [Bk.gearsH,if_neg (by simp [hn])] at hret
  refine Xz<|Xx W<|Ae W<|Xb<|X.loopI (ι:=Nat) C.1 (fun i=>i≤b.gs.length∧gearsGo b.ps.length b.gs=gearsGo b.ps.length (b.gs.drop i))
   (fun i=> [(3, .int .i64 (i:Int)),(1, .pointer (some ⟨p1,0,none⟩))])
   (fun i=>⟨ro,(p1, .cells [.int .i64 b.w, .slice pb b.ps.length pc, .slice gb b.gs.length gc,vc,vt].toArray 27 (0,0))::tail⟩) (fun i=>b.gs.length-i) 0 ⟨Nat.zero_le _,by simp⟩ rfl ⟨U,U,trivial⟩ fun i hi hnext=>?_
  obtain⟨hi,hr⟩:=hi
  refine Xx W<|Ro W<|Rv 2 W A27 U B23<|Rj W G23 V U<|Rt W A23<|Ri Z b_lss<|Zj U (fun hlt=>?_) (fun hlt=>?_)
  ·have hi':i<b.gs.length:=O
   obtain⟨p,off,cap,l,t,fq,hsl',hrop,hsub⟩:=hg.at O
   cases hsl'
   rw [List.drop_eq_getElem_cons hi'] at hr
   obtain⟨qb,qc,hld,hqc,hq⟩:=hsub i hi'
   have hql:=hsl.2 _ (List.getElem_mem hi')
   generalize b.gs[i]=q at hr hld hqc hq hql
   simp only [gearsGo] at hr
   refine Xz<|Xv<|Xb<|Xu W<|Rv 2 W A27 U B23<|Rj W G23 V U<|Ro W<|Ry Y A23 B58<|Lo Y G58 hrop hld<|Ae W<|Xx W<|Ro W<|Rt W A58<|Ri Z b_eql<|Zc U (fun h1=>?_) (fun h1=>?_)
   ·have h1:q.length=0:=by simpa using h1
    refine Xu W<|Hq W func125 hret ?_
    rw [if_pos h1] at hr
    rw [hr];rfl
   ·have h1:¬q.length=0:=by simpa using h1
    rw [if_neg h1] at hr
    refine Xz<|Xo W W<|Xb<|X.loopI (ι:=Nat) C.1 (fun j=>j≤q.length∧gearGo b.ps.length [] q=gearGo b.ps.length (q.take j) (q.drop j))
     (fun j=> [(4, .slice qb q.length qc),(5, .int .i64 (j:Int)),(3, .int .i64 (i:Int)),(1, .pointer (some ⟨p1,0,none⟩))])
     (fun j=>⟨ro,(p1, .cells [.int .i64 b.w, .slice pb b.ps.length pc, .slice (some ⟨p,off,none⟩) b.gs.length gc,vc,vt].toArray 27 (0,0))::tail⟩) (fun j=>q.length-j) 0 ⟨Nat.zero_le _,by simp⟩ rfl ⟨U,U,U,U,trivial⟩ fun j hj hnext2=>?_
    obtain⟨hj,hr2⟩:=hj
    refine Xx W<|Oo W W<|Rt W A58<|Ri Z b_lss<|Zj U (fun hlt2=>?_) (fun hlt2=>?_)
    ·have hj':j<q.length:=O
     obtain⟨p2,off2,cap2,l2,t2,fq2,hsl2,hrop2,hsub2⟩:=hq.at ic_len O
     cases hsl2
     rw [List.drop_eq_getElem_cons hj'] at hr2
     have hat:=ic_at hsub2 hj'
     have htk:q.take (j+1)=q.take j++ [q[j]]:=List.take_succ_eq_append_getElem hj'
     generalize q[j]=n at hr2 hat htk
     simp only [gearGo] at hr2
     refine Xz<|Xv<|Xb<|Xv<|Xv<|Xf fun hok=>D5 C 0 hok U U G27 B27 V V<|Dt 1 Y<|Dt 2 Y<|Dw 3 Y A58 B3<|Dc 4 W G3 hrop2 hat<|De 5 (some 37) [false,false] hok (fun _ _ A hk=>?_)
     refine R.callP C U (A.w U U) (A.x U U) (A.s U U) (isPartR_c hJ hvv O n) (hk _ _ ⟨QFs.nil, ?_⟩)
     refine Dp 6 hok (fun _ _ _ A h=>R.not C U (A.w U U) (A.x U U) h)<|Dn<|Xc U (fun h2=>?_) (fun h2=>?_)
     ·have h2:there n b.ps.length=6:=by rw [there_if,if_neg (by simpa using h2)]
      rw [if_pos (by rw [h2];decide),h2] at hr2
      refine Xu W<|Hq W func125 hret ?_
      rw [if_pos (by rw [hr2];decide),hr2] at hr
      rw [hr];rfl
     ·have h2:there n b.ps.length=0:=by rw [there_if,if_pos (by simpa using h2)]
      rw [if_neg (fun h=>h h2)] at hr2
      refine Xz<|Xv<|Xf fun hok=>Dt 0 Y<|Dt 1 Y<|Dp 2 hok (fun _ _ _ A h=>R.sliceTo C U (A.w U U) (A.x U U) (A.x U U) A58 B3 O O h)<|Dt 3 Y<|Dt 4 Y<|Dw 5 Y A58 B3<|Dc 6 W G3 hrop2 hat<|De 7 (some 46) [false] hok (fun _ _ A hk=>?_)
      refine R.callP C U (A.w U U) (A.x U U) (A.s U U) (holdsR_c hJ (lsI_take hq (show((j:Int)).toNat≤q.length by omega)) Zo n) (hk _ _ ⟨QFs.nil, ?_⟩)
      refine Dn<|Xc U (fun h3=>?_) (fun h3=>?_)
      ·have h3:n∈q.take j:=by simpa [Int.toNat_natCast] using h3
       rw [if_pos h3] at hr2
       refine Xu W<|Hq W func125 hret ?_
       rw [if_pos (by rw [hr2];decide),hr2] at hr
       rw [hr];rfl
      ·have h3:¬n∈q.take j:=by simpa [Int.toNat_natCast] using h3
       rw [if_neg h3, ←htk] at hr2
       refine Xz<|Xi<|Xg W<|Ro W<|Rb Y<|Ae W<|X.weaken ?_ (hnext2 (j+1) ⟨hj',hr2⟩ O)
       exact⟨rfl,by simp [look],rfl,rfl,trivial⟩
    ·obtain rfl:j=q.length:=by omega
     simp only [List.drop_length,gearGo] at hr2
     rw [if_neg (by simp [hr2])] at hr
     refine Xe U<|Xi<|Xg W<|Ro W<|Rb Y<|Ae W<|X.weaken ?_ (hnext (i+1) ⟨hi',hr⟩ O)
     exact⟨by simp [look],rfl,trivial⟩
  ·obtain rfl:i=b.gs.length:=by omega
   simp only [List.drop_length,gearsGo] at hr
   refine Xe U<|Xu W<|Hq W func125 hret ?_
   rw [hr];rfl
theorem checkBookR_c(hv:BkV ro v b)(hs:b.short):CallP prog J (fnv 39) [v] ro (.int .i64 (checkBook b)):=by
 have hvv:=hv
 obtain⟨vp,vg,vc,vt,rfl,hp,hg,hc,ht⟩:=hv
 obtain⟨pb,pc,rfl⟩:=hp.form
 obtain⟨gb,gc,rfl⟩:=hg.form
 obtain⟨cb,cc,rfl⟩:=hc.form
 obtain⟨tb,tc,rfl⟩:=ht.form
 have hts:=hs.ts
 have hgl:=hs.gs.1
 have e0:checkBook b=if(if b.winchH≠0 then b.winchH else b.partsH)≠0 then(if b.winchH≠0 then b.winchH else b.partsH) else if b.gearsH≠0 then b.gearsH else if b.piecesH≠0 then b.piecesH else b.testsH:=by
  unfold checkBook
  by_cases h1:b.winchH=0
  ·by_cases h2:b.partsH=0<;>simp [h1,h2]
  ·simp [h1]
 rw [e0]
 refine EP 50 hJ F39 W fun c cs tail hret C=>Xu W<|Bx Z fun p1=>Ae W<|Xx W<|Rq W G27 B27 V Tk5<|Cp Z (checkPartsR_c hJ hvv hs)<|Ae W<|Xm W W<|Ri Z b_neq<|Zc U (fun h1=>?_) (fun h1=>?_)
 ·have h1:(if b.winchH≠0 then b.winchH else b.partsH)≠0:=by simpa using h1
  refine Xm W W<|Hq W F39 hret ?_
  rw [if_pos h1];rfl
 ·have h1:(if b.winchH≠0 then b.winchH else b.partsH)=0:=by simpa using h1
  rw [if_neg (fun h=>h h1)] at hret
  refine Xz<|Xx W<|Rq W G27 B27 V Tk5<|Cp Z (checkGearsR_c hJ hvv hs)<|Ae W<|Xm W W<|Ri Z b_neq<|Zc U (fun h2=>?_) (fun h2=>?_)
  ·have h2:b.gearsH≠0:=by simpa using h2
   refine Xm W W<|Hq W F39 hret ?_
   rw [if_pos h2];rfl
  ·have h2:b.gearsH=0:=by simpa using h2
   rw [if_neg (fun h=>h h2)] at hret
   refine Xz<|Xx W<|Rq W G27 B27 V Tk5<|Cp Z (checkPiecesR_c hJ hvv hs)<|Ae W<|Xm W W<|Ri Z b_neq<|Zc U (fun h3=>?_) (fun h3=>?_)
   ·have h3:b.piecesH≠0:=by simpa using h3
    refine Xm W W<|Hq W F39 hret ?_
    rw [if_pos h3];rfl
   ·have h3:b.piecesH=0:=by simpa using h3
    rw [if_neg (fun h=>h h3)] at hret
    refine Xz<|Xx W<|Rv 4 W A27 U B25<|Rj W G25 V U<|Rt W A25<|Ri Z b_gtr<|Zc U (fun h4=>?_) (fun h4=>?_)
    ·have h4:b.ts.length>3:=by simp only [dT] at h4;omega
     refine Xu W<|Hq W F39 hret ?_
     rw [Bk.testsH,if_pos h4];rfl
    ·have h4:¬b.ts.length>3:=by simp only [dF] at h4;omega
     rw [Bk.testsH,if_neg h4] at hret
     refine Xz<|Xx W<|Ae W<|Xb<|X.loopI (ι:=Nat) C.1 (fun i=>i≤b.ts.length∧testsGo b.gs.length b.ts=testsGo b.gs.length (b.ts.drop i))
      (fun i=> [(6, .int .i64 (i:Int)),(1, .pointer (some ⟨p1,0,none⟩))])
      (fun i=>⟨ro,(p1, .cells [.int .i64 b.w, .slice pb b.ps.length pc, .slice gb b.gs.length gc, .slice cb b.cs.length cc, .slice tb b.ts.length tc].toArray 27 (0,0))::tail⟩) (fun i=>b.ts.length-i) 0 ⟨Nat.zero_le _,by simp⟩ rfl ⟨U,U,trivial⟩ fun i hi hnext=>?_
     obtain⟨hi,hr⟩:=hi
     refine Xx W<|Ro W<|Rv 4 W A27 U B25<|Rj W G25 V U<|Rt W A25<|Ri Z b_lss<|Zj U (fun hlt=>?_) (fun hlt=>?_)
     ·have hi':i<b.ts.length:=O
      obtain⟨p,off,cap,l,t,fq,hsl',hrop,hsub⟩:=ht.at Ts.len O
      cases hsl'
      rw [List.drop_eq_getElem_cons hi'] at hr
      have hsi:=hsub i hi'
      generalize b.ts[i]=q at hr hsi
      have hg0:l[off+i*3+0]? =some (.int .i64 q.g):=by have:=hsi.get 0 O;simpa [Ts.cells] using this
      have hg1:l[off+i*3+1]? =some (.int .i64 q.l):=by have:=hsi.get 1 O;simpa [Ts.cells] using this
      simp only [testsGo] at hr
      refine Xz<|Xv<|Xb<|Xv<|Xv<|Xf fun hok=>D5 C 0 hok U U G27 B27 V V<|Df C 1 hok U U U A27 U B25 U<|Db 2 W G25 V U<|Dt 3 Y<|Dw 4 Y A25 B105<|Df C 5 hok U U U A105 U B3 U<|Dc 6 W G3 hrop hg0<|De 7 (some 40) [false,false,false] hok (fun _ _ A hk=>?_)
      refine R.callP C U (A.w U U) (A.x U U) (A.s U U) (isGearR_c hJ hvv O q.g) (hk _ _ ⟨QFs.nil, ?_⟩)
      refine Dp 8 hok (fun _ _ _ A h=>R.not C U (A.w U U) (A.x U U) h)<|Dn<|Xc U (fun h5=>?_) (fun h5=>?_)
      ·have h5:there q.g b.gs.length=6:=by rw [there_if,if_neg (by simpa using h5)]
       rw [if_pos (by rw [h5];decide),h5] at hr
       refine Xu W<|Hq W F39 hret ?_
       rw [hr];rfl
      ·have h5:there q.g b.gs.length=0:=by rw [there_if,if_pos (by simpa using h5)]
       rw [if_neg (fun h=>h h5)] at hr
       refine Xz<|Xu W<|R.fieldAddr C U U U A27 U B25 U<|Rj W G25 V U<|Ro W<|Ry Y A25 B105<|R.fieldAddr C U U U A105 U B3 U<|Lo Y G3 hrop hg1<|Cp Z (betweenR_c hJ _ _ _ _)<|Rh Y<|Zc U (fun h6=>?_) (fun h6=>?_)
       ·have h6:loadH q.l=1:=by rw [loadH,if_neg (by simpa using h6)]
        rw [if_pos (by rw [h6];decide),h6] at hr
        refine Xu W<|Hq W F39 hret ?_
        rw [hr];rfl
       ·have h6:loadH q.l=0:=by rw [loadH,if_pos (by simpa using h6)]
        rw [if_neg (fun h=>h h6)] at hr
        refine Xz<|Xi<|Xg W<|Ro W<|Rb Y<|Ae W<|X.weaken ?_ (hnext (i+1) ⟨hi',hr⟩ O)
        exact⟨by simp [look],rfl,trivial⟩
     ·obtain rfl:i=b.ts.length:=by omega
      simp only [List.drop_length,testsGo] at hr
      refine Xe U<|Xu W<|Hq W F39 hret ?_
      rw [hr];rfl
theorem greatR_c(hv:BkV ro v b):CallP prog J (fnv 38) [v] ro (.bool (great b)):=by
 obtain⟨vp,vg,vc,vt,rfl,hp,hg,hc,ht⟩:=hv
 obtain⟨pb,pc,rfl⟩:=hp.form
 obtain⟨gb,gc,rfl⟩:=hg.form
 obtain⟨cb,cc,rfl⟩:=hc.form
 obtain⟨tb,tc,rfl⟩:=ht.form
 refine EP 72 hJ F38 W fun c cs tail hret C=>Xu W<|Bx Z fun p1=>Ae W<|Xx W<|Rv 1 W A27 U B22<|Rj W G22 V U<|Rt W A22<|Ri Z b_gtr<|Ro W<|R.fix (t:=10) U (fun q1=>?_) (fun q1=>?_)
 ·have q1:20<b.ps.length:=by simp only [dT] at q1;omega
  refine Rp W<|Rp W<|Rp W<|Rp W<|Pp Z<|Ro W<|Rp W<|Rp W<|Rp W<|Rp W<|Pp Z<|Ro W<|Rp W<|Rp W<|Rp W<|Rp W<|Pp Z<|Zc U (fun _=>?_) (fun h=>nomatch h)
  refine Xu W<|Hq W F38 hret ?_
  rw [show great b=true by simp [great,q1]];rfl
 ·have q1:¬20<b.ps.length:=by simp only [dF] at q1;omega
  refine Rv 2 W A27 U B23<|Rj W G23 V U<|Rt W A23<|Ri Z b_gtr<|Pf Z<|Ro W<|R.fix (t:=16) U (fun q2=>?_) (fun q2=>?_)
  ·have q2:20<b.gs.length:=by simp only [dT] at q2;omega
   refine Rp W<|Rp W<|Rp W<|Rp W<|Pp Z<|Ro W<|Rp W<|Rp W<|Rp W<|Rp W<|Pp Z<|Zc U (fun _=>?_) (fun h=>nomatch h)
   refine Xu W<|Hq W F38 hret ?_
   rw [show great b=true by simp [great,q2]];rfl
  ·have q2:¬20<b.gs.length:=by simp only [dF] at q2;omega
   refine Rv 3 W A27 U B24<|Rj W G24 V U<|Rt W A24<|Ri Z b_gtr<|Pf Z<|Ro W<|R.fix (t:=22) U (fun q3=>?_) (fun q3=>?_)
   ·have q3:20<b.cs.length:=by simp only [dT] at q3;omega
    refine Rp W<|Rp W<|Rp W<|Rp W<|Pp Z<|Zc U (fun _=>?_) (fun h=>nomatch h)
    refine Xu W<|Hq W F38 hret ?_
    rw [show great b=true by simp [great,q3]];rfl
   ·have q3:¬20<b.cs.length:=by simp only [dF] at q3;omega
    refine Rv 4 W A27 U B25<|Rj W G25 V U<|Rt W A25<|Ri Z b_gtr<|Pf Z<|Zc U (fun q4=>?_) (fun q4=>?_)
    ·have q4:20<b.ts.length:=by simp only [dT] at q4;omega
     refine Xu W<|Hq W F38 hret ?_
     rw [show great b=true by simp [great,q4]];rfl
    ·have q4:¬20<b.ts.length:=by simp only [dF] at q4;omega
     have e0:great b=((b.ps.any fun p=>decide (100<p.nm.length))||(b.gs.any fun g=>decide (20<g.length))||(b.cs.any fun p=>decide (100<p.nm.length))):=by simp [great,q1,q2,q3,q4]
     rw [e0] at hret
     refine Xz<|Xx W<|Ae W<|Xb<|X.loopI (ι:=Nat) C.1 (fun i=>i≤b.ps.length∧(b.ps.any fun p=>decide (100<p.nm.length))=((b.ps.drop i).any fun p=>decide (100<p.nm.length))) (fun i=> [(3, .int .i64 (i:Int)),(1, .pointer (some ⟨p1,0,none⟩))])
      (fun _=>⟨ro,(p1, .cells [.int .i64 b.w, .slice pb b.ps.length pc, .slice gb b.gs.length gc, .slice cb b.cs.length cc, .slice tb b.ts.length tc].toArray 27 (0,0))::tail⟩) (fun i=>b.ps.length-i) 0 ⟨Nat.zero_le _,by simp⟩ rfl ⟨U,U,trivial⟩ fun i hi hnext=>?_
     obtain⟨hi,hr⟩:=hi
     refine Xx W<|Ro W<|Rv 1 W A27 U B22<|Rj W G22 V U<|Rt W A22<|Ri Z b_lss<|Zj U (fun hlt=>?_) (fun hlt=>?_)
     ·have hi':i<b.ps.length:=O
      obtain⟨p,off,cap,l,t,fq,hsl',hrop,hsub⟩:=hp.at Pt.len O
      cases hsl'
      rw [List.drop_eq_getElem_cons hi',List.any_cons] at hr
      have hat:=pt_nm (hsub i hi')
      generalize b.ps[i]=q at hat hr
      refine Xz<|Xv<|Xb<|Xu W<|R.fieldAddr C U U U A27 U B22 U<|Rj W G22 V U<|Ro W<|Ry Y A22 B169<|R.fieldAddr C U U U A169 U B9 U<|Lo Y G9 hrop hat<|R.sLen C U U U A9<|Ri Z b_gtr<|Zj U (fun hc2=>?_) (fun hc2=>?_)
      ·rw [decide_eq_true O,Bool.true_or] at hr
       refine Xu W<|Hq W F38 hret ?_
       rw [hr];simp [retVal]
      ·rw [decide_eq_false O,Bool.false_or] at hr
       refine Xz<|Xi<|Xg W<|Ro W<|Rb Y<|Ae W<|X.weaken ?_ (hnext (i+1) ⟨hi',hr⟩ O)
       exact⟨by simp [look],rfl,trivial⟩
     ·obtain rfl:i=b.ps.length:=by omega
      rw [List.drop_length,List.any_nil] at hr
      rw [hr,Bool.false_or] at hret
      clear hr hnext
      refine Xe U<|Xx W<|Ae W<|Xb<|X.loopI (ι:=Nat) C.1 (fun i=>i≤b.gs.length∧(b.gs.any fun p=>decide (20<p.length))=((b.gs.drop i).any fun p=>decide (20<p.length))) (fun i=> [(4, .int .i64 (i:Int)),(1, .pointer (some ⟨p1,0,none⟩))])
       (fun _=>⟨ro,(p1, .cells [.int .i64 b.w, .slice pb b.ps.length pc, .slice gb b.gs.length gc, .slice cb b.cs.length cc, .slice tb b.ts.length tc].toArray 27 (0,0))::tail⟩) (fun i=>b.gs.length-i) 0 ⟨Nat.zero_le _,by simp⟩ rfl ⟨U,U,trivial⟩ fun i hi hnext=>?_
      obtain⟨hi,hr⟩:=hi
      refine Xx W<|Ro W<|Rv 2 W A27 U B23<|Rj W G23 V U<|Rt W A23<|Ri Z b_lss<|Zj U (fun hlt=>?_) (fun hlt=>?_)
      ·have hi':i<b.gs.length:=O
       obtain⟨p,off,cap,l,t,fq,hsl',hrop,hsub⟩:=hg.at O
       cases hsl'
       obtain⟨qb,qc,hld,hqc,hq⟩:=hsub i hi'
       rw [List.drop_eq_getElem_cons hi',List.any_cons] at hr
       generalize b.gs[i]=q at hld hr
       refine Xz<|Xv<|Xb<|Xu W<|R.fieldAddr C U U U A27 U B23 U<|Rj W G23 V U<|Ro W<|Ry Y A23 B58<|Lo Y G58 hrop hld<|Rt W A58<|Ri Z b_gtr<|Zj U (fun hc2=>?_) (fun hc2=>?_)
       ·rw [decide_eq_true O,Bool.true_or] at hr
        refine Xu W<|Hq W F38 hret ?_
        rw [hr];simp [retVal]
       ·rw [decide_eq_false O,Bool.false_or] at hr
        refine Xz<|Xi<|Xg W<|Ro W<|Rb Y<|Ae W<|X.weaken ?_ (hnext (i+1) ⟨hi',hr⟩ O)
        exact⟨by simp [look],rfl,trivial⟩
      ·obtain rfl:i=b.gs.length:=by omega
       rw [List.drop_length,List.any_nil] at hr
       rw [hr,Bool.false_or] at hret
       clear hr hnext
       refine Xe U<|Xx W<|Ae W<|Xb<|X.loopI (ι:=Nat) C.1 (fun i=>i≤b.cs.length∧(b.cs.any fun p=>decide (100<p.nm.length))=((b.cs.drop i).any fun p=>decide (100<p.nm.length))) (fun i=> [(5, .int .i64 (i:Int)),(1, .pointer (some ⟨p1,0,none⟩))])
        (fun _=>⟨ro,(p1, .cells [.int .i64 b.w, .slice pb b.ps.length pc, .slice gb b.gs.length gc, .slice cb b.cs.length cc, .slice tb b.ts.length tc].toArray 27 (0,0))::tail⟩) (fun i=>b.cs.length-i) 0 ⟨Nat.zero_le _,by simp⟩ rfl ⟨U,U,trivial⟩ fun i hi hnext=>?_
       obtain⟨hi,hr⟩:=hi
       refine Xx W<|Ro W<|Rv 3 W A27 U B24<|Rj W G24 V U<|Rt W A24<|Ri Z b_lss<|Zj U (fun hlt=>?_) (fun hlt=>?_)
       ·have hi':i<b.cs.length:=O
        obtain⟨p,off,cap,l,t,fq,hsl',hrop,hsub⟩:=hc.at Pc.len O
        cases hsl'
        rw [List.drop_eq_getElem_cons hi',List.any_cons] at hr
        have hat:=pc_nm (hsub i hi')
        generalize b.cs[i]=q at hat hr
        refine Xz<|Xv<|Xb<|Xu W<|R.fieldAddr C U U U A27 U B24 U<|Rj W G24 V U<|Ro W<|Ry Y A24 B251<|R.fieldAddr C U U U A251 U B9 U<|Lo Y G9 hrop hat<|R.sLen C U U U A9<|Ri Z b_gtr<|Zj U (fun hc2=>?_) (fun hc2=>?_)
        ·rw [decide_eq_true O,Bool.true_or] at hr
         refine Xu W<|Hq W F38 hret ?_
         rw [hr];simp [retVal]
        ·rw [decide_eq_false O,Bool.false_or] at hr
         refine Xz<|Xi<|Xg W<|Ro W<|Rb Y<|Ae W<|X.weaken ?_ (hnext (i+1) ⟨hi',hr⟩ O)
         exact⟨by simp [look],rfl,trivial⟩
       ·obtain rfl:i=b.cs.length:=by omega
        rw [List.drop_length,List.any_nil] at hr
        refine Xe U<|Xu W<|Hq W F38 hret ?_
        rw [hr];rfl
theorem fitR_c(hv:BkV ro v b):CallP prog J (fnv 8) [v] ro (.bool (checkBook b==0)):=by
 have hvv:=hv
 obtain⟨vp,vg,vc,vt,rfl,hp,hg,hc,ht⟩:=hv
 by_cases hg:great b=true
 ·have hne:checkBook b≠0:=fun h=>by rw [not_great h] at hg;cases hg
  refine EP 11 hJ func8 W fun c cs tail hret C=>Xu W<|Bx Z fun p1=>Ae W<|Xu W<|Rq W G27 B27 V Tk5<|Cp Z (greatR_c hJ hvv)<|Rh Y<|FF 5 U (by(rw [hg];rfl))<|Ro W<|Rp W<|Rp W<|Rp W<|Pf Z<|Hq W func8 hret ?_
  rw [beq_eq_false_iff_ne.2 hne];rfl
 ·have hg2:great b=false:=by simpa using hg
  have hsh:=short_of hg2
  refine EP 11 hJ func8 W fun c cs tail hret C=>Xu W<|Bx Z fun p1=>Ae W<|Xu W<|Rq W G27 B27 V Tk5<|Cp Z (greatR_c hJ hvv)<|Rh Y<|FT 5 U (by(rw [hg2];rfl))<|Ro W<|Rq W G27 B27 V Tk5<|Cp Z (checkBookR_c hJ hvv hsh)<|Ri Z b_eql<|Pp Z<|Hq W func8 hret ?_
  rfl
end Go.Lg.B
namespace Go.Lg
open Go Go.Conc
variable {fn:Func}{rs:List ResultVar}{vs:List Value}
section
variable {P:Program}{Post:Value→World→Prop}{b:Frame}{n:Nat}{ds:List Deferred}{σ:Slots}{ro:RO}{own:List (Nat×Obj)}{k:List Item}
def Back0(ro:RO)(Post:Value→World→Prop)(R:Value→RO→Prop):Prop:=
 ∀v ro' own,ro.le ro'→R v ro'→∀w,Sat ⟨ro',own⟩ w→Post v w
theorem J_leave0{a:Act}{todo:List Item}(hi:P.inits.idxOf? b.fn=none)(hkind:b.kind= .normal)(hf:P.funcs[b.fn]? =some fn)(hrs:fn.results=rs.toArray)(ha:Holds n [] σ a)(hr:Res P σ own rs vs)(h:∀w,Sat ⟨ro,own⟩ w→Post (retVal vs) w):
  JM P (Go.Conc.Good P Post) (G {fr b a todo with mode:= .returning} []) ⟨ro,own⟩:=by
 refine JM.last U fun w hs=>?_
 obtain⟨x,w',es,M',h1,h2,h3,h4⟩:=Sm.results (ro:=ro) (tmps:=a.tmps) ha rfl hrs hr (K:=fun v M'=>v=retVal vs∧M'=⟨ro,own⟩) ⟨rfl,rfl⟩ w #[] hs
 subst h3;subst h4
 rw [Array.empty_append] at h1
 refine⟨_,w',seen P b.fn es,_, ?_,{h2 with evs:=fun e he=>h2.evs e (mem_seen he) },h w' h2.sat⟩
 simp only [fr,G,stepG,unwind,ha.defers,hf]
 rw [h1]
 simp [GStep.after,doReturn,hkind,hi]
variable (C:Ctx P true (JM P (Go.Conc.Good P Post)) b)
include C
theorem X.ret0(hi:P.inits.idxOf? b.fn=none)(hro:b.roundOf=none)(hkind:b.kind= .normal)(hf:P.funcs[b.fn]? =some fn)(hrs:fn.results=rs.toArray)(hr:Res P σ own rs vs)(h:∀w,Sat ⟨ro,own⟩ w→Post (retVal vs) w):
  X (JM P (Go.Conc.Good P Post)) b [] n (.code .ret::k) [] σ ⟨ro,own⟩:=fun _ ha=>C.1.ctl rfl (fun w=>ret_step hro w) (J_leave0 hi hkind hf hrs ha hr h)
end
def Root(P:Program)(f:FuncId)(args:List Value)(ro:RO)(R:Value→RO→Prop):Prop:=
 ∀Post,Back0 ro Post R→JM P (Go.Conc.Good P Post) (G (Frame.enter P f args.toArray .normal) []) ⟨ro, []⟩
end Go.Lg
namespace Go.Lg
open Go Go.Conc Go.ChangeShapes Go.RowKit
variable {W W':World}
section
variable {H:Type}{enc:TypeId×Value→H}
theorem trodAll_stays{P:Program}(hl:laidOutB P=true){W W':World}{sp':Nat→Bool}:∀ {ts:List TypeId} {vs:List Value} {ds:List (DataW H)} {ps:List MemPlace},(∀t∈ts,P.readableRec t=true∧t<P.types.size)→
  DataW.TrodAll enc P W 0 (fun _=>true) true ts vs ds ps→(∀p∈ps,W.sameAt W' p)→(∀p∈ps,sp' p.block=true)→DataW.TrodAll enc P W' 0 sp' true ts vs ds ps
 | [],vs,ds,ps,_,h,_,_=>by obtain⟨rfl,rfl,rfl⟩:=trodAll_nil h;exact trodAll_mk0
 |t::ts,vs,ds,ps,hr,h,h1,h2=>by
  obtain⟨v,vs',d,ds',p,q,rfl,rfl,rfl,hd,hrest⟩:=trodAll_cons h
  exact⟨p,q,WideElems.Trod_stays hl (hr t List.mem_cons_self).1 (hr t List.mem_cons_self).2 hd (fun x hx=>h1 x (List.mem_append_left _ hx)) (fun x hx=>h2 x (List.mem_append_left _ hx)),trodAll_stays hl (fun t ht=>hr t (List.mem_cons_of_mem _ ht)) hrest (fun x hx=>h1 x (List.mem_append_right _ hx)) (fun x hx=>h2 x (List.mem_append_right _ hx)),rfl⟩
theorem sameAt_of(h:∀ (b:Nat)(o:Obj),W.heap[b]? =some o→W'.heap[b]? =some o){p:MemPlace}(hp:p.block<W.heap.size):W.sameAt W' p:=by
 have hb:W'.heap[p.block]? =W.heap[p.block]? :=by rw [h _ _ (Array.getElem?_eq_getElem hp),Array.getElem?_eq_getElem hp]
 cases p with
 |cell b o=>exact World.cell?_of_block (w:=W) hb
 |map b=>exact hb
theorem keptBut_of(h:∀ (b:Nat)(o:Obj),W.heap[b]? =some o→W'.heap[b]? =some o)(hs:SameOut W W')(may:MemPlace→Prop):W.keptBut W' may:=by
 refine⟨hs.1,hs.2,fun i hi=>?_⟩
 rw [h _ _ (Array.getElem?_eq_getElem hi),Array.getElem?_eq_getElem hi]
 split<;>simp_all
theorem leaving_of_root{a:Assume}{C:Checked}{os:Os}{f:FuncId}{fn:Func}{s:ChangeSpec}{conds:List PathCond}{apart fresh handsOn:Bool}{X:World→Array Value→Prop}{tb:TypeId}
  (hX:∀ (w w':World) (args:Array Value),w.heap=w'.heap→X w args→X w' args)
  (own:ownKnob C.prog.godebug=none) (started:os.Started) (hfn:C.prog.funcs[f]? =some fn)
  (hl:laidOutB C.prog=true) (hpar:∀t∈fn.params.toList,C.prog.readableRec t=true∧t<C.prog.types.size) (hvars:s.vars= []) (hres:fn.resultTypes= #[tb]) (htb:C.prog.underlying tb=some .bool)
  (witness:∃ (w:World) (tape:Tape) (i:Input),w.os=os∧(w.forCall tape i).Shaped C.prog∧i.vars= []∧Input.okWide C.prog (w.forCall tape i) .any w.heap.size f i∧
   ((s.pre enc C.prog fn conds apart (w.forCall tape i).memory i.args∧X (w.forCall tape i).memory i.args)∧sizedMet enc C.prog fn (OpenSpec.ofChange s) apart (w.forCall tape i).memory i.args)∧a.holds C.prog (lone (Frame.enter C.prog f i.args .normal) [] (w.forCall tape i)))
  (root:∀ (W:World) (base:Nat) (args:Array Value) (ds gs:List (DataW H)) (before:List MemPlace),
   (∀ (j:Nat) t v,fn.params[j]? =some t→args[j]? =some v→Value.okWide C.prog W .any base t v)→
   DataW.Whole enc C.prog fn.params.toList s.vars apart W args.toList ds gs before→
   conds.all (PathCond.test C.prog ⟨fn.params.toList,ds,s.plain.varTypes C.prog,gs⟩)=true→(DataW.weightsEach C.prog (fn.params.toList++s.plain.varTypes C.prog) (ds++gs)).all (· ≤reachBytes)=true→X W args→
   s.fn H (ds++gs)={results:= [.lit (.bool true)],args:=ds,vars:= [] }∧Root C.prog f args.toList (fun b=>W.heap[b]?) (fun w _=>w= .bool true)):
  ReturnsInLeavingWide a C os f .any (fun w args=>(s.pre enc C.prog fn conds apart w args∧X w args)∧sizedMet enc C.prog fn (OpenSpec.ofChange s) apart w args) (s.post enc C.prog fn apart fresh handsOn false):=by
 refine returnsInLeavingWide_of_good own started witness ?_
 intro w tape i _ _ _ hok hpre hholds
 obtain⟨_,_,_,fn',hfn',_,_,_,_,hval⟩:=hok
 have e:fn'=fn:=Option.some.inj (hfn'.symm.trans hfn)
 subst e
 obtain⟨⟨⟨ds,gs,before,hw,hc⟩,hx⟩,hz⟩:=hpre
 have hw':=DataW.Whole.of_heap (w':=w.forCall tape i) (by rfl) hw
 generalize hW:w.forCall tape i=W at*
 obtain⟨hfnv,hroot⟩:=root W w.heap.size i.args ds gs before hval hw' hc (hz.weights hw) (hX _ _ _ (by subst hW;rfl) hx)
 have hj:=hroot (fun v w'=>v= .bool true∧∀ (b:Nat) (o:Obj),W.heap[b]? =some o→w'.heap[b]? =some o) fun v ro' own hle hv w' hs=>⟨hv,fun b o hb=>hs.ro _ _ (hle _ _ hb)⟩
 rw [Array.toArray_toList] at hj
 obtain⟨N,last,o,w',t',h1,h2,h3,hG,hso⟩:=JM.start hj
 refine⟨N,last,o,w',t',h1,h2,h3,hG.mono fun v ⟨hv,hh⟩=>ChangeSpec.post_blind ?_⟩
 subst hv
 obtain⟨p,q,hA,hV,rfl,_,_⟩:=id hw'
 refine⟨ds,gs,_, [],p, [],hw', ?_, ?_, ?_,keptBut_of hh hso _,fun h=>nomatch h⟩
 ·rw [hfnv,hres]
  exact trodAll_mk1 (shut_bool htb _)
 ·rw [hfnv]
  have hlt:=hw'.lt
  exact trodAll_stays hl hpar hA (fun x hx=>sameAt_of hh (hlt x (List.mem_append_left _ hx))) (fun x hx=>by simpa using hlt x (List.mem_append_left _ hx))
 ·rw [hfnv,hvars];rfl
end
end Go.Lg
namespace Go.Lg.B
open Go Go.Conc Go.Lg Go.Proofs Go.WideShapes Go.ChangeShapes Go.Proofs.Tryz
set_option maxRecDepth 100000
variable {v:Value}{t:TypeId}{cs:List Value}{b0 n:Nat}{r:Reach}{p:List MemPlace}
theorem cells3:prog.cellsOf 3=1:=by kernel_rfl
theorem cells4:prog.cellsOf 4=1:=by kernel_rfl
theorem cells9:prog.cellsOf 9=1:=by kernel_rfl
theorem cells22:prog.cellsOf 22=1:=by kernel_rfl
theorem cells23:prog.cellsOf 23=1:=by kernel_rfl
theorem cells24:prog.cellsOf 24=1:=by kernel_rfl
theorem cells25:prog.cellsOf 25=1:=by kernel_rfl
theorem cells27:prog.cellsOf 27=5:=by kernel_rfl
theorem cells58:prog.cellsOf 58=1:=by kernel_rfl
theorem cells45:prog.cellsOf 45=2:=by kernel_rfl
theorem cells169:prog.cellsOf 169=4:=by kernel_rfl
theorem cells251:prog.cellsOf 251=3:=by kernel_rfl
theorem cells105:prog.cellsOf 105=3:=by kernel_rfl
theorem Ls.map{α β:Type}{enc:α→List Value}{enc':β→List Value}{k:Nat}{ro:RO}{xs:List α}(f:α→β)(h:Ls enc k ro v xs)(he:∀x,enc x=enc' (f x)):Ls enc' k ro v (xs.map f):=by
 obtain⟨b,c,rfl,h⟩:=h
 have e:xs.flatMap enc=(xs.map f).flatMap enc':=by
  rw [List.flatMap_map];congr 1;funext x;exact he x
 refine⟨b,c,by rw [List.length_map], ?_⟩
 rcases h with h|⟨p,off,l,t,fq,h1,h2,h3⟩
 ·exact .inl (by rw [h];rfl)
 ·exact .inr ⟨p,off,l,t,fq,h1,h2,by rw [←e,List.length_map];exact h3⟩
section
variable {H:Type}{enc0:TypeId×Value→H}{W:World}{base:Nat}{sp:Nat→Bool}{held:Bool}
theorem field_of{P:Program}{fs:Array Field}{fuel:Nat}{x:DataW H×List MemPlace}(ht:P.underlying t=some (.struct fs))(h:DataW.trod enc0 P W base sp held fuel t cs=some x):
  cs.length=P.cellsOf t∧∀ (i:Nat) (f:Field),fs[i]? =some f→∃n z,DataW.trod enc0 P W base sp held n f.type ((cs.drop f.offset).take (P.cellsOf f.type))=some z:=by
 obtain⟨xs,n,_,_,h1,h2,h3⟩:=DataW.trod_struct ht h
 refine⟨h1,fun i f hf=>?_⟩
 have hi:i<xs.length:=by rw [h2];exact(Array.getElem?_eq_some_iff.1 hf).1
 exact⟨n,xs[i],by rw [h3 i f hf,List.getElem?_eq_getElem hi]⟩
theorem cap_of_trod{e:TypeId}{z:DataW H×List MemPlace}(ht:prog.underlying t=some (.slice e))(h:DataW.trod enc0 prog W base sp held n t cs=some z):∃v,cs= [v]∧capOk v:=by
 rcases DataW.trod_slice ht h with⟨rfl,_⟩|⟨a,len,cap,elems,rest,n,_,rfl,_,hb,hl,_⟩
 ·exact⟨_,rfl,_,_,_,rfl,Nat.le_refl _⟩
 ·exact⟨_,rfl,_,_,_,rfl,hl⟩
theorem str_of{z:DataW H×List MemPlace}(h:DataW.trod enc0 prog W base sp held n 9 cs=some z):∃s:List UInt8,cs= [strV s]:=by
 obtain⟨s,rfl,_⟩:=DataW.trod_string underlying9 h
 exact⟨s.data.toList,rfl⟩
theorem rc_of{z:DataW H×List MemPlace}(h:DataW.trod enc0 prog W base sp held n 45 cs=some z):∃s:Rc,cs=s.cells:=by
 obtain⟨hl,hf⟩:=field_of underlying45 h
 rw [cells45] at hl
 match cs,hl with
 | [a,c],_=>
  have g0:∃n z,DataW.trod enc0 prog W base sp held n 3 (([a,c].drop 0).take (prog.cellsOf 3))=some z:=hf 0 _ rfl
  rw [cells3] at g0
  obtain⟨_,_,h0⟩:=g0
  have g1:∃n z,DataW.trod enc0 prog W base sp held n 3 (([a,c].drop 1).take (prog.cellsOf 3))=some z:=hf 1 _ rfl
  rw [cells3] at g1
  obtain⟨_,_,h1⟩:=g1
  obtain⟨x0,e0,_⟩:=int_of_trod N3 h0
  obtain⟨x1,e1,_⟩:=int_of_trod N3 h1
  simp [Rc.cells] at e0 e1
  subst e0
  subst e1
  exact⟨⟨x0,x1⟩,rfl⟩
theorem pt_of{z:DataW H×List MemPlace}(h:DataW.trod enc0 prog W base sp held n 169 cs=some z):∃s:Pt,cs=s.cells:=by
 obtain⟨hl,hf⟩:=field_of underlying169 h
 rw [cells169] at hl
 match cs,hl with
 | [a,c,d,e],_=>
  have g0:∃n z,DataW.trod enc0 prog W base sp held n 9 (([a,c,d,e].drop 0).take (prog.cellsOf 9))=some z:=hf 0 _ rfl
  rw [cells9] at g0
  obtain⟨_,_,h0⟩:=g0
  have g1:∃n z,DataW.trod enc0 prog W base sp held n 3 (([a,c,d,e].drop 1).take (prog.cellsOf 3))=some z:=hf 1 _ rfl
  rw [cells3] at g1
  obtain⟨_,_,h1⟩:=g1
  have g2:∃n z,DataW.trod enc0 prog W base sp held n 45 (([a,c,d,e].drop 2).take (prog.cellsOf 45))=some z:=hf 2 _ rfl
  rw [cells45] at g2
  obtain⟨_,_,h2⟩:=g2
  obtain⟨x0,e0⟩:=str_of h0
  obtain⟨x1,e1,_⟩:=int_of_trod N3 h1
  obtain⟨x2,e2⟩:=rc_of h2
  simp [Rc.cells] at e0 e1 e2
  subst e0
  subst e1
  obtain⟨rfl,rfl⟩:=e2
  exact⟨⟨x0,x1,x2⟩,rfl⟩
theorem pc_of{z:DataW H×List MemPlace}(h:DataW.trod enc0 prog W base sp held n 251 cs=some z):∃s:Pc,cs=s.cells:=by
 obtain⟨hl,hf⟩:=field_of underlying251 h
 rw [cells251] at hl
 match cs,hl with
 | [a,c,d],_=>
  have g0:∃n z,DataW.trod enc0 prog W base sp held n 9 (([a,c,d].drop 0).take (prog.cellsOf 9))=some z:=hf 0 _ rfl
  rw [cells9] at g0
  obtain⟨_,_,h0⟩:=g0
  have g1:∃n z,DataW.trod enc0 prog W base sp held n 45 (([a,c,d].drop 1).take (prog.cellsOf 45))=some z:=hf 1 _ rfl
  rw [cells45] at g1
  obtain⟨_,_,h1⟩:=g1
  obtain⟨x0,e0⟩:=str_of h0
  obtain⟨x1,e1⟩:=rc_of h1
  simp [Rc.cells] at e0 e1
  subst e0
  obtain⟨rfl,rfl⟩:=e1
  exact⟨⟨x0,x1⟩,rfl⟩
theorem ts_of{z:DataW H×List MemPlace}(h:DataW.trod enc0 prog W base sp held n 105 cs=some z):∃s:Ts,cs=s.cells:=by
 obtain⟨hl,hf⟩:=field_of underlying105 h
 rw [cells105] at hl
 match cs,hl with
 | [a,c,d],_=>
  have g0:∃n z,DataW.trod enc0 prog W base sp held n 3 (([a,c,d].drop 0).take (prog.cellsOf 3))=some z:=hf 0 _ rfl
  rw [cells3] at g0
  obtain⟨_,_,h0⟩:=g0
  have g1:∃n z,DataW.trod enc0 prog W base sp held n 3 (([a,c,d].drop 1).take (prog.cellsOf 3))=some z:=hf 1 _ rfl
  rw [cells3] at g1
  obtain⟨_,_,h1⟩:=g1
  have g2:∃n z,DataW.trod enc0 prog W base sp held n 4 (([a,c,d].drop 2).take (prog.cellsOf 4))=some z:=hf 2 _ rfl
  rw [cells4] at g2
  obtain⟨_,_,h2⟩:=g2
  obtain⟨x0,e0,_⟩:=int_of_trod N3 h0
  obtain⟨x1,e1,_⟩:=int_of_trod N3 h1
  obtain⟨x2,e2⟩:=bool_of_trod underlying4 h2
  simp [Rc.cells] at e0 e1 e2
  subst e0
  subst e1
  subst e2
  exact⟨⟨x0,x1,x2⟩,rfl⟩
theorem ic_of{z:DataW H×List MemPlace}(h:DataW.trod enc0 prog W base sp held n 3 cs=some z):∃s:Int,cs=ic s:=by
 obtain⟨x,rfl,_⟩:=int_of_trod N3 h
 exact⟨x,rfl⟩
theorem pts_of{z:DataW H×List MemPlace}(h:DataW.trod enc0 prog W base sp held n 22 cs=some z):∃v xs,cs= [v]∧Ls Pt.cells 4 (fun b=>W.heap[b]?) v xs∧capOk v:=by
 obtain⟨v,xs,rfl,hl⟩:=ls_of_trod underlying22 cells169 Dd Pt.len (fun _ _ _ h=>pt_of h) h
 obtain⟨v',e,hc⟩:=cap_of_trod underlying22 h
 cases e
 exact⟨_,_,rfl,hl,hc⟩
theorem pcs_of{z:DataW H×List MemPlace}(h:DataW.trod enc0 prog W base sp held n 24 cs=some z):∃v xs,cs= [v]∧Ls Pc.cells 3 (fun b=>W.heap[b]?) v xs∧capOk v:=by
 obtain⟨v,xs,rfl,hl⟩:=ls_of_trod underlying24 cells251 Dd Pc.len (fun _ _ _ h=>pc_of h) h
 obtain⟨v',e,hc⟩:=cap_of_trod underlying24 h
 cases e
 exact⟨_,_,rfl,hl,hc⟩
theorem tss_of{z:DataW H×List MemPlace}(h:DataW.trod enc0 prog W base sp held n 25 cs=some z):∃v xs,cs= [v]∧Ls Ts.cells 3 (fun b=>W.heap[b]?) v xs∧capOk v:=by
 obtain⟨v,xs,rfl,hl⟩:=ls_of_trod underlying25 cells105 Dd Ts.len (fun _ _ _ h=>ts_of h) h
 obtain⟨v',e,hc⟩:=cap_of_trod underlying25 h
 cases e
 exact⟨_,_,rfl,hl,hc⟩
theorem ints_of{z:DataW H×List MemPlace}(h:DataW.trod enc0 prog W base sp held n 58 cs=some z):∃v xs,cs= [v]∧Ls ic 1 (fun b=>W.heap[b]?) v xs∧capOk v:=by
 obtain⟨v,xs,rfl,hl⟩:=ls_of_trod N58 cells3 Dd ic_len (fun _ _ _ h=>ic_of h) h
 obtain⟨v',e,hc⟩:=cap_of_trod N58 h
 cases e
 exact⟨_,_,rfl,hl,hc⟩
theorem lists_of{z:DataW H×List MemPlace}(h:DataW.trod enc0 prog W base sp held n 23 cs=some z):∃v xs,cs= [v]∧LsG (fun b=>W.heap[b]?) v xs∧capOk v:=by
 obtain⟨v,xs,rfl,hl⟩:=ls_of_trod (α:={z:Value×List Int//LsI (fun b=>W.heap[b]?) z.1 z.2∧capOk z.1}) (enc:=fun z=> [z.1.1]) (k:=1) underlying23 cells58 Dd (fun _=>rfl) (fun _ _ _ h=>by
  obtain⟨v,xs,rfl,hl,hc⟩:=ints_of h
  exact⟨⟨(v,xs),hl,hc⟩,rfl⟩) h
 obtain⟨v',e,hc⟩:=cap_of_trod underlying23 h
 cases e
 refine⟨_,_,rfl,⟨xs.map (·.1),Ls.map (enc':=fun z:Value×List Int=> [z.1]) (·.1) hl (fun _=>rfl),rfl,fun z hz=>?_⟩,hc⟩
 obtain⟨y,_,rfl⟩:=List.mem_map.1 hz
 exact y.2
theorem argRc{d:DataW H}(hv:Value.okWide prog W r b0 45 v)(h:DataW.Trod enc0 prog W base sp held 45 v d p):∃s:Rc,v=s.val:=by
 obtain⟨cs,rfl,_⟩:=okWide_struct underlying45 hv
 obtain⟨n,h⟩:=h
 obtain⟨s,e⟩:=rc_of h
 exact⟨s,by rw [Rc.val, ←e];rfl⟩
theorem argBk{d:DataW H}(hv:Value.okWide prog W r b0 27 v)(h:DataW.Trod enc0 prog W base sp held 27 v d p):∃b,BkV (fun b=>W.heap[b]?) v b:=by
 obtain⟨⟨cs⟩,rfl,_⟩:=okWide_struct underlying27 hv
 obtain⟨n,h⟩:=h
 obtain⟨hl,hf⟩:=field_of (cs:=cs) underlying27 h
 rw [cells27] at hl
 match cs,hl with
 | [a,c,d,e,f],_=>
  have g0:∃n z,DataW.trod enc0 prog W base sp held n 3 (([a,c,d,e,f].drop 0).take (prog.cellsOf 3))=some z:=hf 0 _ rfl
  rw [cells3] at g0
  obtain⟨_,_,h0⟩:=g0
  have g1:∃n z,DataW.trod enc0 prog W base sp held n 22 (([a,c,d,e,f].drop 1).take (prog.cellsOf 22))=some z:=hf 1 _ rfl
  rw [cells22] at g1
  obtain⟨_,_,h1⟩:=g1
  have g2:∃n z,DataW.trod enc0 prog W base sp held n 23 (([a,c,d,e,f].drop 2).take (prog.cellsOf 23))=some z:=hf 2 _ rfl
  rw [cells23] at g2
  obtain⟨_,_,h2⟩:=g2
  have g3:∃n z,DataW.trod enc0 prog W base sp held n 24 (([a,c,d,e,f].drop 3).take (prog.cellsOf 24))=some z:=hf 3 _ rfl
  rw [cells24] at g3
  obtain⟨_,_,h3⟩:=g3
  have g4:∃n z,DataW.trod enc0 prog W base sp held n 25 (([a,c,d,e,f].drop 4).take (prog.cellsOf 25))=some z:=hf 4 _ rfl
  rw [cells25] at g4
  obtain⟨_,_,h4⟩:=g4
  obtain⟨x0,e0,_⟩:=int_of_trod N3 h0
  obtain⟨v1,x1,e1,l1,m1⟩:=pts_of h1
  obtain⟨v2,x2,e2,l2,m2⟩:=lists_of h2
  obtain⟨v3,x3,e3,l3,m3⟩:=pcs_of h3
  obtain⟨v4,x4,e4,l4,m4⟩:=tss_of h4
  simp [Rc.cells] at e0 e1 e2 e3 e4
  subst e0
  subst e1
  subst e2
  subst e3
  subst e4
  exact⟨⟨x0,x1,x2,x3,x4⟩,_,_,_,_,rfl,l1,l2,l3,l4⟩
theorem argU8{d:DataW H}(hv:Value.okWide prog W r b0 5 v)(h:DataW.Trod enc0 prog W base sp held 5 v d p):∃n,v= .int .u8 n∧0≤n∧n≤255:=by
 obtain⟨x,rfl,_,_,wx⟩:=open_int underlying5 hv h
 exact⟨x,rfl,by simpa [Lit.wf,IntKind.min,IntKind.max,IntKind.signed,IntKind.bits] using wx⟩
theorem argInts{d:DataW H}(hv:Value.okWide prog W r b0 58 v)(h:DataW.Trod enc0 prog W base sp held 58 v d p):∃xs,LsI (fun b=>W.heap[b]?) v xs:=by
 obtain⟨a,len,cap,rfl⟩:=okWide_slice N58 hv
 obtain⟨n,h⟩:=h
 obtain⟨v',xs,e,hl,_⟩:=ints_of (cs:= [Value.slice a len cap]) h
 cases e
 exact⟨xs,hl⟩
end
end Go.Lg.B
namespace Go.Lg.B
open Go Go.Conc Go.Lg Go.Proofs Go.Proofs.YtfohpddpboaejaaGreatDoor Go.Proofs.Tryz
set_option maxRecDepth 100000
theorem own0:ownKnob prog.godebug=none:=by kernel_rfl
theorem laid0:laidOutB prog=true:=by kernel_rfl
theorem g_tackle:prog.globalNamed "lagan/tackle.checks" =some 4:=by kernel_rfl
theorem t_tackle:(prog.globals[4]?).map (·.type)=some 337:=by kernel_rfl
theorem c_tackle1:prog.cellsOf 336=1:=by kernel_rfl
theorem c_tackle:prog.cellsOf 337=5:=by kernel_rfl
theorem env_tackle{W:World}{lst:List (String×DataW Unit)}(h:laidMetH prog lst W)(hm:("lagan/tackle.checks",Rows.laid_lagan_tackle_checks)∈lst):Env (fun b=>W.heap[b]?):=by
 obtain⟨g,t,cs,fuel,p,hg,ht,hv,hd⟩:=h.funcs hm
 obtain rfl:=Option.some.inj (g_tackle.symm.trans hg)
 obtain rfl:=Option.some.inj (t_tackle.symm.trans ht)
 have hd':DataW.trod (funcToken prog) prog W 0 (fun _=>true) true fuel 337 cs.toList=some (.agg [.held [40,108,97,103,97,110,47,116,97,99,107,108,101,46,98,111,111,107,41,46,119,105,110,99,104], .held [40,108,97,103,97,110,47,116,97,99,107,108,101,46,98,111,111,107,41,46,112,97,114,116,115], .held [40,108,97,103,97,110,47,116,97,99,107,108,101,46,98,111,111,107,41,46,103,101,97,114,115], .held [40,108,97,103,97,110,47,116,97,99,107,108,101,46,98,111,111,107,41,46,112,105,101,99,101,115], .held [40,108,97,103,97,110,47,116,97,99,107,108,101,46,98,111,111,107,41,46,116,101,115,116,115]],p):=hd
 obtain⟨xs,m,_,hx,hl,hn,hel⟩:=DataW.trod_array underlying337 hd'
 rw [c_tackle] at hl
 obtain⟨v0,v1,v2,v3,v4,hcs⟩:∃v0 v1 v2 v3 v4,cs.toList= [v0,v1,v2,v3,v4]:=by
  match h:cs.toList,hl with
  | [a,b,c,d,e],_=>exact⟨a,b,c,d,e,rfl⟩
 obtain⟨x0,x1,x2,x3,x4,rfl⟩:∃x0 x1 x2 x3 x4,xs= [x0,x1,x2,x3,x4]:=by
  match xs,hn with
  | [a,b,c,d,e],_=>exact⟨a,b,c,d,e,rfl⟩
 simp only [Prod.mk.injEq,DataW.agg.injEq,List.map_cons,List.map_nil,List.cons.injEq,and_true] at hx
 obtain⟨⟨h0,h1,h2,h3,h4⟩,_⟩:=hx
 have e0:=hel 0 O
 have e1:=hel 1 O
 have e2:=hel 2 O
 have e3:=hel 3 O
 have e4:=hel 4 O
 obtain⟨d0,q0⟩:=x0
 obtain⟨d1,q1⟩:=x1
 obtain⟨d2,q2⟩:=x2
 obtain⟨d3,q3⟩:=x3
 obtain⟨d4,q4⟩:=x4
 simp only at h0 h1 h2 h3 h4
 subst h0
 subst h1
 subst h2
 subst h3
 subst h4
 rw [c_tackle1,hcs] at e0 e1 e2 e3 e4
 have f0:=func_of_trod (f0:=384) N336 Kr (show DataW.trod (funcToken prog) prog W 0 (fun _=>true) true m 336 [v0]=some (_,q0) from e0)
 have f1:=func_of_trod (f0:=385) N336 Kr (show DataW.trod (funcToken prog) prog W 0 (fun _=>true) true m 336 [v1]=some (_,q1) from e1)
 have f2:=func_of_trod (f0:=345) N336 Kr (show DataW.trod (funcToken prog) prog W 0 (fun _=>true) true m 336 [v2]=some (_,q2) from e2)
 have f3:=func_of_trod (f0:=386) N336 Kr (show DataW.trod (funcToken prog) prog W 0 (fun _=>true) true m 336 [v3]=some (_,q3) from e3)
 have f4:=func_of_trod (f0:=387) N336 Kr (show DataW.trod (funcToken prog) prog W 0 (fun _=>true) true m 336 [v4]=some (_,q4) from e4)
 subst f0
 subst f1
 subst f2
 subst f3
 subst f4
 unfold World.var? at hv
 rw [g_tackle] at hv
 simp only [Option.bind_some] at hv
 split at hv
 ·rename_i c t fq hc
  cases hv
  refine⟨t,fq, ?_⟩
  show W.heap[4]? =_
  rw [hc, ←hcs]
 ·cases hv
theorem door_shaped(os:Os)(args:Array Value):((World.doorLaid prog 89 os).forCall (fun _ _=>0) ⟨#[],args, []⟩).Shaped Tryz.checked.prog:=World.shaped_of_RefB Kr Kr
theorem card_goes(Lk:Looks){p:Pinned}{s:OpenSpec}{c:OpenClaim}(kinds:List LaidKind)(tests:Bool)(har:Bool×String)(lk:Bool)
  (hc:c.holds p s) (hw:c.wfByText s=true) (htie:c.laidByTextAt Lk p kinds tests)
  (hst:c.start= .entering) (hnb:c.noBlocks=false∧c.again=false) (hm:p.checked.prog.mainIs=some (har.1,har.2.toList)) (hn:(!har.1 && har.2.isEmpty && !lk)=false)
  (hl:∀f fn,p.checked.prog.funcNamed c.func=some f→p.checked.prog.funcs[f]? =some fn→lk=p.checked.prog.looks []∧∀ (j:Nat) t,fn.params[j]? =some t→p.checked.prog.wantsStandIn t=false)
  (hg:true=c.goesBy p.checked.prog):
  Claim7.holds p (.plain s) {stood:={row:=c,standIns:= [],harness:=har,looks:=lk},kinds:= [],alts:= [],goes:=true,laidByText:=true,laidKinds:=kinds,laidTests:=tests,laidLooks:=Lk}:=by
 have h6:∀r:OpenClaim,Claim7.isSixth {stood:={row:=r,standIns:= [],harness:=har,looks:=lk},kinds:= [] }=false:=fun r=>by simpa [Claim7.isSixth] using hn
 exact⟨Claim7.tied_new_at Lk kinds tests (Claim7.new_of_sixth hc har lk hst hnb hm (h6 c) hl) hw,fun D hD=>(nomatch hD),htie,(fun h=>by cases h),hg⟩
end Go.Lg.B
namespace Go.Lg.B
open Go Go.Proofs Go.Proofs.YtfohpddpboaejaaGreatDoor Go.Proofs.Tryz
set_option maxRecDepth 100000
theorem and_mk{a b:Bool}(h:a=true)(h':b=true):(a && b)=true:=by rw [h,h'];rfl
theorem k_lo:laidOutB prog=true:=by kernel_rfl
theorem k_mr:mapsRowed prog=true:=by kernel_rfl
theorem k_stops:(prog.stops== [])=true:=by kernel_rfl
theorem k_knobs:(prog.stopKnobs== [])=true:=by kernel_rfl
theorem k_heard:prog.stopsHeard=true:=by kernel_rfl
theorem k_may:prog.mayEnter=true:=by kernel_rfl
theorem k_lift:prog.liftsFinal=Rows.tackleSwungRow.lifted:=by kernel_rfl
theorem k_pk:prog.plainKeys=false:=by kernel_rfl
theorem k_make:prog.make=some Rows.tackleSwungRow.make:=by kernel_rfl
theorem k_looks:false=prog.looks []:=by kernel_rfl
theorem k_main:prog.mainIs=some (true,("7268d481d5cd4890fc3e51dc004ed55463d6f3c1cbd9cf0add1e476a9c0c0c57" :String).toList):=by kernel_rfl
end Go.Lg.B
set_option maxRecDepth 100000
namespace Go.Lg.B
open Go Go.Conc Go.Lg Go.Proofs Go.Proofs.Tryz
variable {g m n x:Int}{b:Bk}{p:List Int}
theorem behind_mono{s:Int}(h:n≤m)(hs:0≤s∧s≤4):behind n s≤behind m s:=by
 have:s=0∨s=1∨s=2∨s=3∨s=4:=O
 unfold behind
 rcases this with rfl|rfl|rfl|rfl|rfl<;>omega
inductive LeL:List Int→List Int→Prop
 |nil:LeL [] []
 |cons {x y:Int} {a c:List Int}:x≤y→LeL a c→LeL (x::a) (y::c)
theorem LeL.getD{a c:List Int}(h:LeL a c):∀i,a.getD i 0≤c.getD i 0:=by
 induction h with
 |nil=>intro i;simp
 |cons h _ ih=>
  intro i
  cases i with
  |zero=>simpa using h
  |succ i=>simpa using ih i
theorem pullsGo_mono{b:Bk}(hb:b.good):∀ {g:List Int} {n m:Int},(∀x∈g,0≤x∧x<b.ps.length)→n≤m→LeL (pullsGo b n g) (pullsGo b m g)
 | [],_,_,_,_=> .nil
 |x::g,n,m,h,hn=>by
  have hx:=h x Zi
  have:=behind_mono hn (hb.sheaves hx.1 hx.2)
  exact .cons this (pullsGo_mono hb (fun z hz=>h z (by simp [hz])) this)
theorem pulls_mono(hb:b.good)(h0:0≤g)(h1:g<b.gs.length)(hn:n≤m):LeL (pulls b g n) (pulls b g m):= .cons hn (pullsGo_mono hb (hb.gear h0 h1).2.1 hn)
theorem gives_mem:x∈gives b p g n↔(∃i:Nat,i<(b.gear g).length∧nth p ((b.gear g).getD i 0)<(pulls b g n).getD i 0∧x=i)∨(b.w<(pulls b g n).getD (b.gear g).length 0∧x=(b.gear g).length):=by
 unfold gives
 rw [List.mem_append,List.mem_map]
 constructor
 ·rintro(⟨i,hi,rfl⟩|h)
  ·obtain⟨h1,h2⟩:=List.mem_filter.1 hi
   exact .inl ⟨i,List.mem_range.1 h1,by simpa [givesP] using h2,rfl⟩
  ·split at h
   ·rename_i h2;exact .inr ⟨h2,by simpa using h⟩
   ·cases h
 ·rintro(⟨i,h1,h2,rfl⟩|⟨h1,rfl⟩)
  ·exact .inl ⟨i,List.mem_filter.2 ⟨List.mem_range.2 h1,by simpa [givesP] using h2⟩,rfl⟩
  ·exact .inr (by rw [if_pos h1];simp)
theorem gives_sub(hb:b.good)(h0:0≤g)(h1:g<b.gs.length)(hn:n≤m)(h:x∈gives b p g n):x∈gives b p g m:=by
 have hm:=(pulls_mono hb h0 h1 hn).getD
 rw [gives_mem] at h⊢
 rcases h with⟨i,h2,h3,h4⟩|⟨h3,h4⟩
 ·exact .inl ⟨i,h2,by have:=hm i;omega,h4⟩
 ·exact .inr ⟨by have:=hm (b.gear g).length;omega,h4⟩
theorem gives_bd(h:x∈gives b p g n):0≤x∧x≤(b.gear g).length:=by
 rw [gives_mem] at h
 rcases h with⟨i,h2,_,rfl⟩|⟨_,rfl⟩<;>omega
theorem lifts_iff(hn:n≠0):lifts b p g n=true↔gives b p g n= []:=by
 simp [lifts,hn]
theorem lifts_mono(hb:b.good)(h0:0≤g)(h1:g<b.gs.length)(h00:0≤n)(hn:n≤m)(h:lifts b p g m=true):lifts b p g n=true:=by
 by_cases e:n=0
 ·subst e;rfl
 ·rw [lifts_iff O] at h
  rw [lifts_iff e,List.eq_nil_iff_forall_not_mem]
  intro x hx
  have:=gives_sub hb h0 h1 hn hx
  rw [h] at this;cases this
theorem numbers_mem{l:List Int}:x∈numbers l↔x∈l:=by
 have hs:(l.mergeSort fun x y=>decide (x≤y)).Pairwise (· ≤ ·):=by
  have:=List.pairwise_mergeSort (le:=fun x y:Int=>decide (x≤y)) (by intro a b c;simp;omega) (by intro a b;simp;omega) l
  exact this.imp (by intro a b;simp)
 have hf:=fold_asc _ [] .nil hs Zi
 show x∈List.foldl cstep [] _↔_
 rw [hf.2]
 simp [(List.mergeSort_perm l _).mem_iff]
theorem numbers_asc(l:List Int):(numbers l).Pairwise (· < ·):=by
 have hs:(l.mergeSort fun x y=>decide (x≤y)).Pairwise (· ≤ ·):=by
  have:=List.pairwise_mergeSort (le:=fun x y:Int=>decide (x≤y)) (by intro a b c;simp;omega) (by intro a b;simp;omega) l
  exact this.imp (by intro a b;simp)
 exact(fold_asc _ [] .nil hs Zi).1
def allLift(b:Bk)(g n:Int):Bool:=(cases b).all fun t=>lifts b t.1 g n
theorem allLift_mono(hb:b.good)(h0:0≤g)(h1:g<b.gs.length)(h00:0≤n)(hn:n≤m)(h:allLift b g m=true):allLift b g n=true:=by
 unfold allLift at h⊢
 rw [List.all_eq_true] at h⊢
 exact fun t ht=>lifts_mono hb h0 h1 h00 hn (h t ht)
theorem allLift_zero(b:Bk)(g:Int):allLift b g 0=true:=by
 unfold allLift;rw [List.all_eq_true];exact fun _ _=>rfl
theorem mostGo_law{b:Bk}(hb:b.good){g:Int}(h0:0≤g)(h1:g<b.gs.length):∀ (m:Nat) (n mo:Int),0≤n→(∀k,0≤k→k<n→allLift b g k=true)→mo<n→(0<n→mo=n-1)→
  (mostGo b g n m mo=mo∨(n≤mostGo b g n m mo∧mostGo b g n m mo<n+m))∧∀k,n≤k→k<n+m→(allLift b g k=true↔k≤mostGo b g n m mo)
 |0,n,mo,_,_,_,_=>⟨.inl rfl,fun k h1 h2=>by omega⟩
 |m+1,n,mo,hn,hl,hmo,hmo2=>by
  have e:mostGo b g n (m+1) mo=if allLift b g n=true then mostGo b g (n+1) m n else mo:=rfl
  rw [e]
  by_cases hA:allLift b g n=true
  ·rw [if_pos hA]
   obtain⟨h3,h4⟩:=mostGo_law hb h0 h1 m (n+1) n O (fun k hk hk2=>by
    by_cases e2:k=n
    ·rw [e2];exact hA
    ·exact hl k hk O) O (fun _=>by omega)
   refine⟨.inr ?_,fun k hk hk2=>?_⟩
   ·rcases h3 with h3|h3<;>omega
   ·by_cases e2:k=n
    ·subst e2
     refine⟨fun _=>?_,fun _=>hA⟩
     rcases h3 with h3|h3<;>omega
    ·exact h4 k O O
  ·rw [if_neg hA]
   refine⟨.inl rfl,fun k hk _=>⟨fun h=>?_,fun h=>by omega⟩⟩
   exact absurd (allLift_mono hb h0 h1 hn hk h) hA
theorem most_law(hb:b.good)(h0:0≤g)(h1:g<b.gs.length):0≤most b g∧most b g≤99∧∀k,0≤k→k≤99→(allLift b g k=true↔k≤most b g):=by
 have e:most b g=if allLift b g 0=true then mostGo b g 1 99 0 else 0:=rfl
 rw [e,if_pos (allLift_zero b g)]
 obtain⟨h3,h4⟩:=mostGo_law hb h0 h1 99 1 0 O (fun k hk hk2=>(show 0=k by omega)▸allLift_zero b g) O (fun _=>by omega)
 refine⟨by rcases h3 with h3|h3<;>omega,by rcases h3 with h3|h3<;>omega,fun k hk hk2=>?_⟩
 by_cases e2:k=0
 ·subst e2
  exact⟨fun _=>by rcases h3 with h3|h3<;>omega,fun _=>allLift_zero b g⟩
 ·exact h4 k O O
theorem weak_mem:x∈weak b g n↔ ∃t∈cases b,x∈gives b t.1 g n:=by
 rw [weak,numbers_mem,List.mem_flatMap]
theorem weak_bd:∀x∈weak b g n,0≤x∧x≤(b.gear g).length:=fun x hx=>by
 obtain⟨t,_,h⟩:=weak_mem.1 hx
 exact gives_bd h
theorem weights_in{k:Int}(h0:0≤k)(h1:k<b.cs.length){w:List Int}(hw:w∈weightsL b):(b.piece k).r.lo≤nth w k∧nth w k≤(b.piece k).r.hi:=by
 have hk:k.toNat<b.cs.length:=O
 have hpk:b.piece k=b.cs[k.toNat]:=by simp [Bk.piece,List.getD_eq_getElem?_getD,hk]
 obtain⟨_,h⟩:=mem_spread.1 hw
 obtain⟨x,hx,h3⟩:=h k.toNat (b.cs[k.toNat]).r (by simp [hk])
 rw [hpk]
 simpa [nth,List.getD_eq_getElem?_getD,hx] using h3
theorem how_one{n all:Nat}(h:0<all):how n all=1↔n=all:=by
 unfold how
 split
 ·constructor
  ·intro h2;cases h2
  ·intro h2;omega
 ·split
  ·simp_all
  ·constructor
   ·intro h2;cases h2
   ·intro h2;contradiction
theorem filter_all{α:Type}{p:α→Bool}{l:List α}:(l.filter p).length=l.length↔l.all p=true:=by
 rw [List.length_filter_eq_length_iff,List.all_eq_true]
end Go.Lg.B
set_option maxRecDepth 100000
namespace Go.Lg.B
open Go Go.Conc Go.Lg Go.Proofs Go.Proofs.Tryz
variable {b:Bk}{g:Int}
theorem open_zero(h:checkBook b=0)(hL:cases b≠ []):openH b 0=0:=by rw [openH_zero,if_neg (fun e=>e h),if_neg hL]
theorem mostH_eq(h:there g b.gs.length=0):mostH b g=openH b 0:=by simp [mostH,firstH,h]
theorem weakH_eq{l:Int}(h:there g b.gs.length=0)(h2:loadH l=0):weakH b g l=openH b 0:=by simp [weakH,firstH,h,h2]
theorem loadOf_bd{x:Int}:1≤loadOf x∧loadOf x≤99:=by unfold loadOf;omega
theorem weak_len(hb:b.good){n:Int}(h0:0≤g)(h1:g<b.gs.length):(weak b g n).length≤5:=by
 have hl:=hb.gearLen h0 h1
 exact nodup_len (m:=5) ((numbers_asc _).imp fun h=>by omega) fun x hx=>by have:=weak_bd x hx;omega
end Go.Lg.B
set_option maxRecDepth 100000
namespace Go.Lg
open Go Go.Conc
theorem R.finish{P:Program}{main:Bool}{J:Goroutine→Mem→Prop}{b:Frame}{cs:List Frame}{n:Nat}{ds:List Deferred}{σ:Slots}{ro:RO}{own:List (Nat×Obj)}{k:List Item}{ops:Array Oper}{l:List Nat}{α:Type}{enc:α→List Value}{e:TypeId}{kk:Nat}{v:Value}{xs:List α}{tail:List (Nat×Obj)}(hJ:Closed P main J)(hk:∀x,(enc x).length=kk)(hkp:0<kk)(hb:Buf e kk tail v (xs.flatMap enc) own)
  (h:∀ro':RO,ro.le ro'→Ls enc kk ro' v xs→R J b cs n ops l k ds σ ⟨ro',tail⟩):R J b cs n ops l k ds σ ⟨ro,own⟩:=fun hok=>X.finish hJ hk hkp hb fun ro' hl hls=>h ro' hl hls hok
end Go.Lg
namespace Go.Lg.B
open Go Go.Conc Go.Lg Go.Proofs Go.Proofs.Tryz
section
variable {main:Bool}{J:Goroutine→Mem→Prop}(hJ:Closed prog main J)
include hJ
end
end Go.Lg.B
set_option maxRecDepth 100000
namespace Go.Lg.B
open Go Go.Conc Go.Lg Go.Proofs Go.Proofs.Tryz
variable {a c:List Int}{n:Nat}{is:Nat→Bool}
theorem smaller_iff:smaller a c=true↔a.length<c.length∨a.length=c.length∧cmpL a c<0:=by simp [smaller]
theorem cmpL_trans:∀ {a c e:List Int},cmpL a c<0→cmpL c e<0→cmpL a e<0
 | [], [],_,h,_=>by simp [cmpL] at h
 | [],_::_, [],_,h=>by simp [cmpL] at h
 | [],_::_,_::_,_,_=>by simp [cmpL]
 |_::_, [],_,h,_=>by simp [cmpL] at h
 |_::_,_::_, [],_,h=>by simp [cmpL] at h
 |x::xs,y::ys,z::zs,h1,h2=>by
  simp only [cmpL] at h1 h2⊢
  by_cases e1:cmpI x y=0
  ·rw [if_neg (by simp [e1])] at h1
   have:=cmpI_zero.1 e1
   subst this
   by_cases e2:cmpI x z=0
   ·rw [if_neg (by simp [e2])] at h2⊢
    exact cmpL_trans h1 h2
   ·rw [if_pos e2] at h2⊢;exact h2
  ·rw [if_pos e1] at h1
   have h3:=cmpI_neg.1 h1
   by_cases e2:cmpI y z=0
   ·have:=cmpI_zero.1 e2
    subst this
    rw [if_pos e1];exact h1
   ·rw [if_pos e2] at h2
    have h4:=cmpI_neg.1 h2
    have h5:cmpI x z<0:=cmpI_neg.2 O
    rw [if_pos O];exact h5
theorem smaller_trans{e:List Int}(h1:smaller a c=true)(h2:smaller c e=true):smaller a e=true:=by
 rw [smaller_iff] at*
 rcases h1 with h1|⟨h1,h1'⟩
 ·rcases h2 with h2|⟨h2,_⟩<;>exact .inl O
 ·rcases h2 with h2|⟨h2,h2'⟩
  ·exact .inl O
  ·exact .inr ⟨O,cmpL_trans h1' h2'⟩
theorem smaller_irr(a:List Int):¬smaller a a=true:=by rw [smaller_iff,cmpL_refl];omega
theorem smaller_total(h1:¬smaller a c=true)(h2:¬smaller c a=true):a=c:=by
 rw [smaller_iff] at*
 have h3:=cmpL_flip a c
 refine cmpL_zero ?_
 have e1:a.length=c.length:=O
 have e2:¬cmpL a c<0:=fun h=>h1 (.inr ⟨e1,h⟩)
 have e3:¬cmpL c a<0:=fun h=>h2 (.inr ⟨e1.symm,h⟩)
 omega
theorem offer_least:∀ (l:List (List Int)) (o:List Int),∃y,l.foldl offer (some o)=some y∧(y=o∨y∈l)∧(∀x,x=o∨x∈l→¬smaller x y=true)
 | [],o=>⟨o,rfl, .inl rfl,fun x hx=>by
  rcases hx with rfl|hx
  ·exact smaller_irr _
  ·cases hx⟩
 |x::l,o=>by
  rw [List.foldl_cons,offer]
  by_cases h:smaller x o=true
  ·rw [if_pos h]
   obtain⟨y,h1,h2,h3⟩:=offer_least l x
   refine⟨y,h1, ?_,fun z hz=>?_⟩
   ·rcases h2 with rfl|h2
    ·exact .inr Zi
    ·exact .inr (by simp [h2])
   ·rcases hz with rfl|hz
    ·exact fun hz=>h3 x (.inl rfl) (smaller_trans h hz)
    ·rcases List.mem_cons.1 hz with rfl|hz
     ·exact h3 _ (.inl rfl)
     ·exact h3 z (.inr hz)
  ·rw [if_neg h]
   obtain⟨y,h1,h2,h3⟩:=offer_least l o
   refine⟨y,h1, ?_,fun z hz=>?_⟩
   ·rcases h2 with rfl|h2
    ·exact .inl rfl
    ·exact .inr (by simp [h2])
   ·rcases hz with rfl|hz
    ·exact h3 _ (.inl rfl)
    ·rcases List.mem_cons.1 hz with rfl|hz
     ·intro hz
      have h4:=h3 o (.inl rfl)
      by_cases h5:smaller o z=true
      ·exact h4 (smaller_trans h5 hz)
      ·rw [smaller_total h h5] at hz
       exact h4 hz
     ·exact h3 z (.inr hz)
theorem fewestOf_none(h:∀m,m<2^n→is m=false):fewestOf n is=none:=by
 have:(List.range (2^n)).filter is= []:=by
  rw [List.filter_eq_nil_iff]
  intro m hm
  rw [h m (List.mem_range.1 hm)];simp
 rw [fewestOf,this];rfl
theorem fewestOf_some{m:Nat}(hm:m<2^n)(h:is m=true):∃y,fewestOf n is=some y∧(∃m',m'<2^n∧is m'=true∧y=listOf n m')∧∀m',m'<2^n→is m'=true→¬smaller (listOf n m') y=true:=by
 have hmem:m∈(List.range (2^n)).filter is:=List.mem_filter.2 ⟨List.mem_range.2 hm,h⟩
 have hall:∀m',m'∈(List.range (2^n)).filter is↔m'<2^n∧is m'=true:=fun m'=>by rw [List.mem_filter,List.mem_range]
 unfold fewestOf
 generalize(List.range (2^n)).filter is=L at hmem hall
 cases L with
 |nil=>cases hmem
 |cons k L=>
  obtain⟨y,h1,h2,h3⟩:=offer_least (L.map (listOf n)) (listOf n k)
  refine⟨y,by simpa [offer] using h1, ?_,fun m' hm' his=>?_⟩
  ·rcases h2 with rfl|h2
   ·have:=(hall k).1 Zi
    exact⟨k,this.1,this.2,rfl⟩
   ·obtain⟨m',hm',rfl⟩:=List.mem_map.1 h2
    have:=(hall m').1 (by simp [hm'])
    exact⟨m',this.1,this.2,rfl⟩
  ·have:=(hall m').2 ⟨hm',his⟩
   rcases List.mem_cons.1 this with rfl|this
   ·exact h3 _ (.inl rfl)
   ·exact h3 _ (.inr (List.mem_map_of_mem this))
theorem renew_zero(p:List Int):renew 0 p=p:=by
 have:∀ (l:List Int) (i:Nat),renewGo 0 i l=l:=fun l=>by
  induction l with
  |nil=>exact fun _=>rfl
  |cons x l ih=>exact fun i=>by simp [renewGo,ih]
 exact this p 0
end Go.Lg.B
set_option maxRecDepth 100000
namespace Go.Lg.B
open Go Go.Conc Go.Lg Go.Proofs Go.Proofs.Tryz
variable {b:Bk}
theorem spread_ne{rs:List Rc}(h:∀r∈rs,r.lo≤r.hi):spread rs≠ []:=by
 have:rs.map (fun r=>r.lo)∈spread rs:=mem_spread.2 ⟨by simp,fun i r hr=>⟨r.lo,by simp [hr],Int.le_refl _,h r (List.mem_of_getElem? hr)⟩⟩
 intro e;rw [e] at this;cases this
theorem weightsL_ne(hb:b.good):weightsL b≠ []:=spread_ne fun r hr=>by
 obtain⟨c,hc,rfl⟩:=List.mem_map.1 hr
 have:=hb.cs c hc
 unfold Pc.fine at this;omega
theorem cases_nil(hb:b.good):cases b= []↔bearsL b= []:=by
 constructor
 ·intro h
  rw [List.eq_nil_iff_forall_not_mem] at h⊢
  intro p hp
  cases hw:weightsL b with
  |nil=>exact weightsL_ne hb hw
  |cons w ws=>exact h (p,w) (mem_cases.2 ⟨hp,by rw [hw];simp⟩)
 ·intro h
  unfold cases
  rw [h];rfl
theorem bare_cases(hb:b.good)(ht:b.ts= []):cases b≠ []:=by
 rw [Ne,cases_nil hb]
 have hr:∀p,right b p=true:=fun p=>by unfold right;rw [ht];rfl
 have h1:spread (b.ps.map Pt.r)≠ []:=spread_ne fun r hr=>by
  obtain⟨c,hc,rfl⟩:=List.mem_map.1 hr
  have:=hb.ps c hc
  unfold Pt.fine at this;omega
 unfold bearsL
 rw [List.filter_eq_self.2 (fun p _=>hr p)]
 exact h1
end Go.Lg.B
set_option maxRecDepth 100000
namespace Go.Lg.B
open Go Go.Conc Go.Lg Go.Proofs Go.Proofs.Tryz
variable {b c:Bk}
theorem pullsGo_alike{b c:Bk}(h:∀x,b.sheaves x=c.sheaves x):∀ (q:List Int) (n:Int),pullsGo b n q=pullsGo c n q
 | [],_=>rfl
 |x::q,n=>by rw [pullsGo,pullsGo,h,pullsGo_alike h q]
theorem gives_alike(hw:b.w=c.w)(hg:b.gs=c.gs)(h:∀x,b.sheaves x=c.sheaves x)(p:List Int)(g n:Int):gives b p g n=gives c p g n:=by
 have e:∀g,b.gear g=c.gear g:=fun g=>by unfold Bk.gear;rw [hg]
 unfold gives pulls
 rw [hw,e,pullsGo_alike h]
theorem lifts_alike(hw:b.w=c.w)(hg:b.gs=c.gs)(h:∀x,b.sheaves x=c.sheaves x)(p:List Int)(g n:Int):lifts b p g n=lifts c p g n:=by
 unfold lifts;rw [gives_alike hw hg h]
theorem nth_nat(l:List Int)(i:Nat):nth l i=l.getD i 0:=rfl
theorem renewGo_get(m:Nat):∀ (l:List Int) (s i:Nat),(renewGo m s l)[i]? =l[i]?.map fun x=>if m.testBit (s+i) then 99 else x
 | [],_,_=>by simp [renewGo]
 |x::l,s,0=>by simp [renewGo]
 |x::l,s,i+1=>by
  rw [renewGo,List.getElem?_cons_succ,renewGo_get m l (s+1) i,List.getElem?_cons_succ,show s+1+i=s+(i+1) by omega]
theorem nth_renew(m:Nat)(l:List Int){i:Nat}(h:i<l.length):nth (renew m l) i=if m.testBit i then 99 else nth l i:=by
 rw [nth_nat,nth_nat,List.getD_eq_getElem?_getD,renew,renewGo_get,Nat.zero_add,List.getD_eq_getElem?_getD,List.getElem?_eq_getElem h]
 rfl
def Bk.noTests(b:Bk):Bk:={b with ts:= [] }
structure RenOk(b c:Bk)(l:List Int):Prop where
 w:c.w=b.w
 gs:c.gs=b.gs
 cs:c.cs=b.cs
 ts:c.ts=b.ts
 np:c.ps.length=b.ps.length
 sh:∀x,c.sheaves x=b.sheaves x
 ps:∀i:Nat,c.ps[i]? =b.ps[i]?.map fun p=>if(i:Int)∈l then {p with r:=⟨99,99⟩ } else p
 ch:checkBook b=0→checkBook c=0
theorem mem_bare(ht:b.ts= []){p:List Int}:p∈bearsL b↔p∈spread (b.ps.map Pt.r):=by
 have hr:∀p,right b p=true:=fun p=>by unfold right;rw [ht];rfl
 unfold bearsL
 rw [List.filter_eq_self.2 (fun p _=>hr p)]
theorem may_all(hne:cases b≠ []){g p:Nat}:may b g p=1↔((cases b).all fun t=>lifts b t.1 g (nth t.2 p))=true:=by
 rw [may,how_one (List.length_pos_iff.2 hne),filter_all]
end Go.Lg.B
set_option maxRecDepth 100000
namespace Go.Lg.B
open Go Go.Conc Go.Lg Go.Proofs Go.Proofs.Tryz
variable {b:Bk}
def shOk(ng:Nat)(s:Nat→Nat→Bool):List Int→List Int→Bool
 |_, []=>true
 |gs,g::z=>between g 0 ((ng:Int) -1) && (!decide (g∈gs) && (s g.toNat gs.length && shOk ng s (gs++ [g]) z))
theorem range_first{α:Type}(f:Nat→Option α):∀n:Nat,(∀j,j<n→f j=none)∨∃g,g<n∧(∀j,j<g→f j=none)∧∃x,f g=some x
 |0=> .inl fun j h=>by omega
 |n+1=>by
  rcases range_first f n with h|⟨g,h1,h2⟩
  ·cases e:f n with
   |none=>
    refine .inl fun j hj=>?_
    by_cases e2:j=n
    ·rw [e2];exact e
    ·exact h j O
   |some x=>exact .inr ⟨n,O,h,x,e⟩
  ·exact .inr ⟨g,O,h2⟩
theorem share_law(ng:Nat)(s:Nat→Nat→Bool):∀ (r:Nat) (gs:List Int),
  (shareGo ng s r gs=none∧∀z:List Int,z.length=r→shOk ng s gs z=false)∨
  ∃z,shareGo ng s r gs=some (gs++z)∧z.length=r∧shOk ng s gs z=true∧∀z':List Int,z'.length=r→shOk ng s gs z'=true→¬cmpL z' z<0
 |0,gs=> .inr ⟨[],by simp [shareGo],rfl,rfl,fun z' hz _=>by
   rw [List.length_eq_zero_iff] at hz;subst hz;simp [cmpL]⟩
 |r+1,gs=>by
  have ih:=share_law ng s r
  have inv:∀ (g:Int) (z:List Int),shOk ng s gs (g::z)=true→∃j:Nat,g=j∧j<ng∧(j:Int)∉gs∧s j gs.length=true∧shOk ng s (gs++ [g]) z=true:=fun g z h=>by
   simp only [shOk,Bool.and_eq_true,between_iff,Bool.not_eq_true',decide_eq_false_iff_not] at h
   obtain⟨j,rfl⟩:=Int.eq_ofNat_of_zero_le h.1.1
   exact⟨j,rfl,O,h.2.1,by simpa using h.2.2.1,h.2.2.2⟩
  have e:shareGo ng s (r+1) gs=(List.range ng).findSome? fun g=>if s g gs.length && !decide ((g:Int)∈gs) then shareGo ng s r (gs++ [(g:Int)]) else none:=rfl
  rw [e]
  generalize hf:(fun g:Nat=>if s g gs.length && !decide ((g:Int)∈gs) then shareGo ng s r (gs++ [(g:Int)]) else none)=f
  have hfe:∀g:Nat,s g gs.length=true→(g:Int)∉gs→f g=shareGo ng s r (gs++ [(g:Int)]):=fun g h1 h2=>by rw [←hf];simp [h1,h2]
  rcases range_first f ng with h|⟨g,h1,h2,x,h3⟩
  ·refine .inl ⟨findSome_miss h,fun z hz=>?_⟩
   cases z with
   |nil=>simp at hz
   |cons g z=>
    cases hs:shOk ng s gs (g::z) with
    |false=>rfl
    |true=>
     obtain⟨j,rfl,h4,h5,h6,h7⟩:=inv g z hs
     have h8:=h j h4
     rw [hfe j h6 h5] at h8
     rcases ih (gs++ [(j:Int)]) with⟨_,k2⟩|⟨z',k1,_⟩
     ·have:=k2 z (by simpa using hz)
      rw [h7] at this;cases this
     ·rw [k1] at h8;cases h8
  ·have hg:s g gs.length=true∧(g:Int)∉gs:=by
    rw [←hf] at h3
    simp only at h3
    split at h3
    ·rename_i h4;simpa using h4
    ·cases h3
   rw [findSome_hit h1 h2 h3]
   rw [hfe g hg.1 hg.2] at h3
   rcases ih (gs++ [(g:Int)]) with⟨k1,_⟩|⟨z,k1,k2,k3,k4⟩
   ·rw [k1] at h3;cases h3
   ·rw [k1] at h3
    have hx:=Option.some.inj h3
    refine .inr ⟨(g:Int)::z,by rw [←hx];simp,by simp [k2], ?_,fun z' hz hs=>?_⟩
    ·simp only [shOk,Bool.and_eq_true,between_iff,Bool.not_eq_true',decide_eq_false_iff_not,Int.toNat_natCast]
     exact⟨O,hg.2,hg.1,k3⟩
    ·cases z' with
     |nil=>simp at hz
     |cons g' z'=>
      obtain⟨j,rfl,h4,h5,h6,h7⟩:=inv g' z' hs
      by_cases hlt:j<g
      ·have h8:=h2 j hlt
       rw [hfe j h6 h5] at h8
       rcases ih (gs++ [(j:Int)]) with⟨_,q2⟩|⟨z2,q1,_⟩
       ·have:=q2 z' (by simpa using hz)
        rw [h7] at this;cases this
       ·rw [q1] at h8;cases h8
      ·rw [cmpL]
       by_cases heq:j=g
       ·subst heq
        rw [if_neg (by simp [cmpI])]
        exact k4 z' (by simpa using hz) h7
       ·have:cmpI (j:Int) g=1:=by unfold cmpI;rw [if_neg O,if_pos O]
        rw [this,if_pos Dd];decide
theorem shOk_cong{ng:Nat}{s s':Nat→Nat→Bool}{nc:Nat}(h:∀g p,g<ng→p<nc→s g p=s' g p):∀ (z gs:List Int),gs.length+z.length≤nc→shOk ng s gs z=shOk ng s' gs z
 | [],_,_=>rfl
 |g::z,gs,hn=>by
  rw [List.length_cons] at hn
  simp only [shOk]
  by_cases hb:between g 0 ((ng:Int) -1)=true
  ·have hb':=between_iff.1 hb
   rw [h g.toNat gs.length O O,shOk_cong h z (gs++ [g]) Zo]
  ·simp only [Bool.not_eq_true] at hb
   rw [hb];rfl
def mayS(b:Bk)(g p:Nat):Bool:=may b g p==1
theorem sureM_may(hne:cases b≠ []){g p:Nat}(hg:g<b.gs.length)(hp:p<b.cs.length):sureM b 0 g p=mayS b g p:=by
 have e:sure b 0 g p=decide (may b g p=1):=by
  rw [Bool.eq_iff_iff,decide_eq_true_eq,may_all hne]
  have:(fun t:Tn=>lifts b (renew 0 (pad 4 t.1)) g (nth t.2 p))=fun t=>lifts b t.1 g (nth t.2 p):=by
   funext t;rw [renew_zero,lifts_pad]
  rw [sure,this]
 unfold sureM mayS
 rw [e]
 simp only [hg,hp,decide_true,Bool.true_and]
 rw [Bool.eq_iff_iff];simp
theorem shareR_law(hch:checkBook b=0)(hne:cases b≠ []):
  ((shareR b)=(none,0)∧∀z:List Int,z.length=b.cs.length→shOk b.gs.length (mayS b) [] z=false)∨
  ∃z,shareR b=(some z,0)∧z.length=b.cs.length∧shOk b.gs.length (mayS b) [] z=true∧∀z':List Int,z'.length=b.cs.length→shOk b.gs.length (mayS b) [] z'=true→¬cmpL z' z<0:=by
 have hop:=open_zero hch hne
 have hcg:∀z:List Int,z.length=b.cs.length→shOk b.gs.length (sureM b 0) [] z=shOk b.gs.length (mayS b) [] z:=fun z hz=>shOk_cong (nc:=b.cs.length) (fun g p hg hp=>sureM_may hne hg hp) z [] (by simp [hz])
 have e:shareR b=(shareGo b.gs.length (sureM b 0) b.cs.length [],0):=by rw [shareR,hop];rfl
 rw [e]
 rcases share_law b.gs.length (sureM b 0) b.cs.length [] with⟨h1,h2⟩|⟨z,h1,h2,h3,h4⟩
 ·exact .inl ⟨by rw [h1],fun z hz=>by rw [←hcg z hz];exact h2 z hz⟩
 ·exact .inr ⟨z,by rw [h1];rfl,h2,by rw [←hcg z h2];exact h3,fun z' hz hs=>h4 z' hz (by rw [hcg z' hz];exact hs)⟩
end Go.Lg.B
set_option maxRecDepth 100000
namespace Go.Lg.B
open Go Go.Conc Go.Lg Go.Proofs Go.Proofs.Tryz
variable {b c:Bk}{g:Int}
theorem weightsOf_mem{i x:Int}:x∈weightsOf b i↔ ∃t∈cases b,nth t.2 i=x:=by rw [weightsOf,numbers_mem,List.mem_map]
structure NoLess(b c:Bk):Prop where
 gs:c.gs.length=b.gs.length
 cs:c.cs.length=b.cs.length
 ps:c.ps.length=b.ps.length
 sure:∀m g p:Nat,g<b.gs.length→p<b.cs.length→sure b m g p=true→sure c m g p=true
 most:∀g:Int,0≤g→g<b.gs.length→most b g≤most c g
 weak:∀g n:Int,0≤g→g<b.gs.length→∀x∈weak c g n,x∈weak b g n
theorem NoLess.sureM(h:NoLess b c)(m g p:Nat)(hs:sureM b m g p=true):sureM c m g p=true:=by
 simp only [Go.Lg.B.sureM,Bool.and_eq_true,decide_eq_true_eq] at hs⊢
 rw [h.gs,h.cs]
 exact⟨hs.1,hs.2.1,h.sure _ _ _ hs.1 hs.2.1 hs.2.2⟩
theorem NoLess.lifted(h:NoLess b c){m x:Nat}(hl:Go.Lg.B.lifted b (Go.Lg.B.sureM b m) x=true):Go.Lg.B.lifted c (Go.Lg.B.sureM c m) x=true:=by
 unfold Go.Lg.B.lifted at hl⊢
 rw [h.cs,h.gs]
 rw [List.all_eq_true] at hl⊢
 intro p hp
 have:=hl p hp
 rw [List.any_eq_true] at this⊢
 obtain⟨g,h1,h2⟩:=this
 rw [Bool.and_eq_true] at h2
 exact⟨g,h1,by rw [Bool.and_eq_true];exact⟨h2.1,h.sureM _ _ _ h2.2⟩⟩
theorem fewer{n:Nat}{is is':Nat→Bool}(h:∀m,is m=true→is' m=true){p:List Int}(hp:fewestOf n is=some p):∃q,fewestOf n is'=some q∧q.length≤p.length:=by
 by_cases hq:∃m,m<2^n∧is m=true
 ·obtain⟨m,h1,h2⟩:=hq
  obtain⟨y,h3,⟨m',h4,h5,rfl⟩,_⟩:=fewestOf_some h1 h2
  rw [h3] at hp
  obtain rfl:=Option.some.inj hp
  obtain⟨q,q1,_,q3⟩:=fewestOf_some h4 (h _ h5)
  refine⟨q,q1, ?_⟩
  have:=q3 m' h4 (h _ h5)
  rw [smaller_iff] at this
  omega
 ·rw [fewestOf_none fun m hm=>by
   cases e:is m
   ·rfl
   ·exact absurd ⟨m,hm,e⟩ hq] at hp
  cases hp
theorem shOk_mono{ng:Nat}{s s':Nat→Nat→Bool}{nc:Nat}(h:∀g p,g<ng→p<nc→s g p=true→s' g p=true):∀ (z gs:List Int),gs.length+z.length≤nc→shOk ng s gs z=true→shOk ng s' gs z=true
 | [],_,_,_=>rfl
 |g::z,gs,hn,hz=>by
  rw [List.length_cons] at hn
  simp only [shOk,Bool.and_eq_true] at hz⊢
  have hb':=between_iff.1 hz.1
  exact⟨hz.1,hz.2.1,h _ _ O O hz.2.2.1,shOk_mono h z (gs++ [g]) Zo hz.2.2.2⟩
theorem NoLess.share(h:NoLess b c)(hb:checkBook b=0)(hc:checkBook c=0)(nb:cases b≠ [])(nc:cases c≠ [])(hs:(shareR b).1.isSome=true):(shareR c).1.isSome=true:=by
 rcases shareR_law hb nb with⟨e,_⟩|⟨z,e,h1,h2,_⟩
 ·rw [e] at hs;cases hs
 ·rcases shareR_law hc nc with⟨_,e2⟩|⟨z',e2,_⟩
  ·have h3:shOk c.gs.length (mayS c) [] z=true:=by
    rw [h.gs]
    refine shOk_mono (nc:=b.cs.length) (fun g p hg hp hm=>?_) z [] (by simp [h1]) h2
    rw [←sureM_may nb hg hp] at hm
    rw [←sureM_may nc (by rw [h.gs];exact hg) (by rw [h.cs];exact hp)]
    exact h.sureM _ _ _ hm
   rw [e2 z (by rw [h1,h.cs])] at h3;cases h3
  ·rw [e2];rfl
theorem NoLess.fewest(h:NoLess b c)(hb:checkBook b=0)(hc:checkBook c=0)(nb:cases b≠ [])(nc:cases c≠ [])(hs:(fewestR b).1.isSome=true):(fewestR c).1.isSome=true∧((fewestR c).1.getD []).length≤((fewestR b).1.getD []).length:=by
 have e1:fewestR b=(fewestOf b.gs.length (Go.Lg.B.lifted b (Go.Lg.B.sureM b 0)),0):=by rw [fewestR,open_zero hb nb];rfl
 have e2:fewestR c=(fewestOf c.gs.length (Go.Lg.B.lifted c (Go.Lg.B.sureM c 0)),0):=by rw [fewestR,open_zero hc nc];rfl
 rw [e1] at hs⊢
 rw [e2,h.gs]
 obtain⟨p,hp⟩:=Option.isSome_iff_exists.1 hs
 obtain⟨q,hq,hl⟩:=fewer (is':=Go.Lg.B.lifted c (Go.Lg.B.sureM c 0)) (fun m hm=>h.lifted hm) hp
 simp only at hp⊢
 rw [hp,hq]
 exact⟨rfl,hl⟩
theorem NoLess.renew(h:NoLess b c)(hb:checkBook b=0)(hc:checkBook c=0)(nb:cases b≠ [])(nc:cases c≠ [])(hs:(renewR b).1.isSome=true):(renewR c).1.isSome=true∧((renewR c).1.getD []).length≤((renewR b).1.getD []).length:=by
 have e1:renewR b=(fewestOf b.ps.length (fun mask=>Go.Lg.B.lifted b (Go.Lg.B.sureM b mask) (2^b.gs.length-1)),0):=by rw [renewR,open_zero hb nb];rfl
 have e2:renewR c=(fewestOf c.ps.length (fun mask=>Go.Lg.B.lifted c (Go.Lg.B.sureM c mask) (2^c.gs.length-1)),0):=by rw [renewR,open_zero hc nc];rfl
 rw [e1] at hs⊢
 rw [e2,h.gs,h.ps]
 obtain⟨p,hp⟩:=Option.isSome_iff_exists.1 hs
 obtain⟨q,hq,hl⟩:=fewer (is':=fun mask=>Go.Lg.B.lifted c (Go.Lg.B.sureM c mask) (2^b.gs.length-1)) (fun m hm=>h.lifted hm) hp
 simp only at hp⊢
 rw [hp,hq]
 exact⟨rfl,hl⟩
structure Fewer(b c:Bk):Prop where
 w:c.w=b.w
 gs:c.gs=b.gs
 nc:c.cs.length=b.cs.length
 np:c.ps.length=b.ps.length
 sh:∀x,c.sheaves x=b.sheaves x
 cases:(cases c).Sublist (cases b)
theorem Fewer.lifts(h:Fewer b c)(p:List Int)(g n:Int):lifts c p g n=lifts b p g n:=lifts_alike h.w h.gs h.sh p g n
theorem Fewer.allLift(h:Fewer b c){n:Int}(ha:allLift b g n=true):allLift c g n=true:=by
 unfold Go.Lg.B.allLift at ha⊢
 rw [List.all_eq_true] at ha⊢
 intro t ht
 rw [h.lifts];exact ha t (h.cases.subset ht)
theorem most_le(hb:b.good)(hc:c.good)(h0:0≤g)(h1:g<b.gs.length)(h2:g<c.gs.length)(h:∀n,0≤n→n≤99→allLift b g n=true→allLift c g n=true):most b g≤most c g:=by
 obtain⟨a1,a2,a3⟩:=most_law hb h0 h1
 obtain⟨_,_,c3⟩:=most_law hc h0 h2
 exact(c3 _ a1 a2).1 (h _ a1 a2 ((a3 _ a1 a2).2 (Int.le_refl _)))
end Go.Lg.B
namespace Go.Lg
open Go Go.Conc
variable {P:Program}{d:Nat}{t:TypeId}
inductive FsOk(P:Program)(d:Nat)(a b:List Value):List Field→Bool→Prop
 |nil:FsOk P d a b [] true
 |cons {f:Field} {fs:List Field} {x y:Value} {r rs:Bool}:f.name≠ "_" →(∀ (M:Mem) (K:Value→Mem→Prop),K x M→Sm P M (part f.type a.toArray f.offset) K)→(∀ (M:Mem) (K:Value→Mem→Prop),K y M→Sm P M (part f.type b.toArray f.offset) K)→Eq1 P d f.type x y r→FsOk P d a b fs rs→FsOk P d a b (f::fs) (r && rs)
theorem Eq1.int{x y:Int}(hu:∀w,Sem.run P (Go.underlying t) w= .ok (.int .i64) w):Eq1 P (d+1) t (.int .i64 x) (.int .i64 y) (x==y):=by
 intro M K hk
 unfold Op.equalIn
 refine Sm.bind (Sm.underlying hu ?_)
 simp only [if_true]
 exact Sm.pure hk
theorem Eq1.bool{x y:Bool}(hu:∀w,Sem.run P (Go.underlying t) w= .ok .bool w):Eq1 P (d+1) t (.bool x) (.bool y) (x==y):=by
 intro M K hk
 unfold Op.equalIn
 refine Sm.bind (Sm.underlying hu ?_)
 exact Sm.pure hk
theorem bts_beq(x y:List UInt8):((⟨x.toArray⟩:ByteArray)==⟨y.toArray⟩)=(x==y):=by
 show(x.toArray==y.toArray)=(x==y)
 simp
theorem Eq1.str{x y:List UInt8}(hu:∀w,Sem.run P (Go.underlying t) w= .ok .string w):Eq1 P (d+1) t (strV x) (strV y) (x==y):=by
 intro M K hk
 unfold Op.equalIn
 refine Sm.bind (Sm.underlying hu ?_)
 simp only [bts_beq]
 exact Sm.pure hk
end Go.Lg
set_option maxRecDepth 100000
namespace Go.Lg.B
open Go Go.Conc Go.Lg Go.Proofs Go.Proofs.Tryz
structure Bk.tiny(b:Bk):Prop where
 ps:b.ps.length≤1000
 gs:b.gs.length≤1000∧∀g∈b.gs,g.length≤1000
 cs:b.cs.length≤1000
 ts:b.ts.length≤1000
variable {main:Bool}{J:Goroutine→Mem→Prop}(hJ:Closed prog main J)
include hJ
end Go.Lg.B
set_option maxRecDepth 100000
namespace Go.Lg.B
open Go Go.Conc Go.Lg Go.Proofs Go.Proofs.Tryz
variable {b:Bk}{g n:Int}
theorem mostR_eq(hch:checkBook b=0)(hne:cases b≠ [])(h:0≤g∧g<b.gs.length):mostR b g=(most b g,0):=by
 rw [mostR,mostH_eq (there_zero.2 h),open_zero hch hne];rfl
theorem weakR_eq(hch:checkBook b=0)(hne:cases b≠ [])(h:0≤g∧g<b.gs.length)(hn:1≤n∧n≤99):weakR b g n=(weak b g n,0):=by
 rw [weakR,weakH_eq (there_zero.2 h) (loadH_zero.2 hn),open_zero hch hne];rfl
theorem fewestR_zero(hch:checkBook b=0)(hne:cases b≠ []):(fewestR b).2=0:=by rw [fewestR,open_zero hch hne];rfl
theorem renewR_zero(hch:checkBook b=0)(hne:cases b≠ []):(renewR b).2=0:=by rw [renewR,open_zero hch hne];rfl
theorem shareR_zero(hch:checkBook b=0)(hne:cases b≠ []):(shareR b).2=0:=by rw [shareR,open_zero hch hne];rfl
section
theorem noLessR_c{Q:Machine→Outcome→World→Trace→Prop}{d:Bk}{vb vd:Value}{ro:RO}(he:Env ro)(hvb:BkV ro vb b)(hvd:BkV ro vd d)(hb:checkBook b=0)(hd:checkBook d=0)(nb:cases b≠ [])(nd:cases d≠ [])(hl:NoLess b d)(hg:0≤g∧g<b.gs.length)(hn:1≤n∧n≤99):
  CallR prog (JM prog Q) (fnv 15) [vb,vd, .int .i64 g, .int .i64 n] ro (fun w _=>w= .bool true):=by
 have hJ:Closed prog true (JM prog Q):=JM.closed
 let main:=true
 let J:=JM prog Q
 have gb:=good_of hb
 have gd:=good_of hd
 have sb:=short_of (not_great hb)
 have sd:=short_of (not_great hd)
 have hg2:0≤g∧g<d.gs.length:=by rw [hl.gs];exact hg
 have wl1:=weak_len gb (n:=n) hg.1 hg.2
 have wl2:=weak_len gd (n:=n) hg2.1 hg2.2
 have hml:=hl.most g hg.1 hg.2
 have hin:insideL (weak d g n) (weak b g n)=true:=by
  unfold insideL;rw [List.all_eq_true];intro x hx;rw [List.contains_iff_mem];exact hl.weak g n hg.1 hg.2 x hx
 have m1:=mostR_eq hb nb hg
 have m2:=mostR_eq hd nd hg2
 have w1:=weakR_eq hb nb hg hn
 have w2:=weakR_eq hd nd hg2 hn
 have hvb0:=hvb
 have hvd0:=hvd
 obtain⟨_,_,_,_,rfl,hb1⟩:=hvb
 obtain⟨_,_,rfl⟩:=hb1.1.form
 obtain⟨_,_,rfl⟩:=hb1.2.1.form
 obtain⟨_,_,rfl⟩:=hb1.2.2.1.form
 obtain⟨_,_,rfl⟩:=hb1.2.2.2.form
 obtain⟨_,_,_,_,rfl,hd1⟩:=hvd
 obtain⟨_,_,rfl⟩:=hd1.1.form
 obtain⟨_,_,rfl⟩:=hd1.2.1.form
 obtain⟨_,_,rfl⟩:=hd1.2.2.1.form
 obtain⟨_,_,rfl⟩:=hd1.2.2.2.form
 refine ER 175 hJ F15 W fun c cs tail hret C=>Xu W<|Bx Z fun p4=>Bx Z fun p5=>Ae W<|Xu W<|Rq W G27 B27 V Tk5<|Ro W<|R.callR C U U U U (most_c hJ he hvb0 sb g) fun v1 ro1 hl1 hq1=>?_
 subst hq1
 rw [m1]
 refine Ro W<|Re Z<|Re Z<|Rg Y<|Ae W<|Xu W<|Rq W G27 B27 V Tk5<|Ro W<|R.callR C U U U U (most_c hJ (he.mono hl1) (hvd0.mono hl1) sd g) fun v2 ro2 hl2 hq2=>?_
 subst hq2
 rw [m2]
 have k2:=RO.le_trans hl1 hl2
 refine Ro W<|Re Z<|Re Z<|Rg Y<|Ae W<|Xu W<|Rq W G27 B27 V Tk5<|Oo W W<|R.callR C U U U U (weak_c hJ (he.mono k2) (hvb0.mono k2) sb g n) fun v3 ro3 hl3 hq3=>?_
 obtain⟨y3,z3,rfl⟩:=hq3
 have k3:=RO.le_trans k2 hl3
 refine Ro W<|Re Z<|Re Z<|Rg Y<|Ae W<|Xu W<|Rq W G27 B27 V Tk5<|Oo W W<|R.callR C U U U U (weak_c hJ (he.mono k3) (hvd0.mono k3) sd g n) fun v4 ro4 hl4 hq4=>?_
 obtain⟨y4,z4,rfl⟩:=hq4
 have k4:=RO.le_trans k3 hl4
 rw [w1] at z3⊢
 rw [w2] at z4⊢
 simp only at z3 z4
 obtain⟨_,_,rfl⟩:=z3.form
 obtain⟨_,_,rfl⟩:=z4.form
 refine Ro W<|Re Z<|Re Z<|Rg Y<|Ae W<|Xx W<|Ro W<|Ri Z b_neq<|FF 58 U (by rfl)<|Oo W W<|Ri Z b_neq<|FF 61 U (by rfl)<|Pf Z<|Oo W W<|Ri Z b_neq<|FF 65 U (by rfl)<|Pf Z<|Oo W W<|Ri Z b_neq<|FF 69 U (by rfl)<|Pf Z<|Oo W W<|Ro W<|Ri Z b_lss<|FF 74 U (by(refine congrArg Value.bool ?_;rw [dF];exact Int.not_lt.2 hml)) ?_;refine Pf Z<|Oo W W<|Ro W<|Cp Z (inside2R_c hJ z4 (z3.mono hl4) O O)<|Rh Y<|FF 80 U (by(rw [hin];rfl))<|Pf Z<|Zc U (fun h=>nomatch h) (fun _=>?_)
 refine Xz<|Xu W<|Rq W G27 B27 V Tk5<|R.callR C U U U U ((fewestG_c (he.mono k4) (hvb0.mono k4) sb)) fun v5 ro5 hl5 hq5=>?_
 obtain⟨y5,z5,rfl⟩:=hq5
 obtain⟨_,_,rfl⟩:=z5.form
 have k5:=RO.le_trans k4 hl5
 refine Ro W<|Re Z<|Re Z<|Re Z<|Rg Y<|Rg Y<|Ae W<|Xu W<|Rq W G27 B27 V Tk5<|R.callR C U U U U ((fewestG_c (he.mono k5) (hvd0.mono k5) sd)) fun v6 ro6 hl6 hq6=>?_
 obtain⟨y6,z6,rfl⟩:=hq6
 obtain⟨_,_,rfl⟩:=z6.form
 have k6:=RO.le_trans k5 hl6
 refine Ro W<|Re Z<|Re Z<|Re Z<|Rg Y<|Rg Y<|Ae W<|Xu W<|Rq W G27 B27 V Tk5<|R.callR C U U U U ((share_c (he.mono k6) (hvb0.mono k6) sb)) fun v7 ro7 hl7 hq7=>?_
 obtain⟨y7,z7,rfl⟩:=hq7
 obtain⟨_,_,rfl⟩:=z7.form
 have k7:=RO.le_trans k6 hl7
 refine Ro W<|Re Z<|Re Z<|Re Z<|Rg Y<|Rg Y<|Ae W<|Xu W<|Rq W G27 B27 V Tk5<|R.callR C U U U U ((share_c (he.mono k7) (hvd0.mono k7) sd)) fun v8 ro8 hl8 hq8=>?_
 obtain⟨y8,z8,rfl⟩:=hq8
 obtain⟨_,_,rfl⟩:=z8.form
 have k8:=RO.le_trans k7 hl8
 refine Ro W<|Re Z<|Re Z<|Re Z<|Rg Y<|Rg Y<|Ae W<|Xu W<|Rq W G27 B27 V Tk5<|R.callR C U U U U ((renew_c (he.mono k8) (hvb0.mono k8) sb)) fun v9 ro9 hl9 hq9=>?_
 obtain⟨y9,z9,rfl⟩:=hq9
 obtain⟨_,_,rfl⟩:=z9.form
 have k9:=RO.le_trans k8 hl9
 refine Ro W<|Re Z<|Re Z<|Re Z<|Rg Y<|Rg Y<|Ae W<|Xu W<|Rq W G27 B27 V Tk5<|R.callR C U U U U ((renew_c (he.mono k9) (hvd0.mono k9) sd)) fun v10 ro10 hl10 hq10=>?_
 obtain⟨y10,z10,rfl⟩:=hq10
 obtain⟨_,_,rfl⟩:=z10.form
 have k10:=RO.le_trans k9 hl10
 have f1:=hl.fewest hb hd nb nd
 have f2:=hl.share hb hd nb nd
 have f3:=hl.renew hb hd nb nd
 rw [fewestR_zero hb nb,fewestR_zero hd nd,shareR_zero hb nb,shareR_zero hd nd,renewR_zero hb nb,renewR_zero hd nd]
 generalize(fewestR b).1=fb at f1⊢
 generalize(fewestR d).1=fd at f1⊢
 generalize(shareR b).1=hb' at f2⊢
 generalize(shareR d).1=hd' at f2⊢
 generalize(renewR b).1=rb at f3⊢
 generalize(renewR d).1=rd at f3⊢
 refine Ro W<|Re Z<|Re Z<|Re Z<|Rg Y<|Rg Y<|Ae W<|Xm W W<|Ri Z b_eql<|FT 119 U (by rfl)<|Oo W W<|Ri Z b_eql<|FT 122 U (by rfl)<|Pp Z<|Oo W W<|Ri Z b_eql<|FT 126 U (by rfl)<|Pp Z<|Oo W W<|Ri Z b_eql<|FT 130 U (by rfl)<|Pp Z<|Oo W W<|Ri Z b_eql<|FT 134 U (by rfl)<|Pp Z<|Oo W W<|Ri Z b_eql<|FT 138 U (by rfl)<|Pp Z<|Oo W W<|Rh Y<|Ro W ?_;refine R.fix (t:=143) U (fun g1=>?_) (fun g1=>?_)
 ·refine Rp W<|Rp W<|Rp W<|Rp W<|Rp W<|Rp W<|Rp W<|Rp W<|Pp Z<|Pp Z<|Oo W W<|Rh Y<|Ro W<|R.fix (t:=157) U (fun g2=>?_) (fun g2=>?_)
  ·refine Rp W<|Pp Z<|Pp Z<|Oo W W<|Rh Y<|Ro W<|R.fix (t:=164) U (fun g3=>?_) (fun g3=>?_)
   ·refine Rp W<|Rp W<|Rp W<|Rp W<|Rp W<|Rp W<|Rp W<|Rp W<|Pp Z<|Pp Z<|Ae W<|Xw F15<|Hr hret k10 ?_
    rfl
   ·have q3:=f3 (by simpa using g3)
    refine Ro W<|FT 165 U (by(rw [q3.1]))<|Oo W W<|Rt W A58<|Ro W<|Rt W A58<|Ri Z b_leq<|FT 171 U (by(refine congrArg Value.bool ?_;rw [decide_eq_true_iff];have:=q3.2;omega)) ?_;refine Pp Z<|Pf Z<|Pp Z<|Ae W<|Xw F15<|Hr hret k10 ?_
    rfl
  ·have q2:=f2 (by simpa using g2)
   refine Ro W<|FT 158 U (by(rw [q2]))<|Pf Z<|Pp Z<|Oo W W<|Rh Y<|Ro W<|R.fix (t:=164) U (fun g3=>?_) (fun g3=>?_)
   ·refine Rp W<|Rp W<|Rp W<|Rp W<|Rp W<|Rp W<|Rp W<|Rp W<|Pp Z<|Pp Z<|Ae W<|Xw F15<|Hr hret k10 ?_
    rfl
   ·have q3:=f3 (by simpa using g3)
    refine Ro W<|FT 165 U (by(rw [q3.1]))<|Oo W W<|Rt W A58<|Ro W<|Rt W A58<|Ri Z b_leq<|FT 171 U (by(refine congrArg Value.bool ?_;rw [decide_eq_true_iff];have:=q3.2;omega)) ?_;refine Pp Z<|Pf Z<|Pp Z<|Ae W<|Xw F15<|Hr hret k10 ?_
    rfl
 ·have q1:=f1 (by simpa using g1)
  refine Ro W<|FT 144 U (by(rw [q1.1]))<|Oo W W<|Rt W A58<|Ro W<|Rt W A58<|Ri Z b_leq<|FT 150 U (by(refine congrArg Value.bool ?_;rw [decide_eq_true_iff];have:=q1.2;omega)) ?_;refine Pp Z<|Pf Z<|Pp Z<|Oo W W<|Rh Y<|Ro W<|R.fix (t:=157) U (fun g2=>?_) (fun g2=>?_)
  ·refine Rp W<|Pp Z<|Pp Z<|Oo W W<|Rh Y<|Ro W<|R.fix (t:=164) U (fun g3=>?_) (fun g3=>?_)
   ·refine Rp W<|Rp W<|Rp W<|Rp W<|Rp W<|Rp W<|Rp W<|Rp W<|Pp Z<|Pp Z<|Ae W<|Xw F15<|Hr hret k10 ?_
    rfl
   ·have q3:=f3 (by simpa using g3)
    refine Ro W<|FT 165 U (by(rw [q3.1]))<|Oo W W<|Rt W A58<|Ro W<|Rt W A58<|Ri Z b_leq<|FT 171 U (by(refine congrArg Value.bool ?_;rw [decide_eq_true_iff];have:=q3.2;omega)) ?_;refine Pp Z<|Pf Z<|Pp Z<|Ae W<|Xw F15<|Hr hret k10 ?_
    rfl
  ·have q2:=f2 (by simpa using g2)
   refine Ro W<|FT 158 U (by(rw [q2]))<|Pf Z<|Pp Z<|Oo W W<|Rh Y<|Ro W<|R.fix (t:=164) U (fun g3=>?_) (fun g3=>?_)
   ·refine Rp W<|Rp W<|Rp W<|Rp W<|Rp W<|Rp W<|Rp W<|Rp W<|Pp Z<|Pp Z<|Ae W<|Xw F15<|Hr hret k10 ?_
    rfl
   ·have q3:=f3 (by simpa using g3)
    refine Ro W<|FT 165 U (by(rw [q3.1]))<|Oo W W<|Rt W A58<|Ro W<|Rt W A58<|Ri Z b_leq<|FT 171 U (by(refine congrArg Value.bool ?_;rw [decide_eq_true_iff];have:=q3.2;omega)) ?_;refine Pp Z<|Pf Z<|Pp Z<|Ae W<|Xw F15<|Hr hret k10 ?_
    rfl
end
section
variable {main:Bool}{J:Goroutine→Mem→Prop}(hJ:Closed prog main J)
include hJ
end
end Go.Lg.B
