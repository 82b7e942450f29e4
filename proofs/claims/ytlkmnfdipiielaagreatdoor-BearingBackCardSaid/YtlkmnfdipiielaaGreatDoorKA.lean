/-
  Part 1 of what all proofs of this seat share: laws of the model that the walks use, and what functions of the program reckon. Conditions: the premises that each theorem states.
-/
import Derived.Conc.Own
import Derived.Conc.Events
import Derived.Conc.Own4
import Derived.Conc.Beside
import Derived.Conc.CrowdTrace
import Derived.Conc.CrowdRun
import Derived.Conc.CrowdComm
set_option maxRecDepth 100000
set_option linter.all false
set_option linter.unusedVariables false
set_option linter.unusedSimpArgs false
set_option linter.unusedSectionVars false
namespace Go.Lg
variable {p:Prop}{α:Type _}
theorem O(h:p:=by omega):p:=h
theorem V(h:p:=by repeat constructor):p:=h
theorem Kr(h:p:=by kernel_rfl):p:=h
theorem Dd(h:p:=by decide):p:=h
theorem Zi(h:p:=by simp):p:=h
theorem Zo(h:p:=by simp;omega):p:=h
theorem U{α:Sort _}{a:α}:a=a:=rfl
theorem dT [Decidable p]:(decide p=true)=p:=decide_eq_true_eq
theorem dF [Decidable p]:(decide p=false)= ¬p:=propext decide_eq_false_iff_not
theorem Mh{a:α}{l:List α}:a∈a::l:=List.mem_cons_self
theorem Mt{a b:α}{l:List α}(h:a∈l):a∈b::l:=List.mem_cons_of_mem b h
theorem Sr{l:List α}:l.Sublist l:=List.Sublist.refl l
theorem Sc{a:α}{l m:List α}(h:l.Sublist m):l.Sublist (a::m):=List.Sublist.cons a h
theorem Sk{a:α}{l m:List α}(h:l.Sublist m):(a::l).Sublist (a::m):=List.Sublist.cons_cons a h
theorem Vm(h:p:=by repeat (first|exact Mh|apply Mt|apply List.mem_append_right)):p:=h
theorem Vs(h:p:=by repeat (first|exact Sr|apply Sc)):p:=h
end Go.Lg
namespace Go.Lg
open Go Go.Conc
abbrev RO:=Nat→Option Obj
structure Mem where
 ro:RO
 own:List (Nat×Obj)
variable {e:Event}{w w':World}{b r:Nat}{o o':Obj}{es:Array Event}{M₁ M₂:Mem}{ro:RO}{l l' own own':List (Nat×Obj)}{a:Addr}{c:Array Value}{t:TypeId}{fr:Nat×Nat}{v:Value}{K:Unit→Mem→Prop}
def RO.le(r r':RO):Prop:= ∀b o,r b=some o→r' b=some o
theorem RO.le_refl(r:RO):r.le r:=fun _ _ h=>h
theorem RO.le_trans{a b c:RO}(h:a.le b)(k:b.le c):a.le c:=fun x o e=>k x o (h x o e)
def Mem.ids(M:Mem):List Nat:=M.own.map (·.1)
structure Sat(M:Mem)(w:World):Prop where
 ro:∀b o,M.ro b=some o→w.heap[b]? =some o
 own:∀b o,(b,o)∈M.own→w.heap[b]? =some o
 nodup:M.ids.Nodup
 apart:∀b,b∈M.ids→M.ro b=none
def EvOk(M:Mem)(w:World)(e:Event):Prop:=
 match e.loc with
 | .cell a=>e.sync=false∧(a.block∈M.ids∨w.heap.size≤a.block∨(e.write=false∧(M.ro a.block).isSome=true))
 | .obj r=>e.sync=false∧(r∈M.ids∨w.heap.size≤r∨(e.write=false∧(M.ro r).isSome=true))
 | .mark (.extern _)=>True
 | .mark .noRoom=>True
 |_=>False
def LowEv(n:Nat)(e:Event):Prop:=
 match e.loc with
 | .cell a=>a.block<n
 | .obj r=>r<n
 |_=>True
theorem LowEv.mono{n m:Nat}(h:n≤m)(he:LowEv n e):LowEv m e:=by
 obtain⟨loc,wr,sy⟩:=e
 cases loc<;>first|exact Nat.lt_of_lt_of_le he h|trivial
structure Good(M:Mem)(w w':World)(es:Array Event)(M':Mem):Prop where
 sat:Sat M' w'
 le:M.ro.le M'.ro
 size:w.heap.size≤w'.heap.size
 same:∀b,b<w.heap.size→b∉M.ids→w'.heap[b]? =w.heap[b]?
 own':∀b,b∈M'.ids→b∈M.ids∨w.heap.size≤b
 ro':∀b,(M'.ro b).isSome=true→(M.ro b).isSome=true∨b∈M.ids∨w.heap.size≤b
 tape:w'.tape=w.tape
 os:w'.os=w.os
 out:w'.output=w.output
 evs:∀e∈es,EvOk M w e∧LowEv w'.heap.size e
theorem Sat.lt{M:Mem}(h:Sat M w)(hb:b∈M.ids):b<w.heap.size:=by
 obtain⟨⟨x,o⟩,hp,rfl⟩:=List.mem_map.1 hb
 exact(Array.getElem?_eq_some_iff.1 (h.own _ _ hp)).1
theorem Sat.lt_ro{M:Mem}(h:Sat M w)(hb:M.ro b=some o):b<w.heap.size:=
 (Array.getElem?_eq_some_iff.1 (h.ro _ _ hb)).1
theorem Good.refl{M:Mem}(h:Sat M w):Good M w w #[] M:=
 ⟨h,RO.le_refl _,Nat.le_refl _,fun _ _ _=>rfl,fun _ h=> .inl h,fun _ h=> .inl h,rfl,rfl,rfl,by simp⟩
theorem EvOk.back{M M':Mem}(h:Good M w w' es M')(he:EvOk M' w' e):EvOk M w e:=by
 obtain⟨loc,wr,sy⟩:=e
 have hs:=h.size
 cases loc with
 |cell a=>
  obtain⟨h1,h2⟩:=he
  refine⟨h1, ?_⟩
  rcases h2 with h2|h2|⟨h2,h3⟩
  ·rcases h.own' _ h2 with k|k
   ·exact .inl k
   ·exact .inr (.inl k)
  ·exact .inr (.inl (Nat.le_trans hs h2))
  ·rcases h.ro' _ h3 with k|k|k
   ·exact .inr (.inr ⟨h2,k⟩)
   ·exact .inl k
   ·exact .inr (.inl k)
 |obj a=>
  obtain⟨h1,h2⟩:=he
  refine⟨h1, ?_⟩
  rcases h2 with h2|h2|⟨h2,h3⟩
  ·rcases h.own' _ h2 with k|k
   ·exact .inl k
   ·exact .inr (.inl k)
  ·exact .inr (.inl (Nat.le_trans hs h2))
  ·rcases h.ro' _ h3 with k|k|k
   ·exact .inr (.inr ⟨h2,k⟩)
   ·exact .inl k
   ·exact .inr (.inl k)
 |output=>exact he.elim
 |goroutines=>exact he.elim
 |mark m=>cases m<;>first|exact trivial|exact he.elim
theorem Good.trans{M:Mem}{w₁ w₂:World}{es₁:Array Event}(h:Good M w w₁ es M₁)(k:Good M₁ w₁ w₂ es₁ M₂):Good M w w₂ (es++es₁) M₂ where
 sat:=k.sat
 le:=RO.le_trans h.le k.le
 size:=Nat.le_trans h.size k.size
 same b hb hn:=by
  rw [k.same b (Nat.lt_of_lt_of_le hb h.size) (fun hm=>(h.own' b hm).elim hn (fun e=>absurd hb (Nat.not_lt.2 e))),h.same b hb hn]
 own' b hb:=by
  rcases k.own' b hb with e|e
  ·exact h.own' b e
  ·exact .inr (Nat.le_trans h.size e)
 ro' b hb:=by
  rcases k.ro' b hb with e|e|e
  ·exact h.ro' b e
  ·exact .inr (h.own' b e)
  ·exact .inr (.inr (Nat.le_trans h.size e))
 tape:=k.tape.trans h.tape
 os:=k.os.trans h.os
 out:=k.out.trans h.out
 evs e he:=(Array.mem_append.1 he).elim (fun x=>⟨(h.evs e x).1,(h.evs e x).2.mono k.size⟩) (fun x=>⟨EvOk.back h (k.evs e x).1,(k.evs e x).2⟩)
def Weak(M M':Mem):Prop:= ∀w,Sat M w→Good M w w #[] M'
theorem Weak.refl(M:Mem):Weak M M:=fun _ h=>Good.refl h
theorem Weak.trans{M:Mem}(h:Weak M M₁)(k:Weak M₁ M₂):Weak M M₂:=fun w hs=>by
 have:=(h w hs).trans (k w (h w hs).sat)
 rwa [Array.empty_append] at this
theorem Weak.sub(h:own'.Sublist own):Weak ⟨ro,own⟩ ⟨ro,own'⟩:=fun w hs=>by
 have hi:(Mem.ids ⟨ro,own'⟩).Sublist (Mem.ids ⟨ro,own⟩):=h.map _
 exact⟨⟨hs.ro,fun b o hb=>hs.own b o (h.subset hb),hs.nodup.sublist hi,fun b hb=>hs.apart b (hi.subset hb)⟩,RO.le_refl _,Nat.le_refl _,fun _ _ _=>rfl,fun b hb=> .inl (hi.subset hb),fun _ hb=> .inl hb,rfl,rfl,rfl,by simp⟩
theorem Weak.perm(h:own.Perm own'):Weak ⟨ro,own⟩ ⟨ro,own'⟩:=fun w hs=>by
 have hi:(Mem.ids ⟨ro,own⟩).Perm (Mem.ids ⟨ro,own'⟩):=h.map _
 exact⟨⟨hs.ro,fun b o hb=>hs.own b o (h.mem_iff.2 hb),hi.nodup_iff.1 hs.nodup,fun b hb=>hs.apart b (hi.mem_iff.2 hb)⟩,RO.le_refl _,Nat.le_refl _,fun _ _ _=>rfl,fun b hb=> .inl (hi.mem_iff.2 hb),fun _ hb=> .inl hb,rfl,rfl,rfl,by simp⟩
def RO.set(r:RO)(b:Nat)(o:Obj):RO:=fun x=>if x=b then some o else r x
theorem good_persist(hs:Sat ⟨ro,(b,o)::own⟩ w):Good ⟨ro,(b,o)::own⟩ w w #[] ⟨ro.set b o,own⟩:=by
 have hb:ro b=none:=hs.apart b (by simp [Mem.ids])
 have hn:=hs.nodup
 simp only [Mem.ids,List.map_cons,List.nodup_cons] at hn
 refine⟨⟨fun x y hx=>?_,fun x y hx=>hs.own x y (List.mem_cons_of_mem _ hx),hn.2,fun x hx=>?_⟩,fun x y hx=>?_,Nat.le_refl _,fun _ _ _=>rfl,fun x hx=> .inl (List.mem_cons_of_mem _ hx),fun x hx=>?_,rfl,rfl,rfl,by simp⟩
 ·simp only [RO.set] at hx
  split at hx
  ·rename_i e;subst e;cases hx;exact hs.own _ _ List.mem_cons_self
  ·exact hs.ro x y hx
 ·simp only [RO.set]
  rw [if_neg (fun e=>by subst e;exact hn.1 hx)]
  exact hs.apart x (List.mem_cons_of_mem _ hx)
 ·simp only [RO.set]
  rw [if_neg (fun e=>by subst e;simp only at hx;rw [hb] at hx;cases hx)]
  exact hx
 ·simp only [RO.set] at hx
  split at hx
  ·rename_i e;subst e;exact .inr (.inl (by simp [Mem.ids]))
  ·exact .inl hx
def Sm{α:Type}(P:Program)(M:Mem)(s:Sem α)(K:α→Mem→Prop):Prop:=
 ∀w es,Sat M w→∃a w' es' M',s.runT P w es=(.ok a w',es++es')∧Good M w w' es' M'∧K a M'
variable {P:Program}{α β:Type}{M:Mem}
theorem Sm.pure{a:α}{K:α→Mem→Prop}(h:K a M):Sm P M (Pure.pure a:Sem α) K:=
 fun w es hs=>⟨a,w, #[],M,by rw [Array.append_empty];rfl,Good.refl hs,h⟩
theorem Sm.pure'{a:α}{K:α→Mem→Prop}(h:K a M):Sm P M (Sem.pure a) K:=Sm.pure h
theorem Sm.bind'{s:Sem α}{f:α→Sem β}{K:β→Mem→Prop}(h:Sm P M s fun a M'=>Sm P M' (f a) K):Sm P M (s.bind f) K:=by
 intro w es hs
 obtain⟨a,w₁,es₁,M₁,h1,h2,h3⟩:=h w es hs
 obtain⟨b,w₂,es₂,M₂,k1,k2,k3⟩:=h3 w₁ (es++es₁) h2.sat
 refine⟨b,w₂,es₁++es₂,M₂, ?_,h2.trans k2,k3⟩
 rw [Sem.runT_bind',h1]
 simp only [k1,Array.append_assoc]
theorem Sm.bind{s:Sem α}{f:α→Sem β}{K:β→Mem→Prop}(h:Sm P M s fun a M'=>Sm P M' (f a) K):Sm P M (s>>=f) K:=Sm.bind' h
theorem Sm.map{s:Sem α}{f:α→β}{K:β→Mem→Prop}(h:Sm P M s fun a M'=>K (f a) M'):Sm P M (f<$>s) K:=
 Sm.bind' (f:=fun a=>Sem.pure (f a)) (by
  intro w es hs
  obtain⟨a,w₁,es₁,M₁,h1,h2,h3⟩:=h w es hs
  exact⟨a,w₁,es₁,M₁,h1,h2,Sm.pure' h3⟩)
theorem Sm.mono{s:Sem α}{K K':α→Mem→Prop}(h:Sm P M s K)(hk:∀a M',K a M'→K' a M'):Sm P M s K':=fun w es hs=>
 let⟨a,w',es',M',h1,h2,h3⟩:=h w es hs;⟨a,w',es',M',h1,h2,hk _ _ h3⟩
theorem Sm.ghost{s:Sem α}{K:α→Mem→Prop}(h:∀w,Sat M w→∃M',Good M w w #[] M'∧Sm P M' s K):Sm P M s K:=by
 intro w es hs
 obtain⟨M',hg,hm⟩:=h w hs
 obtain⟨a,w',es',M₂,h1,h2,h3⟩:=hm w es hg.sat
 refine⟨a,w',es',M₂,h1, ?_,h3⟩
 have:=hg.trans h2
 rwa [Array.empty_append] at this
theorem Sm.of_run{s:Sem α}{a:α}{K:α→Mem→Prop}(h:∀w es,s.runT P w es=(.ok a w,es))(hk:K a M):Sm P M s K:=
 fun w es hs=>⟨a,w, #[],M,by rw [Array.append_empty];exact h w es,Good.refl hs,hk⟩
theorem Sm.program{K:Program→Mem→Prop}(h:K P M):Sm P M program K:=Sm.of_run (fun _ _=>rfl) h
theorem Sm.ite{c:Prop} [Decidable c] {x y:Sem α}{K:α→Mem→Prop}(h1:c→Sm P M x K)(h2:¬c→Sm P M y K):Sm P M (if c then x else y) K:=by
 split
 ·exact h1 ‹_›
 ·exact h2 ‹_›
inductive Upd:List (Nat×Obj)→Nat→Obj→Obj→List (Nat×Obj)→Prop
 |here {l:List (Nat×Obj)} {b:Nat} {o o':Obj}:Upd ((b,o)::l) b o o' ((b,o')::l)
 |there {l l':List (Nat×Obj)} {p:Nat×Obj} {b:Nat} {o o':Obj}:Upd l b o o' l'→Upd (p::l) b o o' (p::l')
theorem Upd.mem(h:Upd l b o o' l'):(b,o)∈l:=by
 induction h with
 |here=>exact List.mem_cons_self
 |there _ ih=>exact List.mem_cons_of_mem _ ih
theorem Upd.ids(h:Upd l b o o' l'):l'.map (·.1)=l.map (·.1):=by
 induction h with
 |here=>rfl
 |there _ ih=>simp [ih]
theorem Upd.sub(h:Upd l b o o' l'):(l.map (·.1)).Nodup→∀x y,(x,y)∈l'→(x=b∧y=o')∨(x≠b∧(x,y)∈l):=by
 induction h with
 |here=>
  intro hn x y hm
  rcases List.mem_cons.1 hm with e|e
  ·cases e;exact .inl ⟨rfl,rfl⟩
  ·refine .inr ⟨fun hx=>?_,List.mem_cons_of_mem _ e⟩
   subst hx
   simp only [List.map_cons,List.nodup_cons] at hn
   exact hn.1 (List.mem_map.2 ⟨_,e,rfl⟩)
 |there h' ih=>
  intro hn x y hm
  simp only [List.map_cons,List.nodup_cons] at hn
  rcases List.mem_cons.1 hm with e|e
  ·subst e
   refine .inr ⟨fun hx=>?_,List.mem_cons_self⟩
   subst hx
   exact hn.1 (List.mem_map.2 ⟨_,h'.mem,rfl⟩)
  ·rcases ih hn.2 x y e with k|⟨k1,k2⟩
   ·exact .inl k
   ·exact .inr ⟨k1,List.mem_cons_of_mem _ k2⟩
def Obj.rowLike:Obj→Bool
 | .cells .. =>true
 |_=>false
theorem heap_upd{M:Mem}(hs:Sat M w)(hu:Upd M.own b o o' own')(es:Array Event)(hev:∀e∈es,EvOk M w e∧LowEv w.heap.size e)
  (hw:∀x,w'.heap[x]? =if x=b then some o' else w.heap[x]?) (hsz:w'.heap.size=w.heap.size) (ht:w'.tape=w.tape) (ho:w'.os=w.os) (hout:w'.output=w.output):
  Good M w w' es ⟨M.ro,own'⟩ where
 sat:=by
  have hid:Mem.ids ⟨M.ro,own'⟩=M.ids:=hu.ids
  refine⟨fun x y hxy=>?_,fun x y hxy=>?_,by rw [hid];exact hs.nodup,fun x hx=>hs.apart x (by rw [hid] at hx;exact hx)⟩
  ·rw [hw x]
   split
   ·rename_i e;subst e
    have:=hs.apart x (List.mem_map.2 ⟨_,hu.mem,rfl⟩)
    exact absurd hxy (by rw [this];simp)
   ·exact hs.ro x y hxy
  ·rw [hw x]
   rcases hu.sub hs.nodup x y hxy with⟨e1,e2⟩|⟨e1,e2⟩
   ·rw [if_pos e1,e2]
   ·rw [if_neg e1];exact hs.own x y e2
 le:=RO.le_refl _
 size:=by rw [hsz];exact Nat.le_refl _
 same x hx hn:=by
  rw [hw x,if_neg]
  intro e;subst e
  exact hn (List.mem_map.2 ⟨_,hu.mem,rfl⟩)
 own' x hx:= .inl (by have hid:Mem.ids ⟨M.ro,own'⟩=M.ids:=hu.ids;rw [hid] at hx;exact hx)
 ro' x hx:= .inl hx
 tape:=ht
 os:=ho
 out:=hout
 evs e he:=⟨(hev e he).1,by rw [hsz];exact(hev e he).2⟩
theorem getElem?_modify' {α:Type}(xs:Array α)(i:Nat)(f:α→α)(x:Nat){o:α}(h:xs[i]? =some o):(xs.modify i f)[x]? =if x=i then some (f o) else xs[x]? :=by
 rw [Array.getElem?_modify]
 by_cases e:i=x
 ·subst e;simp [h]
 ·simp [e,Ne.symm e]
theorem Sm.load_own{K:Value→Mem→Prop}(hm:(a.block,Obj.cells c t fr)∈M.own)(hsp:a.spot=none)(hv:c[a.off]? =some v)(h:K v M):
  Sm P M (load a) K:=by
 intro w es hs
 have hc:w.cell? a=some v:=by simp [World.cell?,hs.own _ _ hm,hsp,hv]
 refine⟨v,w, #[⟨.cell a,false,false⟩],M, ?_,⟨hs,RO.le_refl _,Nat.le_refl _,fun _ _ _=>rfl,fun _ h=> .inl h,fun _ h=> .inl h,rfl,rfl,rfl, ?_⟩,h⟩
 ·simp [load,Sem.runT,hc, -Sem.runT_eq];rfl
 ·intro e he
  simp only [List.mem_toArray,List.mem_cons,List.not_mem_nil,or_false] at he
  subst he
  exact⟨⟨rfl, .inl (List.mem_map.2 ⟨_,hm,rfl⟩)⟩,hs.lt (List.mem_map.2 ⟨_,hm,rfl⟩)⟩
theorem Sm.load_ro{K:Value→Mem→Prop}(hm:M.ro a.block=some (.cells c t fr))(hsp:a.spot=none)(hv:c[a.off]? =some v)(h:K v M):
  Sm P M (load a) K:=by
 intro w es hs
 have hc:w.cell? a=some v:=by simp [World.cell?,hs.ro _ _ hm,hsp,hv]
 refine⟨v,w, #[⟨.cell a,false,false⟩],M, ?_,⟨hs,RO.le_refl _,Nat.le_refl _,fun _ _ _=>rfl,fun _ h=> .inl h,fun _ h=> .inl h,rfl,rfl,rfl, ?_⟩,h⟩
 ·simp [load,Sem.runT,hc, -Sem.runT_eq];rfl
 ·intro e he
  simp only [List.mem_toArray,List.mem_cons,List.not_mem_nil,or_false] at he
  subst he
  exact⟨⟨rfl, .inr (.inr ⟨rfl,by simp [hm]⟩)⟩,hs.lt_ro hm⟩
def oneCell:Value→Bool
 | .agg _| .tuple _=>false
 |_=>true
theorem Sm.store_own(hu:Upd M.own a.block (.cells c t (0,0)) (.cells (c.setIfInBounds a.off v) t (0,0)) own')(hsp:a.spot=none)(hlt:a.off<c.size)(hv:oneCell v=true)
  (h:K () ⟨M.ro,own'⟩):Sm P M (store a v) K:=by
 intro w es hs
 have hb:=hs.own _ _ hu.mem
 have hc:w.cell? a=some (c[a.off]'hlt):=by simp [World.cell?,hb,hsp,hlt]
 have hf:w.frozen? a=false:=by simp [World.frozen?,hb]
 refine⟨(),w.setCell a v, #[⟨.cell a,true,false⟩],_, ?_,heap_upd hs hu _ ?_ (w':=w.setCell a v) ?_ ?_ U U rfl,h⟩
 ·cases v<;>first|(simp [oneCell] at hv;done)|(simp [store,Sem.runT,hc,hf, -Sem.runT_eq];rfl)
 ·intro e he
  simp only [List.mem_toArray,List.mem_cons,List.not_mem_nil,or_false] at he
  subst he
  exact⟨⟨rfl, .inl (List.mem_map.2 ⟨_,hu.mem,rfl⟩)⟩,hs.lt (List.mem_map.2 ⟨_,hu.mem,rfl⟩)⟩
 ·intro x
  simp only [World.setCell]
  rw [getElem?_modify' _ _ _ _ hb]
  simp [hsp]
 ·simp [World.setCell]
theorem Sm.newObj{K:Nat→Mem→Prop}(h:∀n,n∉M.ids→M.ro n=none→K n ⟨M.ro,(n,o)::M.own⟩):Sm P M (newObj o) K:=by
 intro w es hs
 have hn:w.heap.size∉M.ids:=fun e=>absurd (hs.lt e) (Nat.lt_irrefl _)
 have hr:M.ro w.heap.size=none:=by
  cases e:M.ro w.heap.size with
  |none=>rfl
  |some o=>exact absurd (hs.lt_ro e) (Nat.lt_irrefl _)
 have hp:∀x,(w.heap.push o)[x]? =if x=w.heap.size then some o else w.heap[x]? :=by
  intro x
  rw [Array.getElem?_push]
 refine⟨w.heap.size,{w with heap:=w.heap.push o}, #[],⟨M.ro,(w.heap.size,o)::M.own⟩,by rw [Array.append_empty];rfl,⟨⟨?_, ?_, ?_, ?_⟩,RO.le_refl _,by simp, ?_, ?_,fun _ h=> .inl h,rfl,rfl,rfl,by simp⟩,h _ hn hr⟩
 ·intro b x hb
  have:=hs.lt_ro hb
  simp only [hp]
  rw [if_neg O]
  exact hs.ro b x hb
 ·intro b x hb
  simp only [hp]
  rcases List.mem_cons.1 hb with e|e
  ·cases e;simp
  ·have:=hs.lt (List.mem_map.2 ⟨_,e,rfl⟩)
   simp only at this
   rw [if_neg O]
   exact hs.own b x e
 ·show(w.heap.size::M.ids).Nodup
  exact List.nodup_cons.2 ⟨hn,hs.nodup⟩
 ·intro b hb
  rcases List.mem_cons.1 (show b∈w.heap.size::M.ids from hb) with e|e
  ·subst e;exact hr
  ·exact hs.apart b e
 ·intro b hb _
  simp only [hp]
  rw [if_neg O]
 ·intro b hb
  rcases List.mem_cons.1 (show b∈w.heap.size::M.ids from hb) with e|e
  ·subst e;exact .inr (Nat.le_refl _)
  ·exact .inl e
theorem Sm.shape_own{K:Option (TypeId×Nat)→Mem→Prop}(hm:(r,o)∈M.own)(h:K (match o with| .cells c t _=>some (t,c.size)|_=>none) M):Sm P M (shape r) K:=by
 intro w es hs
 have hb:=hs.own _ _ hm
 refine⟨_,w, #[],M, ?_,Good.refl hs,h⟩
 rw [Array.append_empty]
 simp only [shape,Sem.runT,World.shape?,hb]
 cases o<;>rfl
theorem Sm.getObj_own{K:Obj→Mem→Prop}(hm:(r,o)∈M.own)(hr:Obj.rowLike o=false)(hch:o.isChan=false)(h:K o M):Sm P M (getObj r) K:=by
 intro w es hs
 have hb:=hs.own _ _ hm
 refine⟨o,w, #[⟨.obj r,false,false⟩],M, ?_,⟨hs,RO.le_refl _,Nat.le_refl _,fun _ _ _=>rfl,fun _ h=> .inl h,fun _ h=> .inl h,rfl,rfl,rfl, ?_⟩,h⟩
 ·cases o<;>first|(simp [Obj.rowLike] at hr;done)|(simp [Obj.isChan] at hch;done)|(simp [getObj,Sem.runT,hb,Obj.isChan, -Sem.runT_eq])
 ·intro e he
  simp only [List.mem_toArray,List.mem_cons,List.not_mem_nil,or_false] at he
  subst he
  exact⟨⟨rfl, .inl (List.mem_map.2 ⟨_,hm,rfl⟩)⟩,hs.lt (List.mem_map.2 ⟨_,hm,rfl⟩)⟩
theorem Sm.setObj_own(hu:Upd M.own r o o' own')(hr:Obj.rowLike o=false)(hch:o'.isChan=false)(h:K () ⟨M.ro,own'⟩):Sm P M (setObj r o') K:=by
 intro w es hs
 have hb:=hs.own _ _ hu.mem
 have hlt:=(Array.getElem?_eq_some_iff.1 hb).1
 refine⟨(),{w with heap:=w.heap.setIfInBounds r o'}, #[⟨.obj r,true,false⟩],_, ?_,heap_upd hs hu _ ?_ (w':={w with heap:=w.heap.setIfInBounds r o'}) ?_ ?_ U U rfl,h⟩
 ·cases o<;>first|(simp [Obj.rowLike] at hr;done)|(simp [setObj,Sem.runT,hb,hch, -Sem.runT_eq])
 ·intro e he
  simp only [List.mem_toArray,List.mem_cons,List.not_mem_nil,or_false] at he
  subst he
  exact⟨⟨rfl, .inl (List.mem_map.2 ⟨_,hu.mem,rfl⟩)⟩,hs.lt (List.mem_map.2 ⟨_,hu.mem,rfl⟩)⟩
 ·intro x
  simp only [Array.getElem?_setIfInBounds]
  by_cases e:r=x
  ·subst e;simp [hlt]
  ·simp [e,Ne.symm e]
 ·simp
theorem Sm.choose{q:Question}{K:Nat→Mem→Prop}(h:∀n,(q.forced=true∧n=0)∨(q.forced=false∧∃t,n=q.cut t)→K n M):Sm P M (choose q) K:=by
 intro w es hs
 by_cases hq:q.forced=true
 ·exact⟨0,w, #[],M,by rw [Array.append_empty];simp [Go.choose,Sem.runT,hq, -Sem.runT_eq],Good.refl hs,h 0 (.inl ⟨hq,rfl⟩)⟩
 ·refine⟨q.cut (w.tape w.drawn q),{w with drawn:=w.drawn+1}, #[],M, ?_,⟨⟨hs.ro,hs.own,hs.nodup,hs.apart⟩,RO.le_refl _,Nat.le_refl _,fun _ _ _=>rfl,fun _ h=> .inl h,fun _ h=> .inl h,rfl,rfl,rfl,by simp⟩,h _ (.inr ⟨by simpa using hq,_,rfl⟩)⟩
  rw [Array.append_empty];simp [Go.choose,Sem.runT,hq, -Sem.runT_eq]
theorem Sm.mark{m:Mark}(hm:(∃f,m= .extern f)∨m= .noRoom)(h:K () M):Sm P M (mark m) K:=by
 intro w es hs
 refine⟨(),w, #[⟨.mark m,false,true⟩],M, ?_,⟨hs,RO.le_refl _,Nat.le_refl _,fun _ _ _=>rfl,fun _ h=> .inl h,fun _ h=> .inl h,rfl,rfl,rfl, ?_⟩,h⟩
 ·simp [Go.mark,Sem.runT, -Sem.runT_eq]
 ·intro e he
  simp only [List.mem_toArray,List.mem_cons,List.not_mem_nil,or_false] at he
  subst he
  rcases hm with⟨f,rfl⟩|rfl<;>exact⟨trivial,trivial⟩
end Go.Lg
namespace Go.Lg
open Go Go.Conc
variable {b:Nat}{o o':Obj}{l:List (Nat×Obj)}
theorem Uh:Upd ((b,o)::l) b o o' ((b,o')::l):=Upd.here
theorem Ut{x:Nat×Obj}{l':List (Nat×Obj)}(h:Upd l b o o' l'):Upd (x::l) b o o' (x::l'):=Upd.there h
end Go.Lg
namespace Go.Lg
open Go Go.Conc
variable {e t tt:TypeId}{b k n off:Nat}{K:Value→Mem→Prop}{l l' out vs:List Value}{v:Value}{fr:Nat×Nat}{o:Obj}{l₂:List (Nat×Obj)}{kk:IntKind}{i:Int}
variable {P:Program}{α β:Type}{M:Mem}
theorem Sm.fact{s:Sem α}{a:α}{K:α→Mem→Prop}(hr:∀w,s.run P w= .ok a w)(he:∀w es,s.events P w es=es)(hk:K a M):Sm P M s K:=
 Sm.of_run (fun w es=>by rw [Sem.runT_eq,hr w,he w es]) hk
theorem Sm.sizeOf{K:Nat→Mem→Prop}(h:∀w,Sem.run P (Go.sizeOf t) w= .ok k w)(hk:K k M):Sm P M (Go.sizeOf t) K:=Sm.fact h (fun w es=>events_sizeOf P w es t) hk
theorem Sm.isAgg{k:Bool}{K:Bool→Mem→Prop}(h:∀w,Sem.run P (Go.isAgg t) w= .ok k w)(hk:K k M):Sm P M (Go.isAgg t) K:=Sm.fact h (fun w es=>events_isAgg P w es t) hk
theorem Sm.zeroValue{k:Value}(h:∀w,Sem.run P (Go.zeroValue t) w= .ok k w)(hk:K k M):Sm P M (Go.zeroValue t) K:=Sm.fact h (fun w es=>events_zeroValue P w es t) hk
theorem Sm.underlying{k:TypeDesc}{K:TypeDesc→Mem→Prop}(h:∀w,Sem.run P (Go.underlying t) w= .ok k w)(hk:K k M):Sm P M (Go.underlying t) K:=Sm.fact h (fun w es=>events_underlying P w es t) hk
theorem Sm.typeInfo{k:TypeInfo}{K:TypeInfo→Mem→Prop}(h:∀w,Sem.run P (Go.typeInfo t) w= .ok k w)(hk:K k M):Sm P M (Go.typeInfo t) K:=Sm.fact h (fun w es=>events_typeInfo P w es t) hk
inductive Sub:Nat→Nat→List Value→List Value→Prop
 |nil {l:List Value}:Sub 0 0 l []
 |take {n:Nat} {x:Value} {l out:List Value}:Sub 0 n l out→Sub 0 (n+1) (x::l) (x::out)
 |skip {off n:Nat} {x:Value} {l out:List Value}:Sub off n l out→Sub (off+1) n (x::l) out
inductive Put:Nat→List Value→List Value→List Value→Prop
 |nil {l:List Value}:Put 0 [] l l
 |here {v x:Value} {vs l l':List Value}:Put 0 vs l l'→Put 0 (v::vs) (x::l) (v::l')
 |skip {off:Nat} {x:Value} {vs l l':List Value}:Put off vs l l'→Put (off+1) vs (x::l) (x::l')
theorem Sub.get(h:Sub off n l out):∀i,i<n→l[off+i]? =out[i]? :=by
 induction h with
 |nil=>intro i hi;omega
 |take _ ih=>
  intro i hi
  cases i with
  |zero=>simp
  |succ i=>
   have:=ih i O
   simp at this⊢
   exact this
 |skip _ ih=>
  intro i hi
  have:=ih i hi
  rw [←this,show∀a:Nat,a+1+i=(a+i)+1 from fun a=>by omega]
  simp
theorem Sub.len(h:Sub off n l out):out.length=n:=by
 induction h with
 |nil=>rfl
 |take _ ih=>simp [ih]
 |skip _ ih=>exact ih
theorem Sub.of{l:List Value}:∀ {off n:Nat},off+n≤l.length→Sub off n l ((l.drop off).take n)
 |0,0,_=>by simpa using Sub.nil
 |0,n+1,h=>by
  cases l with
  |nil=>simp at h
  |cons x l=>simpa using Sub.take (Sub.of (off:=0) (n:=n) (l:=l) (by simp at h⊢;omega))
 |off+1,n,h=>by
  cases l with
  |nil=>simp at h
  |cons x l=>simpa using Sub.skip (Sub.of (off:=off) (n:=n) (l:=l) (by simp at h⊢;omega))
theorem Put.length(h:Put off vs l l'):l'.length=l.length:=by
 induction h with
 |nil=>rfl
 |here _ ih=>simp [ih]
 |skip _ ih=>simp [ih]
theorem Put.step(h:Put off (v::vs) l l'):off<l.length∧Put (off+1) vs (l.set off v) l':=by
 induction off generalizing l l' with
 |zero=>
  cases h with
  |here h=>exact⟨by simp,by simpa using Put.skip h⟩
 |succ off ih=>
  cases h with
  |skip h=>
   obtain⟨h1,h2⟩:=ih h
   exact⟨by simp;omega,by simpa using Put.skip h2⟩
theorem add_addr(b off n:Nat):(⟨b,off,none⟩:Addr).add n=⟨b,off+n,none⟩:=by
 unfold Addr.add
 split
 ·subst_vars;rfl
 ·rfl
theorem Sm.loadCellsFrom_own{b:Nat}{l:List Value}{t:TypeId}{fr:Nat×Nat}(hm:(b,Obj.cells l.toArray t fr)∈M.own):
  ∀ (n off i:Nat) (acc:Array Value) {out:List Value} {K:Array Value→Mem→Prop},Sub (off+i) n l out→K (acc++out.toArray) M→Sm P M (loadCellsFrom ⟨b,off,none⟩ i n acc) K
 |0,off,i,acc,out,K,hs,hk=>by
  have:out= []:=List.length_eq_zero_iff.1 hs.len
  subst this
  simp only [loadCellsFrom]
  exact Sm.pure (by simpa using hk)
 |n+1,off,i,acc,out,K,hs,hk=>by
  simp only [loadCellsFrom]
  have hl:=hs.len
  obtain⟨x,out',rfl⟩:∃x o,out=x::o:=by
   cases out with
   |nil=>simp at hl
   |cons x o=>exact⟨x,o,rfl⟩
  have h0:=hs.get 0 O
  have hs':Sub (off+(i+1)) n l out':=by
   have key:∀ (a:Nat) (l:List Value) (x:Value) (o:List Value),Sub a (n+1) l (x::o)→Sub (a+1) n l o:=by
    intro a
    induction a with
    |zero=>intro l x o h;cases h with|take h=>exact .skip h
    |succ a ih=>intro l x o h;cases h with|skip h=>exact .skip (ih _ _ _ h)
   exact key _ _ _ _ hs
  refine Sm.bind (Sm.load_own (a:=(⟨b,off,none⟩:Addr).add i) (by rw [add_addr];exact hm) (by rw [add_addr]) (v:=x) (by rw [add_addr];simpa using h0) ?_)
  exact Sm.loadCellsFrom_own hm n off (i+1) _ hs' (by simpa using hk)
theorem Sm.loadCellsFrom_ro{b:Nat}{l:List Value}{t:TypeId}{fr:Nat×Nat}(hm:M.ro b=some (Obj.cells l.toArray t fr)):
  ∀ (n off i:Nat) (acc:Array Value) {out:List Value} {K:Array Value→Mem→Prop},Sub (off+i) n l out→K (acc++out.toArray) M→Sm P M (loadCellsFrom ⟨b,off,none⟩ i n acc) K
 |0,off,i,acc,out,K,hs,hk=>by
  have:out= []:=List.length_eq_zero_iff.1 hs.len
  subst this
  simp only [loadCellsFrom]
  exact Sm.pure (by simpa using hk)
 |n+1,off,i,acc,out,K,hs,hk=>by
  simp only [loadCellsFrom]
  have hl:=hs.len
  obtain⟨x,out',rfl⟩:∃x o,out=x::o:=by
   cases out with
   |nil=>simp at hl
   |cons x o=>exact⟨x,o,rfl⟩
  have h0:=hs.get 0 O
  have hs':Sub (off+(i+1)) n l out':=by
   have key:∀ (a:Nat) (l:List Value) (x:Value) (o:List Value),Sub a (n+1) l (x::o)→Sub (a+1) n l o:=by
    intro a
    induction a with
    |zero=>intro l x o h;cases h with|take h=>exact .skip h
    |succ a ih=>intro l x o h;cases h with|skip h=>exact .skip (ih _ _ _ h)
   exact key _ _ _ _ hs
  refine Sm.bind (Sm.load_ro (a:=(⟨b,off,none⟩:Addr).add i) (by rw [add_addr];exact hm) (by rw [add_addr]) (v:=x) (by rw [add_addr];simpa using h0) ?_)
  exact Sm.loadCellsFrom_ro hm n off (i+1) _ hs' (by simpa using hk)
theorem Sm.loadAgg_own(ha:∀w,Sem.run P (Go.isAgg tt) w= .ok true w)(hz:∀w,Sem.run P (Go.sizeOf tt) w= .ok n w)
  (hm:(b,Obj.cells l.toArray t fr)∈M.own) (hs:Sub off n l out) (hk:K (.agg out.toArray) M):Sm P M (Instr.loadAt tt (.pointer (some ⟨b,off,none⟩))) K:=by
 unfold Instr.loadAt Instr.sureAddr loadVar loadCells
 refine Sm.bind (Sm.pure (Sm.bind (Sm.isAgg ha ?_)))
 simp only [if_true]
 refine Sm.bind (Sm.sizeOf hz (Sm.bind ?_))
 exact Sm.loadCellsFrom_own hm n off 0 #[] (by simpa using hs) (Sm.pure (by simpa using hk))
theorem Sm.loadAgg_ro(ha:∀w,Sem.run P (Go.isAgg tt) w= .ok true w)(hz:∀w,Sem.run P (Go.sizeOf tt) w= .ok n w)
  (hm:M.ro b=some (Obj.cells l.toArray t fr)) (hs:Sub off n l out) (hk:K (.agg out.toArray) M):Sm P M (Instr.loadAt tt (.pointer (some ⟨b,off,none⟩))) K:=by
 unfold Instr.loadAt Instr.sureAddr loadVar loadCells
 refine Sm.bind (Sm.pure (Sm.bind (Sm.isAgg ha ?_)))
 simp only [if_true]
 refine Sm.bind (Sm.sizeOf hz (Sm.bind ?_))
 exact Sm.loadCellsFrom_ro hm n off 0 #[] (by simpa using hs) (Sm.pure (by simpa using hk))
theorem Sm.loadOne_own(ha:∀w,Sem.run P (Go.isAgg tt) w= .ok false w)
  (hm:(b,Obj.cells l.toArray t fr)∈M.own) (hv:l[off]? =some v) (hk:K v M):Sm P M (Instr.loadAt tt (.pointer (some ⟨b,off,none⟩))) K:=by
 unfold Instr.loadAt Instr.sureAddr loadVar
 refine Sm.bind (Sm.pure (Sm.bind (Sm.isAgg ha ?_)))
 simp only [Bool.false_eq_true,if_false]
 exact Sm.load_own hm rfl (by simpa using hv) hk
theorem Sm.loadOne_ro(ha:∀w,Sem.run P (Go.isAgg tt) w= .ok false w)
  (hm:M.ro b=some (Obj.cells l.toArray t fr)) (hv:l[off]? =some v) (hk:K v M):Sm P M (Instr.loadAt tt (.pointer (some ⟨b,off,none⟩))) K:=by
 unfold Instr.loadAt Instr.sureAddr loadVar
 refine Sm.bind (Sm.pure (Sm.bind (Sm.isAgg ha ?_)))
 simp only [Bool.false_eq_true,if_false]
 exact Sm.load_ro hm rfl (by simpa using hv) hk
def ones:List Value→Bool
 | []=>true
 |v::l=>oneCell v && ones l
theorem Upd.split{l:List (Nat×Obj)}{o₂:Obj}(h:Upd l b o o₂ l₂)(o₁:Obj):∃l₁,Upd l b o o₁ l₁∧Upd l₁ b o₁ o₂ l₂:=by
 induction h with
 |here=>exact⟨_, .here, .here⟩
 |there _ ih=>obtain⟨l₁,h1,h2⟩:=ih;exact⟨_, .there h1, .there h2⟩
theorem Upd.self{l:List (Nat×Obj)}(h:Upd l b o o l₂):l₂=l:=by
 have key:∀ {l:List (Nat×Obj)} {b:Nat} {o o':Obj} {l₂:List (Nat×Obj)},Upd l b o o' l₂→o=o'→l₂=l:=by
  intro l b o o' l₂ h
  induction h with
  |here=>intro e;rw [e]
  |there _ ih=>intro e;rw [ih e]
 exact key h rfl
theorem Sm.storeCells_own{b off:Nat}{t:TypeId}:∀ (vs:List Value) (i:Nat) {M:Mem} {l l':List Value} {own':List (Nat×Obj)} {K:Unit→Mem→Prop},Upd M.own b (.cells l.toArray t (0,0)) (.cells l'.toArray t (0,0)) own'→
  Put (off+i) vs l l'→ones vs=true→K () ⟨M.ro,own'⟩→Sm P M (storeCells ⟨b,off,none⟩ vs i) K
 | [],i,M,l,l',own',K,hu,hp,_,hk=>by
  have:l'=l:=by
   generalize off+i=a at hp
   generalize hv:([]:List Value)=vs at hp
   induction hp with
   |nil=>rfl
   |here _=>cases hv
   |skip _ ih=>
    rename_i h
    have key:∀ {a:Nat} {l l':List Value},Put a [] l l'→l'=l:=by
     intro a
     induction a with
     |zero=>intro l l' h;cases h;rfl
     |succ a ih=>intro l l' h;cases h with|skip h=>rw [ih h]
    subst hv
    rw [key h]
  subst this
  obtain rfl:=hu.self
  simp only [storeCells]
  exact Sm.pure hk
 |v::vs,i,M,l,l',own',K,hu,hp,ho,hk=>by
  simp only [ones,Bool.and_eq_true] at ho
  obtain⟨hlt,hp'⟩:=hp.step
  obtain⟨own₁,h1,h2⟩:=hu.split (.cells (l.set (off+i) v).toArray t (0,0))
  simp only [storeCells]
  refine Sm.bind (Sm.store_own (a:=(⟨b,off,none⟩:Addr).add i) (c:=l.toArray) (t:=t) (own':=own₁) (by rw [add_addr];simpa using h1) (by rw [add_addr]) (by rw [add_addr];simpa using hlt) ho.1 ?_)
  exact Sm.storeCells_own vs (i+1) (M:=⟨M.ro,own₁⟩) h2 (by rw [show off+(i+1)=off+i+1 by omega];exact hp') ho.2 hk
theorem Sm.storeAt_own{own':List (Nat×Obj)}{K:Unit→Mem→Prop}(hz:∀w,Sem.run P (Go.sizeOf tt) w= .ok n w)(hv:v.cells=vs.toArray)(hn:vs.length=n)(ho:ones vs=true)
  (hu:Upd M.own b (.cells l.toArray t (0,0)) (.cells l'.toArray t (0,0)) own') (hp:Put off vs l l') (hk:K () ⟨M.ro,own'⟩):Sm P M (Instr.storeAt tt (.pointer (some ⟨b,off,none⟩)) v) K:=by
 unfold Instr.storeAt Instr.sureAddr storeVar
 refine Sm.bind (Sm.pure (Sm.bind (Sm.sizeOf hz ?_)))
 rw [hv]
 simp only [List.size_toArray,hn,ne_eq,not_true_eq_false,if_false]
 exact Sm.bind (Sm.pure (Sm.storeCells_own vs 0 hu hp ho hk))
theorem Sm.alloc{z:Value}(hz:∀w,Sem.run P (Go.zeroValue t) w= .ok z w)(hl:z.cells=l.toArray)(hk:∀n,K (.pointer (some ⟨n,0,none⟩)) ⟨M.ro,(n, .cells l.toArray t (0,0))::M.own⟩):
  Sm P M (Instr.alloc t true (.tuple #[])) K:=by
 unfold Instr.alloc
 refine Sm.bind (Sm.zeroValue hz ?_)
 simp only
 unfold newVar newRow
 rw [hl]
 exact Sm.bind (Sm.bind (Sm.newObj fun n _ _=>Sm.pure (Sm.pure (hk n))))
theorem Sm.box(hl:v.cells=l.toArray)(hk:∀n,K (.pointer (some ⟨n,0,none⟩)) ⟨M.ro,(n, .cells l.toArray t (0,0))::M.own⟩):Sm P M (Instr.box t v) K:=by
 unfold Instr.box newVar newRow
 rw [hl]
 exact Sm.bind (Sm.bind (Sm.newObj fun n _ _=>Sm.pure (Sm.pure (hk n))))
theorem Sm.fieldAt{s f:Nat}{fields:Array Field}{fd:Field}(hu:∀w,Sem.run P (Go.underlying s) w= .ok (.struct fields) w)(hf:fields[f]? =some fd)(hz:∀w,Sem.run P (Go.sizeOf fd.type) w= .ok (k+1) w)
  (hk:K (.pointer (some ⟨b,off+fd.offset,none⟩)) M):Sm P M (Instr.fieldAt s (.pointer (some ⟨b,off,none⟩)) f) K:=by
 unfold Instr.fieldAt
 refine Sm.bind (Sm.underlying hu ?_)
 simp only [hf]
 unfold Instr.sureAddr fieldPlace
 refine Sm.bind (Sm.pure (Sm.bind (Sm.bind (Sm.sizeOf hz ?_))))
 simp only [Nat.add_eq_zero_iff,Nat.one_ne_zero,and_false,if_false,add_addr]
 exact Sm.pure (Sm.pure hk)
theorem Sm.partAgg(ha:∀w,Sem.run P (Go.isAgg t) w= .ok true w)(hz:∀w,Sem.run P (Go.sizeOf t) w= .ok n w)(hs:Sub off n l out)(hk:K (.agg out.toArray) M):
  Sm P M (part t l.toArray off) K:=by
 unfold part
 refine Sm.bind (Sm.isAgg ha ?_)
 simp only [if_true]
 refine Sm.bind (Sm.sizeOf hz (Sm.pure ?_))
 have:l.toArray.extract off (off+n)=out.toArray:=by
  have hlen:off+n≤l.length:=by
   clear hk ha hz
   induction hs with
   |nil=>simp
   |take _ ih=>simp at ih⊢;omega
   |skip _ ih=>simp at ih⊢;omega
  apply Array.ext'
  simp only [List.extract_toArray,List.extract_eq_take_drop]
  have e:(l.drop off).take n=out:=by
   clear hk ha hz hlen
   induction hs with
   |nil=>simp
   |take _ ih=>simpa using ih
   |skip _ ih=>simpa using ih
  simp [e]
 rw [this];exact hk
theorem Sm.partOne(ha:∀w,Sem.run P (Go.isAgg t) w= .ok false w)(hv:l[off]? =some v)(hk:K v M):Sm P M (part t l.toArray off) K:=by
 unfold part
 refine Sm.bind (Sm.isAgg ha ?_)
 simp only [Bool.false_eq_true,if_false]
 have:l.toArray[off]? =some v:=by simpa using hv
 rw [this]
 exact Sm.pure hk
theorem Sm.indexAt_slice{len cap:Nat}(hu:∀w,Sem.run P (Go.underlying t) w= .ok (.slice e) w)(hz:∀w,Sem.run P (Go.sizeOf e) w= .ok k w)(h0:0≤i)(h1:i<len)
  (hk:K (.pointer (some ⟨b,off+i.toNat*k,none⟩)) M):Sm P M (Instr.indexAt t (.slice (some ⟨b,off,none⟩) len cap) (.int kk i)) K:=by
 unfold Instr.indexAt asIntOf
 refine Sm.bind (Sm.pure ?_)
 simp only
 refine Sm.bind (Sm.underlying hu ?_)
 simp only
 refine Sm.bind (Sm.pure ?_)
 simp only
 refine Sm.bind (Sm.underlying hu ?_)
 simp only [h0,h1,and_self,if_true,Bool.and_false]
 refine Sm.bind (Sm.sizeOf hz (Sm.pure ?_))
 rw [add_addr];exact hk
theorem Sm.indexAt_array{len:Nat}(hu:∀w,Sem.run P (Go.underlying t) w= .ok (.array len e) w)(hz:∀w,Sem.run P (Go.sizeOf e) w= .ok k w)(h0:0≤i)(h1:i<len)
  (hk:K (.pointer (some ⟨b,off+i.toNat*k,none⟩)) M):Sm P M (Instr.indexAt t (.pointer (some ⟨b,off,none⟩)) (.int kk i)) K:=by
 unfold Instr.indexAt asIntOf Instr.sureAddr
 refine Sm.bind (Sm.pure ?_)
 simp only
 refine Sm.bind (Sm.underlying hu ?_)
 simp only
 refine Sm.bind (Sm.pure (Sm.bind (Sm.pure ?_)))
 simp only
 refine Sm.bind (Sm.underlying hu ?_)
 simp only [h0,h1,and_self,if_true]
 refine Sm.bind (Sm.sizeOf hz (Sm.pure ?_))
 rw [add_addr];exact hk
theorem Sm.index_array_one{len:Nat}(hu:∀w,Sem.run P (Go.underlying t) w= .ok (.array len e) w)(ha:∀w,Sem.run P (Go.isAgg e) w= .ok false w)
  (hz:∀w,Sem.run P (Go.sizeOf e) w= .ok k w) (h0:0≤i) (h1:i<len) (hv:l[i.toNat*k]? =some v) (hk:K v M):Sm P M (Instr.index t (.agg l.toArray) (.int kk i)) K:=by
 unfold Instr.index asIntOf
 refine Sm.bind (Sm.pure ?_)
 simp only
 refine Sm.bind (Sm.underlying hu ?_)
 simp only [h0,h1,and_self,if_true]
 exact Sm.bind (Sm.sizeOf hz (Sm.partOne ha hv hk))
end Go.Lg
namespace Go.Lg
open Go Go.Conc
variable {l:List Value}{a0 a1 a2 a3 a4 a5 x0 x1 x2 x3 x4 x5:Value}
theorem Ph2:Put 0 [a0,a1] (x0::x1::l) (a0::a1::l):= .here (.here .nil)
theorem Ph3:Put 0 [a0,a1,a2] (x0::x1::x2::l) (a0::a1::a2::l):= .here (.here (.here .nil))
theorem Ph4:Put 0 [a0,a1,a2,a3] (x0::x1::x2::x3::l) (a0::a1::a2::a3::l):= .here (.here (.here (.here .nil)))
theorem Ph5:Put 0 [a0,a1,a2,a3,a4] (x0::x1::x2::x3::x4::l) (a0::a1::a2::a3::a4::l):= .here (.here (.here (.here (.here .nil))))
theorem Ph6:Put 0 [a0,a1,a2,a3,a4,a5] (x0::x1::x2::x3::x4::x5::l) (a0::a1::a2::a3::a4::a5::l):= .here (.here (.here (.here (.here (.here .nil)))))
theorem Ph7{a6 x6:Value}:Put 0 [a0,a1,a2,a3,a4,a5,a6] (x0::x1::x2::x3::x4::x5::x6::l) (a0::a1::a2::a3::a4::a5::a6::l):= .here (.here (.here (.here (.here (.here (.here .nil))))))
end Go.Lg
namespace Go.Lg
open Go Go.Conc
structure Closed(P:Program)(main:Bool)(J:Goroutine→Mem→Prop):Prop where
 step:∀g M,g.status= .running→(∀w,Sat M w→∃g' w' es M',stepG P main g w= .go g' w' es∧Good M w w' es M'∧J g' M')→J g M
 ghost:∀g M,(∀w,Sat M w→∃M',Good M w w #[] M'∧J g M')→J g M
abbrev Slots:=List (Nat×Value)
variable {a:Act}{v v':Value}{σ':Slots}{l t:Nat}{todo:List Item}{c x y:Code}{o:Oper}
def look:Slots→Nat→Option Value
 | [],_=>none
 |(s,v)::l,t=>match Nat.beq s t with
  |true=>some v
  |false=>look l t
def ev(σ:Slots):Operand→Option Value
 | .tmp t=>look σ t
 | .const v=>some v
 | .global g=>some (.pointer (some ⟨g,0,none⟩))
 | .func f=>some (.func (.func f) #[] #[])
structure Holds(n:Nat)(ds:List Deferred)(σ:Slots)(a:Act):Prop where
 size:a.tmps.size=n
 defers:a.defers=ds
 slots:∀t v,look σ t=some v→a.tmps.getD t undef=v
theorem Holds.ev{n:Nat}{ds:List Deferred}{σ:Slots}(h:Holds n ds σ a){x:Operand}(hv:ev σ x=some v):a.eval x=v:=by
 cases x with
 |tmp t=>exact h.slots t v hv
 |const c=>exact Option.some.inj hv
 |global g=>exact Option.some.inj hv
 |func f=>exact Option.some.inj hv
theorem Holds.put{n:Nat}{ds:List Deferred}{σ:Slots}(h:Holds n ds σ a){d:Nat}(hd:d<n)(v:Value):Holds n ds ((d,v)::σ) (a.put (some d) v):=by
 refine⟨by simp [Act.put,h.size],h.defers,fun t x ht=>?_⟩
 simp only [look] at ht
 split at ht
 ·rename_i e
  have e:=Nat.eq_of_beq_eq_true e
  subst e
  cases ht
  simp [Act.put,h.size,hd]
 ·rename_i e
  have hne:d≠t:=fun x=>by subst x;simp at e
  rw [←h.slots t x ht]
  simp only [Act.put,Array.getD_eq_getD_getElem?]
  rw [Array.getElem?_setIfInBounds_ne hne]
theorem Holds.weaken{n:Nat}{ds:List Deferred}{σ:Slots}(h:Holds n ds σ a)(hs:∀t v,look σ' t=some v→look σ t=some v):Holds n ds σ' a:=⟨h.size,h.defers,fun t v e=>h.slots t v (hs t v e)⟩
theorem Holds.fix{n:Nat}{ds:List Deferred}{σ:Slots}(h:Holds n ds σ a)(hl:look σ t=some v)(e:v=v'):Holds n ds ((t,v')::σ) a:=by
 subst e
 refine⟨h.size,h.defers,fun s x hs=>?_⟩
 simp only [look] at hs
 split at hs
 ·rename_i e
  have e:=Nat.eq_of_beq_eq_true e
  subst e
  cases hs
  exact h.slots _ _ hl
 ·exact h.slots s x hs
def keeps(σ:Slots):Slots→Prop
 | []=>True
 |(t,v)::l=>look σ t=some v∧keeps σ l
theorem keeps_look{σ:Slots}:∀ {σ':Slots},keeps σ σ'→∀t v,look σ' t=some v→look σ t=some v
 |(s,x)::l,h,t,v,e=>by
  simp only [look] at e
  split at e
  ·rename_i h'
   have:=Nat.eq_of_beq_eq_true h'
   subst this
   cases e
   exact h.1
  ·exact keeps_look h.2 t v e
def fr(b:Frame)(a:Act)(todo:List Item):Frame:={b with tmps:=a.tmps,todo,defers:=a.defers,mode:= .run}
theorem fr_eval(b:Frame)(a:Act)(todo:List Item):(fr b a todo).eval=a.eval:=by
 funext x;cases x<;>rfl
theorem fr_kind(b:Frame)(a:Act)(todo:List Item):(fr b a todo).kind=b.kind:=rfl
theorem fr_fn(b:Frame)(a:Act)(todo:List Item):(fr b a todo).fn=b.fn:=rfl
theorem fr_todo(b:Frame)(a:Act)(todo:List Item):(fr b a todo).todo=todo:=rfl
theorem fr_finish(b:Frame)(a:Act)(ops:Array Oper)(i:Nat)(rest:List Nat)(k:List Item)(v:Value):
  (fr b a (.inRegion ops (i::rest)::k)).finish v=fr b (a.put ((ops[i]?).bind (·.dst)) v) (.inRegion ops rest::k):=by
 cases h:(ops[i]?).bind (·.dst)<;>simp [Frame.finish,fr,Act.put,h]
def X(J:Goroutine→Mem→Prop)(b:Frame)(cs:List Frame)(n:Nat)(todo:List Item)(ds:List Deferred)(σ:Slots)(M:Mem):Prop:=
 ∀a,Holds n ds σ a→J (G (fr b a todo) cs) M
section
variable {P:Program}{main:Bool}{J:Goroutine→Mem→Prop}(hJ:Closed P main J){b:Frame}{cs:List Frame}{n:Nat}{ds:List Deferred}{σ:Slots}{M:Mem}{k:List Item}
include hJ
theorem Closed.ctl{g g':Goroutine}{M:Mem}(hs:g.status= .running)(h:∀w,stepG P main g w= .go g' w #[])(hj:J g' M):J g M:=
 hJ.step g M hs fun w hw=>⟨g',w, #[],M,h w,Good.refl hw,hj⟩
theorem X.ghost(h:∀w,Sat M w→∃M',Good M w w #[] M'∧X J b cs n todo ds σ M'):X J b cs n todo ds σ M:=fun a ha=>hJ.ghost _ _ fun w hw=>let⟨M',h1,h2⟩:=h w hw;⟨M',h1,h2 a ha⟩
theorem X.weak{M':Mem}(hw:Weak M M')(h:X J b cs n todo ds σ M'):X J b cs n todo ds σ M:=X.ghost hJ fun w hs=>⟨M',hw w hs,h⟩
theorem X.persist{ro:RO}{own:List (Nat×Obj)}{p:Nat}{o:Obj}(h:∀ro':RO,ro.le ro'→ro' p=some o→X J b cs n todo ds σ ⟨ro',own⟩):X J b cs n todo ds σ ⟨ro,(p,o)::own⟩:=
 X.ghost hJ fun _ hs=>⟨_,good_persist hs,h _ (good_persist hs).le (by simp [RO.set])⟩
omit hJ in
theorem X.weaken(hs:keeps σ σ')(h:X J b cs n todo ds σ' M):X J b cs n todo ds σ M:=fun a ha=>h a (ha.weaken (keeps_look hs))
omit hJ in
theorem X.fix{p:Bool}(hl:look σ t=some (.bool p))(h1:p=true→X J b cs n todo ds ((t, .bool true)::σ) M)(h2:p=false→X J b cs n todo ds ((t, .bool false)::σ) M):X J b cs n todo ds σ M:=by
 cases p with
 |true=>exact fun a ha=>h1 rfl a (ha.fix hl rfl)
 |false=>exact fun a ha=>h2 rfl a (ha.fix hl rfl)
omit hJ in
theorem X.fixv(hl:look σ t=some v)(e:v=v')(h:X J b cs n todo ds ((t,v')::σ) M):X J b cs n todo ds σ M:=fun a ha=>h a (ha.fix hl e)
theorem X.skip(h:X J b cs n k ds σ M):X J b cs n (.code .skip::k) ds σ M:=fun a ha=>
 hJ.ctl rfl (fun w=>by simp [G,stepG,stepG.exec,fr]) (h a ha)
theorem X.label(h:X J b cs n k ds σ M):X J b cs n (.code (.label l)::k) ds σ M:=fun a ha=>
 hJ.ctl rfl (fun w=>by simp [G,stepG,stepG.exec,fr]) (h a ha)
theorem X.inBlock(h:X J b cs n k ds σ M):X J b cs n (.inBlock l::k) ds σ M:=fun a ha=>
 hJ.ctl rfl (fun w=>by simp [G,stepG,stepG.exec,fr]) (h a ha)
theorem X.inScope{l:Code}(h:X J b cs n k ds σ M):X J b cs n (.inScope l::k) ds σ M:=fun a ha=>
 hJ.ctl rfl (fun w=>by simp [G,stepG,stepG.exec,fr]) (h a ha)
theorem X.seq(h:X J b cs n (.code x:: .code y::k) ds σ M):X J b cs n (.code (.seq x y)::k) ds σ M:=fun a ha=>
 hJ.ctl rfl (fun w=>by simp [G,stepG,stepG.exec,fr]) (h a ha)
theorem X.block(h:X J b cs n (.code c:: .inBlock l::k) ds σ M):X J b cs n (.code (.block l c)::k) ds σ M:=fun a ha=>
 hJ.ctl rfl (fun w=>by simp [G,stepG,stepG.exec,fr]) (h a ha)
theorem X.scope(h:X J b cs n (.code c:: .inScope c::k) ds σ M):X J b cs n (.code (.scope c)::k) ds σ M:=fun a ha=>
 hJ.ctl rfl (fun w=>by simp [G,stepG,stepG.exec,fr]) (h a ha)
theorem X.loop(h:X J b cs n (.code c:: .inLoop c::k) ds σ M):X J b cs n (.code (.loop c)::k) ds σ M:=fun a ha=>
 hJ.ctl rfl (fun w=>by simp [G,stepG,stepG.exec,fr]) (h a ha)
theorem X.inLoop(h:X J b cs n (.code c:: .inLoop c::k) ds σ M):X J b cs n (.inLoop c::k) ds σ M:=fun a ha=>
 hJ.ctl rfl (fun w=>by simp [G,stepG,stepG.exec,fr]) (h a ha)
theorem X.exit{k':List Item}(he:exitTo l k=some k')(h:X J b cs n k' ds σ M):X J b cs n (.code (.exit l)::k) ds σ M:=fun a ha=>
 hJ.ctl rfl (fun w=>by simp [G,stepG,stepG.exec,fr,he]) (h a ha)
theorem X.cond{c:Operand}{t:Bool}(hc:ev σ c=some (.bool t))(h1:t=true→X J b cs n (.code x::k) ds σ M)(h2:t=false→X J b cs n (.code y::k) ds σ M):X J b cs n (.code (.cond c x y)::k) ds σ M:=fun a ha=>by
 have he:=ha.ev hc
 have he':(fr b a (.code (.cond c x y)::k)).eval c= .bool t:=by rw [fr_eval];exact he
 cases t with
 |true=>exact hJ.ctl rfl (fun w=>by simp only [fr] at he';simp [G,stepG,stepG.exec,fr,he']) (h1 rfl a ha)
 |false=>exact hJ.ctl rfl (fun w=>by simp only [fr] at he';simp [G,stepG,stepG.exec,fr,he']) (h2 rfl a ha)
omit hJ in
theorem mem_seen{P:Program}{fn:FuncId}{es:Array Event}{e:Event}(h:e∈seen P fn es):e∈es:=by
 unfold seen at h
 dsimp only at h
 rw [←Array.foldl_toList] at h
 have key:∀ (l:List Event) (x:Bool×Array Event),e∈(l.foldl (fun(x:Bool×Array Event) e=>match e.loc with
   | .mark (.extern f)=>((P.funcs[f]?).any (·.norace),x.2)
   |_=>(x.1,if x.1 && !e.sync then x.2 else x.2.push e)) x).2→e∈x.2∨e∈l:=by
  intro l
  induction l with
  |nil=>intro x h;exact .inl h
  |cons y l ih=>
   intro x h
   simp only [List.foldl_cons] at h
   rcases ih _ h with h|h
   ·split at h
    ·exact .inl h
    ·simp only at h
     split at h
     ·exact .inl h
     ·rcases Array.mem_push.1 h with h|h
      ·exact .inl h
      ·subst h;exact .inr List.mem_cons_self
   ·exact .inr (List.mem_cons_of_mem _ h)
 have:=key es.toList _ h
 simp at this
 exact this
def upon(P:Program)(J:Goroutine→Mem→Prop)(b:Frame)(cs:List Frame)(a:Act)(dst:Option Nat)(ops:Array Oper)(i:Nat)(rest:List Nat)(k:List Item):Next→Mem→Prop
 | .value v,M=>J (G (fr b (a.put dst v) (.inRegion ops rest::k)) cs) M
 | .skip,M=>J (G (fr b (a.put dst undef) (.inRegion ops rest::k)) cs) M
 | .enter f args,M=>J (G (Frame.enter P f args .normal) (fr b a (.inRegion ops (i::rest)::k)::cs)) M
 | .round l f tmps assign body,M=>J (G (Frame.round l f tmps assign body .normal) (fr b a (.inRegion ops (i::rest)::k)::cs)) M
 |_,_=>False
def notDefer:Op→Bool
 | .defer _=>false
 |_=>true
theorem J_op{ops:Array Oper}{i:Nat}{rest:List Nat}(hk:b.kind≠ .early)(ho:ops[i]? =some o)(hw:Region.wanted o (yielded ops a.tmps)=true)(hd:notDefer o.op=true)
  (h:Sm P M (execOp a.eval o) (upon P J b cs a o.dst ops i rest k)):J (G (fr b a (.inRegion ops (i::rest)::k)) cs) M:=by
 refine hJ.step _ _ U fun w hs=>?_
 obtain⟨x,w',es,M',h1,h2,h3⟩:=h w #[] hs
 rw [Array.empty_append] at h1
 have hfin:∀v,(fr b a (.inRegion ops (i::rest)::k)).finish v=fr b (a.put o.dst v) (.inRegion ops rest::k):=by
  intro v;rw [fr_finish,ho];rfl
 have hk':(b.kind==CallKind.early)=false:=by simpa using hk
 have he:=fr_eval b a (.inRegion ops (i::rest)::k)
 have hstep:stepG P main (G (fr b a (.inRegion ops (i::rest)::k)) cs) w=stepG.apply P true (fr b a (.inRegion ops (i::rest)::k)) cs none (execOp a.eval o) w:=by
  simp only [fr] at he
  simp only [G,stepG,stepG.exec,fr,ho,hw,Option.map_some,Option.getD_some,if_true,stepG.oper,Frame.oper?,he]
  cases hop:o.op<;>simp [hop,notDefer] at hd<;>cases b.roundOf<;>rfl
 have hgood:∀fn,Good M w w' (seen P fn es) M':=fun fn=>{h2 with evs:=fun e h=>h2.evs e (mem_seen h) }
 have happ:∀r,stepG.apply P true (fr b a (.inRegion ops (i::rest)::k)) cs none (execOp a.eval o) w=r→r=stepG P main (G (fr b a (.inRegion ops (i::rest)::k)) cs) w:=fun r hr=>hstep.trans hr|>.symm
 cases x with
 |value v=>
  refine⟨_,w',_,M',hstep.trans ?_,hgood b.fn,h3⟩
  rw [←hfin]
  simp [stepG.apply,h1,G,GStep.after,fr_kind,fr_fn,hk', -Sem.runT_eq]
 |skip=>
  refine⟨_,w',_,M',hstep.trans ?_,hgood b.fn,h3⟩
  rw [←hfin]
  simp [stepG.apply,h1,G,GStep.after,fr_kind,fr_fn,hk', -Sem.runT_eq]
 |enter f args=>
  refine⟨_,w',_,M',hstep.trans ?_,hgood b.fn,h3⟩
  simp [stepG.apply,h1,G,GStep.after,fr_kind,fr_fn,fr_todo,hk', -Sem.runT_eq]
 |round l f tmps assign body=>
  refine⟨_,w',_,M',hstep.trans ?_,hgood b.fn,h3⟩
  simp [stepG.apply,h1,G,GStep.after,fr_kind,fr_fn,hk', -Sem.runT_eq]
 |_=>exact h3.elim
end
structure Ctx(P:Program)(main:Bool)(J:Goroutine→Mem→Prop)(b:Frame):Prop where
 closed:Closed P main J
 kind:b.kind≠ .early
def putS(dst:Option Nat)(v:Value)(σ:Slots):Slots:=
 match dst with
 |some d=>(d,v)::σ
 |none=>σ
def dstOk(n:Nat):Option Nat→Bool
 |some d=>Nat.blt d n
 |none=>true
theorem Holds.putS{n:Nat}{ds:List Deferred}{σ:Slots}(h:Holds n ds σ a){dst:Option Nat}(hd:dstOk n dst=true)(v:Value):Holds n ds (putS dst v σ) (a.put dst v):=by
 cases dst with
 |some d=>exact h.put (by simpa [dstOk] using hd) v
 |none=>exact h
def wantedS(ops:Array Oper)(σ:Slots)(o:Oper):Option Bool:=
 match o.guard with
 |none=>some true
 |some (j,want)=>match((ops[j]?).bind (·.dst)).bind (look σ) with
  |some (.bool b)=>some (b==want)
  |some (.tuple _)=>some false
  |_=>none
theorem wanted_of{n:Nat}{ds:List Deferred}{σ:Slots}{ops:Array Oper}{t:Bool}(ha:Holds n ds σ a)(hok:∀ (j d:Nat),((ops[j]?).bind (fun o:Oper=>o.dst))=some d→d<n)(h:wantedS ops σ o=some t):Region.wanted o (yielded ops a.tmps)=t:=by
 unfold wantedS at h
 unfold Region.wanted
 cases hg:o.guard with
 |none=>rw [hg] at h;simpa using h
 |some g=>
  obtain⟨j,want⟩:=g
  rw [hg] at h
  simp only at h⊢
  unfold yielded
  cases hd:(ops[j]?).bind (·.dst) with
  |none=>rw [hd] at h;simp at h
  |some d=>
   rw [hd] at h
   simp only [Option.bind_some] at h⊢
   cases hl:look σ d with
   |none=>rw [hl] at h;simp at h
   |some v=>
    rw [hl] at h
    have hs:=ha.slots d v hl
    have hlt:=hok j d hd
    rw [←ha.size] at hlt
    have:a.tmps[d]? =some v:=by rw [←hs];simp [hlt]
    rw [this]
    cases v<;>simp at h⊢ <;>exact h
def dstsOk(n:Nat):List Oper→Bool
 | []=>true
 |o::l=>dstOk n o.dst && dstsOk n l
theorem dsts_of{n:Nat}{ops:Array Oper}(h:dstsOk n ops.toList=true):∀ (j d:Nat),((ops[j]?).bind (fun o:Oper=>o.dst))=some d→d<n:=by
 intro j d hd
 obtain⟨o,ho,hod⟩:=Option.bind_eq_some_iff.1 hd
 have key:∀l:List Oper,dstsOk n l=true→∀o∈l,dstOk n o.dst=true:=by
  intro l
  induction l with
  |nil=>intro _ o ho;cases ho
  |cons x l ih=>
   intro h o ho
   simp only [dstsOk,Bool.and_eq_true] at h
   rcases List.mem_cons.1 ho with e|e
   ·rw [e];exact h.1
   ·exact ih h.2 o e
 have:=key _ h o (by
  have:=Array.mem_of_getElem? ho
  simpa using this)
 rw [hod] at this
 simpa [dstOk] using this
def R(J:Goroutine→Mem→Prop)(b:Frame)(cs:List Frame)(n:Nat)(ops:Array Oper)(todo:List Nat)(k:List Item)(ds:List Deferred)(σ:Slots)(M:Mem):Prop:=
 dstsOk n ops.toList=true→X J b cs n (.inRegion ops todo::k) ds σ M
def uponX(P:Program)(J:Goroutine→Mem→Prop)(b:Frame)(cs:List Frame)(n:Nat)(dst:Option Nat)(ops:Array Oper)(i:Nat)(rest:List Nat)(k:List Item)(ds:List Deferred)(σ:Slots):Next→Mem→Prop
 | .value v,M=>R J b cs n ops rest k ds (putS dst v σ) M
 | .skip,M=>R J b cs n ops rest k ds (putS dst undef σ) M
 | .enter f args,M=>∀a,Holds n ds σ a→J (G (Frame.enter P f args .normal) (fr b a (.inRegion ops (i::rest)::k)::cs)) M
 | .round l f tmps assign body,M=>∀a,Holds n ds σ a→J (G (Frame.round l f tmps assign body .normal) (fr b a (.inRegion ops (i::rest)::k)::cs)) M
 |_,_=>False
section
variable {P:Program}{main:Bool}{J:Goroutine→Mem→Prop}{b:Frame}(C:Ctx P main J b){cs:List Frame}{n:Nat}{ds:List Deferred}{σ:Slots}{M:Mem}{k:List Item}{ops:Array Oper}{i:Nat}{rest:List Nat}
include C
theorem X.region{id:Nat}{l:List Nat}(hok:dstsOk n ops.toList=true)(hl:List.range ops.size=l)(h:R J b cs n ops l k ds σ M):X J b cs n (.code (.region id ops false)::k) ds σ M:=fun a ha=>by
 subst hl
 exact C.1.ctl rfl (fun w=>by simp [G,stepG,stepG.exec,fr]) (h hok a ha)
theorem R.done(h:X J b cs n k ds σ M):R J b cs n ops [] k ds σ M:=fun _ a ha=>
 C.1.ctl rfl (fun w=>by simp [G,stepG,stepG.exec,fr]) (h a ha)
theorem R.op(ho:ops[i]? =some o)(hg:wantedS ops σ o=some true)(hd:notDefer o.op=true)
  (h:∀a,Holds n ds σ a→Sm P M (execOp a.eval o) (uponX P J b cs n o.dst ops i rest k ds σ)):R J b cs n ops (i::rest) k ds σ M:=fun hok a ha=>by
 have hdst:dstOk n o.dst=true:=by
  cases e:o.dst with
  |none=>rfl
  |some d=>simpa [dstOk] using dsts_of hok i d (by rw [ho];exact e)
 refine J_op C.1 C.kind ho (wanted_of ha (dsts_of hok) hg) hd ((h a ha).mono fun x M' hx=>?_)
 cases x with
 |value v=>exact hx hok _ (ha.putS hdst v)
 |skip=>exact hx hok _ (ha.putS hdst undef)
 |enter f args=>exact hx a ha
 |round l f tmps assign body=>exact hx a ha
 |_=>exact hx.elim
theorem R.pass(ho:ops[i]? =some o)(hg:wantedS ops σ o=some false)(h:R J b cs n ops rest k ds (putS o.dst undef σ) M):R J b cs n ops (i::rest) k ds σ M:=fun hok a ha=>by
 have hdst:dstOk n o.dst=true:=by
  cases e:o.dst with
  |none=>rfl
  |some d=>simpa [dstOk] using dsts_of hok i d (by rw [ho];exact e)
 have hfin:(fr b a (.inRegion ops (i::rest)::k)).finish undef=fr b (a.put o.dst undef) (.inRegion ops rest::k):=by rw [fr_finish,ho];rfl
 have hw:=wanted_of ha (dsts_of hok) hg
 refine C.1.ctl U (fun w=>?_) (h hok _ (ha.putS hdst undef))
 rw [←hfin]
 simp [G,stepG,stepG.exec,fr,ho,hw]
end
end Go.Lg
namespace Go.Lg
open Go Go.Conc
variable {n:Nat}{a b c d e:Value}{r:List Value}
theorem Xs{P:Program}{main:Bool}{J:Goroutine→Mem→Prop}{b:Frame}(C:Ctx P main J b){cs:List Frame}{ds:List Deferred}{σ:Slots}{M:Mem}{k:List Item}{x y:Code}(h:X J b cs n (.code x:: .code y::k) ds σ M):X J b cs n (.code (.seq x y)::k) ds σ M:=X.seq C.1 h
theorem Nl{m:Nat}(h:Nat.ble m n=true):m≤n:=Nat.le_of_ble_eq_true h
theorem Tk2:Sub 0 2 (a::b::r) [a,b]:= .take (.take .nil)
theorem Tk3:Sub 0 3 (a::b::c::r) [a,b,c]:= .take Tk2
theorem Tk4:Sub 0 4 (a::b::c::d::r) [a,b,c,d]:= .take Tk3
theorem Tk5:Sub 0 5 (a::b::c::d::e::r) [a,b,c,d,e]:= .take Tk4
theorem Tk6{f:Value}:Sub 0 6 (a::b::c::d::e::f::r) [a,b,c,d,e,f]:= .take Tk5
end Go.Lg
namespace Go.Lg
open Go Go.Conc
variable {b k n:Nat}{a:MemAct}{M:Mem}{e:Event}{x:Touch}{u:Trace}
def blockOf:Loc→Option Nat
 | .cell a=>some a.block
 | .obj r=>some r
 |_=>none
def Kw(t:Trace)(i k:Nat):Prop:=Knows t i k∧(t.g? k=some i∨Knows t 0 k)
theorem Kw.app{t:Trace}{i:Nat}(u:Trace)(h:Kw t i k):Kw (t++u) i k:=by
 refine⟨h.1.app u,h.2.imp (fun e=>?_) (·.app u)⟩
 obtain⟨op,ho,hg⟩:=Option.map_eq_some_iff.1 e
 simp only [Trace.g?]
 rw [getElem?_append_old (lt_size_of_getElem? ho),ho]
 simpa using hg
theorem Kw.new{t:Trace}{z:MemOp}(h:t[k]? =some z):Kw t z.g k:=⟨knows_own h, .inl (by simp [Trace.g?,h])⟩
structure Kn(t:Trace)(i:Nat)(M:Mem):Prop where
 own:∀b∈M.ids,∀k x,touchAt t k=some x→blockOf x.loc=some b→Kw t i k
 ro:∀b,(M.ro b).isSome=true→∀k x,touchAt t k=some x→blockOf x.loc=some b→x.write=true→Kw t i k
def LowT(n:Nat)(a:MemAct):Prop:= ∀x,a.touch? =some x→∀b,blockOf x.loc=some b→b<n
theorem LowT.mono{m:Nat}(h:n≤m)(k:LowT n a):LowT m a:=fun x hx b hb=>Nat.lt_of_lt_of_le (k x hx b hb) h
theorem LowT.none(h:a.touch? = .none):LowT n a:=fun x hx=>by rw [h] at hx;cases hx
structure Safe(w:World)(t:Trace)(Ms:Nat→Mem):Prop where
 sat:∀i,Sat (Ms i) w
 apart:∀i j,i≠j→∀b∈(Ms i).ids,b∉ (Ms j).ids∧(Ms j).ro b=none
 kn:∀i,Kn t i (Ms i)
 clean:∀said,¬Race said t
 seen:∀op∈t,LowT w.heap.size op.act
 quiet:∀k x,touchAt t k=some x→x.kind≠ .plain→∀b,blockOf x.loc=some b→∀i,b∉ (Ms i).ids∧(Ms i).ro b=none
def setM(Ms:Nat→Mem)(i:Nat)(M:Mem):Nat→Mem:=fun j=>if j=i then M else Ms j
theorem setM_same(Ms:Nat→Mem)(i:Nat)(M:Mem):setM Ms i M i=M:=by simp [setM]
theorem setM_ne(Ms:Nat→Mem){i j:Nat}(M:Mem)(h:j≠i):setM Ms i M j=Ms j:=by simp [setM,h]
section
variable {w w':World}{t:Trace}{Ms:Nat→Mem}{i:Nat}{fn:FuncId}{pos:String}{es:Array Event}{M':Mem}
theorem ev_touch(h:EvOk M w e)(hx:(MemAct.ofEvent e).touch? =some x):
  ∃b,blockOf x.loc=some b∧x.kind= .plain∧(b∈M.ids∨w.heap.size≤b∨(x.write=false∧(M.ro b).isSome=true)):=by
 obtain⟨loc,wr,sy⟩:=e
 cases loc with
 |cell a=>
  obtain⟨h1,h2⟩:=h
  simp only at h1;subst h1
  cases wr<;>simp only [MemAct.ofEvent,MemAct.touch?,Option.some.injEq] at hx<;>subst hx<;>exact⟨a.block,rfl,rfl,h2⟩
 |obj a=>
  obtain⟨h1,h2⟩:=h
  simp only at h1;subst h1
  cases wr<;>simp only [MemAct.ofEvent,MemAct.touch?,Option.some.injEq] at hx<;>subst hx<;>exact⟨a,rfl,rfl,h2⟩
 |output=>exact h.elim
 |goroutines=>exact h.elim
 |mark m=>cases m<;>first|exact h.elim|(simp [MemAct.ofEvent,MemAct.touch?] at hx;done)
theorem ev_low(h:EvOk M w e)(hl:LowEv n e):(MemAct.ofEvent e).low n:=by
 obtain⟨loc,wr,sy⟩:=e
 cases loc with
 |cell a=>
  obtain⟨h1,h2⟩:=h
  simp only at h1;subst h1
  cases wr<;>exact hl
 |obj a=>
  obtain⟨h1,h2⟩:=h
  simp only at h1;subst h1
  cases wr<;>exact hl
 |output=>exact h.elim
 |goroutines=>exact h.elim
 |mark m=>cases m<;>first|exact h.elim|trivial
theorem ev_still(h:EvOk M w e):e.loc≠ .mark .disable∧e.loc≠ .mark .enable:=by
 obtain⟨loc,wr,sy⟩:=e
 cases loc with
 |mark m=>cases m<;>first|exact h.elim|exact⟨by simp,by simp⟩
 |_=>exact⟨by simp,by simp⟩
theorem low_block{op:MemOp}(h:op.act.low n)(hx:op.act.touch? =some x)(hb:blockOf x.loc=some b):b<n:=by
 obtain⟨g,fn,pos,act⟩:=op
 simp only at h hx
 cases act with
 |access e=>
  simp only [MemAct.touch?,Option.some.injEq] at hx
  subst hx
  obtain⟨loc,wr,sy⟩:=e
  cases loc<;>simp only [blockOf,Option.some.injEq] at hb<;>first|(subst hb;exact h)|cases hb
 |mark m=>
  cases m<;>simp only [MemAct.touch?,Option.some.injEq] at hx<;>first|(subst hx;simp only [blockOf,Option.some.injEq] at hb;subst hb;exact h)|cases hx
 |_=>simp [MemAct.touch?] at hx
theorem Safe.lt(S:Safe w t Ms)(hx:touchAt t k=some x)(hb:blockOf x.loc=some b):b<w.heap.size:=by
 obtain⟨op,ho,hox⟩:=touch_of hx
 exact S.seen op (Array.mem_of_getElem? ho) x hox b hb
theorem touchAt_app(h:touchAt (t++u) k=some x):(touchAt t k=some x)∨(∃op∈u,(t++u)[k]? =some op∧op.act.touch? =some x):=by
 obtain⟨op,ho,hox⟩:=touch_of h
 rcases getElem?_append_cases ho with⟨_,ho'⟩|⟨_,hou⟩
 ·exact .inl (by rw [touchAt_of ho'];exact hox)
 ·exact .inr ⟨op,hou,ho,hox⟩
theorem conf_write{said:Bool}{a b:Touch}(hc:a.conflicts said b)(hb:b.write=false):a.write=true:=by
 obtain⟨_,_,h,_⟩:=hc
 rcases h with h|h
 ·simpa using h
 ·rw [hb] at h;cases h
theorem Safe.own(S:Safe w t Ms)(h:Good (Ms i) w w' es M'):Safe w' (t++MemOp.ofEvents i fn pos es) (setM Ms i M'):=by
 have hg:∀op∈MemOp.ofEvents i fn pos es,op.g=i:=fun op hop=>by obtain⟨e,_,rfl⟩:=Go.Conc.mem_ofEvents hop;rfl
 have hnew:∀ {op:MemOp} {x:Touch},op∈MemOp.ofEvents i fn pos es→op.act.touch? =some x→∀ {b:Nat},blockOf x.loc=some b→(b∈(Ms i).ids∨w.heap.size≤b∨(x.write=false∧((Ms i).ro b).isSome=true)):=by
  intro op x hop hx b hb
  obtain⟨e,he,rfl⟩:=Go.Conc.mem_ofEvents hop
  obtain⟨b',h1,_,h2⟩:=ev_touch (h.evs e he).1 hx
  rw [h1] at hb
  cases hb
  exact h2
 refine⟨fun j=>?_,fun j k hjk b hb=>?_,fun j=>?_,fun said=>?_,fun op hop=>?_,fun k x hx hp b hb j=>?_⟩
 ·by_cases e:j=i
  ·subst e;rw [setM_same];exact h.sat
  ·rw [setM_ne _ _ e]
   have Sj:=S.sat j
   refine⟨fun b o hb=>?_,fun b o hb=>?_,Sj.nodup,Sj.apart⟩
   ·rw [h.same b (Sj.lt_ro hb) fun hc=>by have:=(S.apart i j (Ne.symm e) b hc).2;rw [hb] at this;cases this]
    exact Sj.ro b o hb
   ·have hm:b∈(Ms j).ids:=List.mem_map.2 ⟨_,hb,rfl⟩
    rw [h.same b (Sj.lt hm) fun hc=>(S.apart i j (Ne.symm e) b hc).1 hm]
    exact Sj.own b o hb
 ·by_cases e:j=i
  ·subst e
   rw [setM_same] at hb
   rw [setM_ne _ _ (Ne.symm hjk)]
   rcases h.own' b hb with h1|h1
   ·exact S.apart j k hjk b h1
   ·refine⟨fun hc=>absurd ((S.sat k).lt hc) O, ?_⟩
    cases hr:(Ms k).ro b with
    |none=>rfl
    |some o=>exact absurd ((S.sat k).lt_ro hr) O
  ·rw [setM_ne _ _ e] at hb
   by_cases e2:k=i
   ·subst e2
    rw [setM_same]
    have:=S.apart j k hjk b hb
    have hlt:=(S.sat j).lt hb
    refine⟨fun hc=>(h.own' b hc).elim this.1 O, ?_⟩
    cases hr:M'.ro b with
    |none=>rfl
    |some o=>
     rcases h.ro' b (by rw [hr];rfl) with h1|h1|h1
     ·rw [this.2] at h1;cases h1
     ·exact absurd h1 this.1
     ·omega
   ·rw [setM_ne _ _ e2];exact S.apart j k hjk b hb
 ·by_cases e:j=i
  ·subst e
   rw [setM_same]
   refine⟨fun b hb k x hx hbx=>?_,fun b hb k x hx hbx hw=>?_⟩
   ·rcases touchAt_app hx with h1|⟨op,hop,ho,_⟩
    ·rcases h.own' b hb with h2|h2
     ·exact((S.kn j).own b h2 k x h1 hbx).app _
     ·exact absurd (S.lt h1 hbx) O
    ·have:=Kw.new ho;rw [hg op hop] at this;exact this
   ·rcases touchAt_app hx with h1|⟨op,hop,ho,_⟩
    ·rcases h.ro' b hb with h2|h2|h2
     ·exact((S.kn j).ro b h2 k x h1 hbx hw).app _
     ·exact((S.kn j).own b h2 k x h1 hbx).app _
     ·exact absurd (S.lt h1 hbx) O
    ·have:=Kw.new ho;rw [hg op hop] at this;exact this
  ·rw [setM_ne _ _ e]
   refine⟨fun b hb k x hx hbx=>?_,fun b hb k x hx hbx hw=>?_⟩
   ·rcases touchAt_app hx with h1|⟨op,hop,_,hox⟩
    ·exact((S.kn j).own b hb k x h1 hbx).app _
    ·have hlt:=(S.sat j).lt hb
     have ha:=S.apart j i e b hb
     rcases hnew hop hox hbx with h2|h2|⟨_,h2⟩
     ·exact absurd h2 ha.1
     ·omega
     ·rw [ha.2] at h2;cases h2
   ·rcases touchAt_app hx with h1|⟨op,hop,_,hox⟩
    ·exact((S.kn j).ro b hb k x h1 hbx hw).app _
    ·obtain⟨o,ho⟩:=Option.isSome_iff_exists.1 hb
     have hlt:=(S.sat j).lt_ro ho
     rcases hnew hop hox hbx with h2|h2|⟨h2,_⟩
     ·have:=(S.apart i j (Ne.symm e) b h2).2;rw [ho] at this;cases this
     ·omega
     ·rw [h2] at hw;cases hw
 ·refine noRace_append (S.clean said) hg fun k a ha op hop b hb hc=>?_
  obtain⟨e,he,rfl⟩:=Go.Conc.mem_ofEvents hop
  obtain⟨bl,h1,_,h2⟩:=ev_touch (h.evs e he).1 hb
  have hla:blockOf a.loc=some bl:=by rw [hc.1];exact h1
  rcases h2 with h2|h2|⟨h2,h3⟩
  ·exact((S.kn i).own bl h2 k a ha hla).1
  ·exact absurd (S.lt ha hla) O
  ·exact((S.kn i).ro bl h3 k a ha hla (conf_write hc h2)).1
 ·rcases Array.mem_append.1 hop with h1|h1
  ·exact(S.seen op h1).mono h.size
  ·obtain⟨e,he,rfl⟩:=Go.Conc.mem_ofEvents h1
   exact fun x hx b hb=>low_block (op:={g:=i,fn,pos,act:= .ofEvent e}) (ev_low (h.evs e he).1 (h.evs e he).2) hx hb
 ·rcases touchAt_app hx with h1|⟨op,hop,_,hox⟩
  ·have hlt:=S.lt h1 hb
   have hq:=S.quiet k x h1 hp b hb
   by_cases e:j=i
   ·subst e
    rw [setM_same]
    refine⟨fun hc=>(h.own' b hc).elim (hq j).1 O, ?_⟩
    cases hr:M'.ro b with
    |none=>rfl
    |some o=>
     rcases h.ro' b (by rw [hr];rfl) with h2|h2|h2
     ·rw [(hq j).2] at h2;cases h2
     ·exact absurd h2 (hq j).1
     ·omega
   ·rw [setM_ne _ _ e];exact hq j
  ·obtain⟨e,he,rfl⟩:=Go.Conc.mem_ofEvents hop
   obtain⟨_,_,h2,_⟩:=ev_touch (h.evs e he).1 hox
   exact absurd h2 hp
theorem Safe.mute(S:Safe w t Ms)(hu:∀op∈u,op.g=i)(hn:∀op∈u,op.act.touch? =none)(_hl:∀op∈u,op.act.low w.heap.size):Safe w (t++u) Ms:=by
 refine⟨S.sat,S.apart,fun j=>⟨fun b hb k x hx hbx=>?_,fun b hb k x hx hbx hw=>?_⟩,fun said=>?_,fun op hop=>?_,fun k x hx hp b hb j=>?_⟩
 ·rcases touchAt_app hx with h1|⟨op,hop,_,hox⟩
  ·exact((S.kn j).own b hb k x h1 hbx).app _
  ·rw [hn op hop] at hox;cases hox
 ·rcases touchAt_app hx with h1|⟨op,hop,_,hox⟩
  ·exact((S.kn j).ro b hb k x h1 hbx hw).app _
  ·rw [hn op hop] at hox;cases hox
 ·exact noRace_append (S.clean said) hu fun k a _ op hop b hb _=>by rw [hn op hop] at hb;cases hb
 ·rcases Array.mem_append.1 hop with h1|h1
  ·exact S.seen op h1
  ·exact .none (hn op h1)
 ·rcases touchAt_app hx with h1|⟨op,hop,_,hox⟩
  ·exact S.quiet k x h1 hp b hb j
  ·rw [hn op hop] at hox;cases hox
theorem Sat.at(h:Sat M w)(d:Nat):Sat M (w.at d):=⟨h.ro,h.own,h.nodup,h.apart⟩
theorem Safe.at(S:Safe w t Ms)(d:Nat):Safe (w.at d) t Ms:=⟨fun i=>(S.sat i).at d,S.apart,S.kn,S.clean,S.seen,S.quiet⟩
end
end Go.Lg
namespace Go.Lg
open Go Go.Conc
open Go.ConcN (sumTo upd sumTo_upd upd_ne upd_same)
variable {w':World}
def Ends(P:Program)(Q:Machine→Outcome→World→Trace→Prop)(m:Machine)(t:Trace):Prop:=
 ∃n last o w t',runNT P (n+1) m t=(.ended o w,t')∧runN P n m= .next last∧step P last= .ended o w∧Q last o w t'
section
variable {P:Program}{Q:Machine→Outcome→World→Trace→Prop}{m m':Machine}{t:Trace}{ops:Array MemOp}{o:Outcome}{w:World}
theorem Ends.next(hs:stepT P m=(.next m',ops))(h:Ends P Q m' (t++ops)):Ends P Q m t:=by
 obtain⟨n,last,o,w,t',h1,h2,h3,h4⟩:=h
 exact⟨n+1,last,o,w,t',by rw [runNT_succ_next hs];exact h1,by rw [runN_succ_next hs];exact h2,h3,h4⟩
theorem Ends.last(hs:stepT P m=(.ended o w,ops))(hq:Q m o w (t++ops)):Ends P Q m t:=⟨0,m,o,w,t++ops,by simp [runNT,hs],rfl,by simp [step,hs],hq⟩
end
def SameOut(w w':World):Prop:=w'.os=w.os∧w'.output=w.output
def KQ(Q:Machine→Outcome→World→Trace→Prop)(w:World):Machine→Outcome→World→Trace→Prop:=fun m o w' t=>Q m o w' t∧SameOut w w'
theorem SameOut.kq{w:World}(h:SameOut w w')(Q:Machine→Outcome→World→Trace→Prop):KQ Q w'=KQ Q w:=by
 funext m o w2 t
 simp only [KQ,SameOut,h.1,h.2]
def noMem:Mem:=⟨fun _=>none, []⟩
def onlyM(M:Mem):Nat→Mem:=setM (fun _=>noMem) 0 M
theorem setM_onlyM(M M':Mem):setM (onlyM M) 0 M'=onlyM M':=by
 funext j;simp only [setM,onlyM];split<;>rfl
structure Lone(P:Program)(gs:Array Goroutine)(w:World)(t:Trace)(q:Nat→Nat)(M:Mem):Prop where
 leavers:Leavers P t gs q
 safe:Safe w t (onlyM M)
 over:t.HandedOver
 hears:Deaf t 0=0
 gsb:∀ (k g:Nat),t.g? k=some g→g<gs.size
theorem g?_new {t u:Trace}{k g:Nat}(h:(t++u).g? k=some g):t.g? k=some g∨∃op∈u,op.g=g:=by
 obtain⟨op,ho,hog⟩:=Option.map_eq_some_iff.1 h
 rcases getElem?_append_cases ho with⟨_,h2⟩|⟨_,h2⟩
 ·exact .inl (by simp [Trace.g?,h2,hog])
 ·exact .inr ⟨op,h2,hog⟩
def JM(P:Program)(Q:Machine→Outcome→World→Trace→Prop)(g:Goroutine)(M:Mem):Prop:=
 ∀gs w sl t q,gs[0]? =some g→Lone P gs w t q M→Ends P (KQ Q w) (crowd gs w sl) t
section
variable {P:Program}{Q:Machine→Outcome→World→Trace→Prop}{gs:Array Goroutine}{w:World}{sl:Option (Nat×Nat)}{t:Trace}{q:Nat→Nat}{g:Goroutine}{M:Mem}
theorem lone_step(h0:gs[0]? =some g)(hs:g.status= .running)(hL:Lone P gs w t q M)
  (hmain:∀gs' d sl' t' q',gs'[0]? =some g→Lone P gs' (w.at d) t' q' M→gs'.size=gs.size→∀d',∀m' ops,runT P (crowd gs' ((w.at d).at d') sl') 0=(m',ops)→(∀m'',m'= .next m''→Ends P Q m'' (t'++ops))∧(∀o w',m'= .ended o w'→∀m,stepT P m=(.ended o w',ops)→m=crowd gs' (w.at d) m.rest.slice→Q m o w' (t'++ops))):Ends P Q (crowd gs w sl) t:=by
 have key:∀n gs' d sl' t' q',sumTo gs'.size q'=n→gs'[0]? =some g→Lone P gs' (w.at d) t' q' M→gs'.size=gs.size→Ends P Q (crowd gs' (w.at d) sl') t':=by
  intro n
  induction n using Nat.strongRecOn with
  |ind n ih=>
   intro gs' d sl' t' q' hn h0' hL' hsz
   have haw:∀x∈gs',awake x:=by
    intro x hx
    obtain⟨i,hi,rfl⟩:=Array.mem_iff_getElem.1 hx
    rcases Nat.eq_zero_or_pos i with rfl|hpos
    ·have:gs'[0]=g:=by simpa [Array.getElem?_eq_getElem hi] using h0'
     rw [this];exact awake_of (.inl hs)
    ·exact awake_of ((hL'.leavers.old i _ hpos (Array.getElem?_eq_getElem hi)).status.elim .inl fun x=> .inr (.inr x))
   obtain⟨i,x,d',sl2,hi,hx,hst⟩:=crowd_pick (P:=P) (w:=w.at d) (sl:=sl') haw ⟨0,g,h0',hs⟩
   rcases Nat.eq_zero_or_pos i with rfl|hpos
   ·cases hr:runT P (crowd gs' ((w.at d).at d') sl2) 0 with
    |mk m' ops=>
     have hm:=hmain gs' d sl2 t' q' h0' hL' hsz d' m' ops hr
     rw [hr] at hst
     cases m' with
     |next m''=>exact Ends.next hst (hm.1 _ rfl)
     |ended o w'=>exact Ends.last hst (hm.2 _ _ rfl _ hst rfl)
   ·have hq:=hL'.leavers.old i x hpos hi
    have hi0:(i==0)=false:=by simp;omega
    have hlt:i<gs'.size:=(Array.getElem?_eq_some_iff.1 hi).1
    cases hqi:q' i with
    |zero=>rw [hqi] at hq;rw [hq.1] at hx;cases hx
    |succ k=>
     rw [hqi] at hq
     rcases hq with⟨hf,_⟩|⟨_,x',es,hm,hstp,hq'⟩
     ·rw [hf] at hx;cases hx
     have hrunT:=runT_crowd_go (P:=P) (sl:=sl2) (i:=i) hi (by rw [hi0];exact hstp ((w.at d).at d'))
     have hsz':((gs'.map (woken P x x' ((w.at d).at d'))).setIfInBounds i x').size=gs'.size:=by simp
     have hsum:sumTo gs'.size (upd q' i k)+(k+1)=sumTo gs'.size q'+k:=by
      have:=sumTo_upd q' k id hlt
      simpa [hqi] using this
     rw [hrunT] at hst
     refine Ends.next hst<|ih (sumTo gs'.size (upd q' i k)) O ((gs'.map (woken P x x' ((w.at d).at d'))).setIfInBounds i x') d' sl2 _ (upd q' i k) (by rw [hsz']) ?_ ⟨⟨fun j y hj hy=>?_,fun j hj=>?_⟩, ?_, ?_, ?_,fun k g hk=>?_⟩ (hsz'.trans hsz)
     ·have hne:i≠0:=O
      rw [Array.getElem?_setIfInBounds_ne hne,Array.getElem?_map,h0']
      simp [woken_run hs]
     ·by_cases hji:i=j
      ·subst hji
       rw [Array.getElem?_setIfInBounds_self_of_lt (by simpa using hlt)] at hy
       obtain rfl:=Option.some.inj hy
       rw [upd_same,Deaf_own]
       exact hq'
      ·rw [Array.getElem?_setIfInBounds_ne hji,Array.getElem?_map] at hy
       obtain⟨z,hz,rfl⟩:=Option.map_eq_some_iff.1 hy
       have hqj:=hL'.leavers.old j z hj hz
       rw [woken_quitsD hqj,upd_ne q' k (Ne.symm hji),Deaf_other t' hji _ (fun op hop=>by obtain⟨e,_,rfl⟩:=Go.Conc.mem_ofEvents hop;rfl)]
       exact hqj
     ·rw [hsz'] at hj
      rw [Deaf_other t' (g:=j) (g':=i) O _ (fun op hop=>by obtain⟨e,_,rfl⟩:=Go.Conc.mem_ofEvents hop;rfl)]
      exact hL'.leavers.above j hj
     ·exact(hL'.safe.mute (i:=i) (fun op hop=>by obtain⟨e,_,rfl⟩:=Go.Conc.mem_ofEvents hop;rfl) (fun op hop=>by obtain⟨e,he,rfl⟩:=Go.Conc.mem_ofEvents hop;exact touch_mute (hm e he)) (fun op hop=>by obtain⟨e,he,rfl⟩:=Go.Conc.mem_ofEvents hop;exact low_mute (hm e he) _)).at d'
     ·exact handedOver_app hL'.over fun op hop=> .inr (by obtain⟨e,he,rfl⟩:=Go.Conc.mem_ofEvents hop;exact touch_mute (hm e he))
     ·rw [Deaf_other t' (g:=0) (g':=i) O _ (fun op hop=>by obtain⟨e,_,rfl⟩:=Go.Conc.mem_ofEvents hop;rfl)]
      exact hL'.hears
     ·rw [hsz']
      rcases g?_new hk with h|⟨op,hop,h⟩
      ·exact hL'.gsb _ _ h
      ·obtain⟨_,_,rfl⟩:=Go.Conc.mem_ofEvents hop
       simp only at h;omega
 have e:w.at w.drawn=w:=rfl
 have:=key _ gs w.drawn sl t q rfl h0 (by rw [e];exact hL) rfl
 rwa [e] at this
theorem Lone.own{gs:Array Goroutine}{w:World}{t:Trace}{q:Nat→Nat}{M M':Mem}{g g':Goroutine}{es:Array Event}(hL:Lone P gs w t q M)(h:Good M w w' es M')(h0:gs[0]? =some g):
  Lone P ((gs.map (woken P g g' w')).setIfInBounds 0 g') w' (t++MemOp.ofEvents 0 g.frame.fn g.frame.place es) q M':=by
 have hS:=Safe.own (fn:=g.frame.fn) (pos:=g.frame.place) (i:=0) hL.safe (M':=M') (es:=es) (w':=w') (by
  have:onlyM M 0=M:=rfl
  rw [this];exact h)
 rw [setM_onlyM] at hS
 refine⟨⟨fun j x hj hx=>?_,fun j hj=>?_⟩,hS, ?_, ?_,fun k g hk=>?_⟩
 ·have hne:0≠j:=O
  rw [Array.getElem?_setIfInBounds_ne hne,Array.getElem?_map] at hx
  obtain⟨y,hy,rfl⟩:=Option.map_eq_some_iff.1 hx
  have hq:=hL.leavers.old j y hj hy
  rw [woken_quitsD hq,Deaf_other t O _ (fun op hop=>by obtain⟨e,_,rfl⟩:=Go.Conc.mem_ofEvents hop;rfl)]
  exact hq
 ·have hlt:0<gs.size:=(Array.getElem?_eq_some_iff.1 h0).1
  rw [Deaf_other t (g':=0) (by simp at hj;omega) _ (fun op hop=>by obtain⟨e,_,rfl⟩:=Go.Conc.mem_ofEvents hop;rfl)]
  exact hL.leavers.above j (by simpa using hj)
 ·exact handedOver_app hL.over fun op hop=> .inl (by obtain⟨e,_,rfl⟩:=Go.Conc.mem_ofEvents hop;rfl)
 ·rw [Deaf_own,deafBehind_still (fun e he=>ev_still (h.evs e he).1)]
  exact hL.hears
 ·have hlt:0<gs.size:=(Array.getElem?_eq_some_iff.1 h0).1
  rw [show((gs.map (woken P _ g' w')).setIfInBounds 0 g').size=gs.size by simp]
  rcases g?_new hk with h|⟨op,hop,h⟩
  ·exact hL.gsb _ _ h
  ·obtain⟨_,_,rfl⟩:=Go.Conc.mem_ofEvents hop
   simp only at h;omega
theorem JM.closed:Closed P true (JM P Q) where
 step g M hs h:=by
  intro gs w sl t q h0 hL
  refine lone_step (Q:=KQ Q w) h0 hs hL fun gs' d sl' t' q' h0' hL' hsz d' m' ops hr=>?_
  have hsat:Sat M ((w.at d).at d'):=(hL'.safe.sat 0).at d'
  obtain⟨g',w',es,M',h1,h2,h3⟩:=h ((w.at d).at d') hsat
  have hrunT:=runT_crowd_go (P:=P) (sl:=sl') (i:=0) h0' (show stepG P (0==0) g ((w.at d).at d')=_ from h1)
  rw [hrunT] at hr
  cases hr
  refine⟨fun m'' e=>?_,fun o w' e=>by cases e⟩
  cases e
  have hlt:0<gs'.size:=(Array.getElem?_eq_some_iff.1 h0').1
  rw [←SameOut.kq (w:=w) (w':=w') ⟨h2.os,h2.out⟩ Q]
  exact h3 _ _ _ _ q' (by simp [hlt]) (Lone.own (w:=(w.at d).at d') ⟨hL'.leavers,hL'.safe.at d',hL'.over,hL'.hears,hL'.gsb⟩ h2 h0')
 ghost g M h:=by
  intro gs w sl t q h0 hL
  obtain⟨M',h1,h2⟩:=h w (hL.safe.sat 0)
  refine h2 gs w sl t q h0 ⟨hL.leavers, ?_,hL.over,hL.hears,hL.gsb⟩
  have hS:=Safe.own (fn:=g.frame.fn) (pos:=g.frame.place) (i:=0) hL.safe (M':=M') (es:= #[]) (w':=w) h1
  rw [setM_onlyM] at hS
  have e:t++MemOp.ofEvents 0 g.frame.fn g.frame.place #[]=t:=by
   rw [ofEvents_eq];simp
  rwa [e] at hS
theorem JM.last{Post:Value→World→Prop}(hs:g.status= .running)(h:∀w,Sat M w→∃v w' es M',stepG P true g w= .ended (.done v) w' es∧Good M w w' es M'∧Post v w'):JM P (Go.Conc.Good P Post) g M:=by
 intro gs w sl t q h0 hL
 refine lone_step (Q:=KQ _ w) h0 hs hL fun gs' d sl' t' q' h0' hL' hsz d' m' ops hr=>?_
 have hsat:Sat M ((w.at d).at d'):=(hL'.safe.sat 0).at d'
 obtain⟨v,w1,es,M',h1,hG,h3⟩:=h ((w.at d).at d') hsat
 have hrunT:=runT_many_ended (P:=P) (sl:=sl') (i:=0) h0' (show stepG P (0==0) g ((w.at d).at d')=_ from h1)
 rw [hrunT] at hr
 cases hr
 refine⟨fun m'' e=>(nomatch e),fun o w' e m hm em=>?_⟩
 cases e
 have hS:=Safe.own (fn:=g.frame.fn) (pos:=g.frame.place) (i:=0) (hL'.safe.at d') (M':=M') (es:=es) (w':=w1) hG
 refine⟨⟨v,rfl,h3,hS.clean,handedOver_app hL'.over fun op hop=> .inl (by obtain⟨e,_,rfl⟩:=Go.Conc.mem_ofEvents hop;rfl),⟨fun x hx=>?_,by rw [em];rfl⟩,fun j x hx hj=>?_⟩,hG.os,hG.out⟩
 ·obtain⟨j,hj⟩:=List.mem_iff_getElem?.1 hx
  rw [List.getElem?_drop] at hj
  rw [em] at hj
  exact⟨_,(hL'.leavers.old (1+j) x O (by simpa [crowd] using hj)).leaves⟩
 ·rw [em] at hx
  have hq:=hL'.leavers.old j x O hx
  refine⟨q' j, ?_⟩
  have e:(t'++MemOp.ofEvents 0 g.frame.fn g.frame.place es).deaf j (t'++MemOp.ofEvents 0 g.frame.fn g.frame.place es).size=Deaf t' j:=
   Deaf_other t' (g:=j) (g':=0) O _ (fun op hop=>by obtain⟨e,_,rfl⟩:=Go.Conc.mem_ofEvents hop;rfl)
  rw [e]
  exact hq.hears _
theorem JM.start(h:JM P Q g ⟨fun b=>w.heap[b]?, []⟩):Ends P (KQ Q w) (solo g w) #[]:=by
 rw [solo_eq_crowd]
 refine h _ _ _ _ (fun _=>0) U ⟨leavers_one P g,⟨fun i=>?_,fun i j _ b hb=>?_,fun i=>⟨fun b _ k x hx=>?_,fun b _ k x hx=>?_⟩,fun said=>?_,by simp,fun k x hx=>?_⟩,past_nil.over,past_nil.hears,fun k g hk=>(by simp [Trace.g?] at hk)⟩
 ·by_cases e:i=0
  ·subst e;exact⟨fun _ _ h=>h,by simp [onlyM,setM],by simp [onlyM,setM,Mem.ids],by simp [onlyM,setM,Mem.ids]⟩
  ·have:onlyM ⟨fun b=>w.heap[b]?, []⟩ i=noMem:=by simp [onlyM,setM,e]
   rw [this]
   exact⟨by simp [noMem],by simp [noMem],by simp [noMem,Mem.ids],by simp [noMem,Mem.ids]⟩
 ·exfalso
  simp only [onlyM,setM] at hb
  split at hb<;>simp [Mem.ids,noMem] at hb
 ·simp [touchAt,Trace.act?] at hx
 ·simp [touchAt,Trace.act?] at hx
 ·exact past_nil.clean said
 ·simp [touchAt,Trace.act?] at hx
end
end Go.Lg
namespace Go.Lg
open Go Go.Conc
variable {i:Nat}{ro:RO}
inductive Rk where
 |stop
 |step (f:World→Rk)
 |ghost (f:World→Rk)
def T(I:World→Prop)(P:Program)(main:Bool)(Stop:Goroutine→Mem→Prop):Rk→Goroutine→Mem→Prop
 | .stop,g,M=>Stop g M
 | .step f,g,M=>g.status= .running∧∀w,Sat M w→I w→∃g' w' es M',stepG P main g w= .go g' w' es∧Good M w w' es M'∧T I P main Stop (f w) g' M'
 | .ghost f,g,M=>∀w,Sat M w→I w→∃M',Good M w w #[] M'∧T I P main Stop (f w) g M'
def Tr(I:World→Prop)(P:Program)(main:Bool)(Stop:Goroutine→Mem→Prop)(g:Goroutine)(M:Mem):Prop:= ∃r,T I P main Stop r g M
section
variable {I:World→Prop}{P:Program}{main:Bool}{Stop Stop':Goroutine→Mem→Prop}{g:Goroutine}{M:Mem}
theorem Tr.stepI(hs:g.status= .running)(h:∀w,Sat M w→I w→∃g' w' es M',stepG P main g w= .go g' w' es∧Good M w w' es M'∧Tr I P main Stop g' M'):Tr I P main Stop g M:=by
 have h':∀w,∃r,Sat M w→I w→∃g' w' es M',stepG P main g w= .go g' w' es∧Good M w w' es M'∧T I P main Stop r g' M':=fun w=>
  Classical.byCases (fun hw:Sat M w∧I w=>let⟨g',w',es,M',h1,h2,r,h3⟩:=h w hw.1 hw.2;⟨r,fun _ _=>⟨g',w',es,M',h1,h2,h3⟩⟩) (fun hn=>⟨.stop,fun hw hi=>absurd ⟨hw,hi⟩ hn⟩)
 exact⟨.step fun w=>Classical.choose (h' w),hs,fun w hw hi=>Classical.choose_spec (h' w) hw hi⟩
theorem Tr.closed:Closed P main (Tr I P main Stop) where
 step g M hs h:=Tr.stepI hs fun w hw _=>h w hw
 ghost g M h:=by
  have h':∀w,∃r,Sat M w→∃M',Good M w w #[] M'∧T I P main Stop r g M':=fun w=>
   Classical.byCases (fun hw:Sat M w=>let⟨M',h2,r,h3⟩:=h w hw;⟨r,fun _=>⟨M',h2,h3⟩⟩) (fun hn=>⟨.stop,fun hw=>absurd hw hn⟩)
  exact⟨.ghost fun w=>Classical.choose (h' w),fun w hw _=>Classical.choose_spec (h' w) hw⟩
theorem Tr.stop(h:Stop g M):Tr I P main Stop g M:=⟨.stop,h⟩
theorem T.mono(h:∀g M,Stop g M→Stop' g M):∀ {r:Rk} {g:Goroutine} {M:Mem},T I P main Stop r g M→T I P main Stop' r g M
 | .stop,g,M,k=>h g M k
 | .step f,g,M,k=>⟨k.1,fun w hw hi=>let⟨g',w',es,M',h1,h2,h3⟩:=k.2 w hw hi;⟨g',w',es,M',h1,h2,T.mono h h3⟩⟩
 | .ghost f,g,M,k=>fun w hw hi=>let⟨M',h2,h3⟩:=k w hw hi;⟨M',h2,T.mono h h3⟩
theorem Tr.mono(h:∀g M,Stop g M→Stop' g M)(k:Tr I P main Stop g M):Tr I P main Stop' g M:=let⟨r,k⟩:=k;⟨r,T.mono h k⟩
end
theorem noRace_mute{said:Bool}{t u:Trace}(h:¬Race said t)(hn:∀op∈u,op.act.touch? =none):¬Race said (t++u):=by
 rintro⟨i,j,hij,⟨a,b,ha,hb,hc⟩,n1,n2⟩
 have old:∀ {k:Nat} {x:Touch},((t++u).act? k).bind (·.touch?)=some x→(t.act? k).bind (·.touch?)=some x:=by
  intro k x hx
  obtain⟨op,ho,hox⟩:=touch_of hx
  rcases getElem?_append_cases ho with⟨_,ho'⟩|⟨_,hou⟩
  ·simp [Trace.act?,ho',hox]
  ·rw [hn op hou] at hox;cases hox
 exact h ⟨i,j,hij,⟨a,b,old ha,old hb,hc⟩,fun e=>n1 (hb_app u e),fun e=>n2 (hb_app u e)⟩
section
variable {w w':World}{t u:Trace}{Ms:Nat→Mem}{B:Nat}
theorem Safe.shared(S:Safe w t Ms)(ht:∀op∈u,∀x,op.act.touch? =some x→blockOf x.loc=some B∧x.kind≠ .plain)(hB:∀j,B∉ (Ms j).ids∧(Ms j).ro B=none)
  (hw:∀b,b≠B→w'.heap[b]? =w.heap[b]?) (hsz:w'.heap.size=w.heap.size) (hlow:∀op∈u,LowT w.heap.size op.act) (hc:∀said,¬Race said (t++u)):Safe w' (t++u) Ms:=by
 refine⟨fun j=>?_,S.apart,fun j=>⟨fun b hb k x hx hbx=>?_,fun b hb k x hx hbx hw=>?_⟩,hc,fun op hop=>?_,fun k x hx hp b hb j=>?_⟩
 ·have Sj:=S.sat j
  refine⟨fun b o hb=>?_,fun b o hb=>?_,Sj.nodup,Sj.apart⟩
  ·rw [hw b fun e=>by subst e;rw [(hB j).2] at hb;cases hb];exact Sj.ro b o hb
  ·rw [hw b fun e=>by subst e;exact(hB j).1 (List.mem_map.2 ⟨_,hb,rfl⟩)];exact Sj.own b o hb
 ·rcases touchAt_app hx with h1|⟨op,hop,_,hox⟩
  ·exact((S.kn j).own b hb k x h1 hbx).app _
  ·have:=(ht op hop x hox).1
   rw [this] at hbx;cases hbx
   exact absurd hb (hB j).1
 ·rcases touchAt_app hx with h1|⟨op,hop,_,hox⟩
  ·exact((S.kn j).ro b hb k x h1 hbx hw).app _
  ·have:=(ht op hop x hox).1
   rw [this] at hbx;cases hbx
   rw [(hB j).2] at hb;cases hb
 ·rw [hsz]
  exact(Array.mem_append.1 hop).elim (S.seen op) (hlow op)
 ·rcases touchAt_app hx with h1|⟨op,hop,_,hox⟩
  ·exact S.quiet k x h1 hp b hb j
  ·have:=(ht op hop x hox).1
   rw [this] at hb;cases hb
   exact hB j
theorem Safe.still(S:Safe w t Ms)(hn:∀op∈u,op.act.touch? =none):Safe w (t++u) Ms:=by
 refine⟨S.sat,S.apart,fun j=>⟨fun b hb k x hx hbx=>?_,fun b hb k x hx hbx hw=>?_⟩,fun said=>noRace_mute (S.clean said) hn,fun op hop=>(Array.mem_append.1 hop).elim (S.seen op) (fun h=> .none (hn op h)),fun k x hx hp b hb j=>?_⟩
 all_goals
  rcases touchAt_app hx with h1|⟨op,hop,_,hox⟩
  ·first|exact((S.kn j).own b hb k x h1 hbx).app _|exact((S.kn j).ro b hb k x h1 hbx hw).app _|exact S.quiet k x h1 hp b hb j
  ·rw [hn op hop] at hox;cases hox
theorem Safe.split(S:Safe w t Ms){j:Nat}(hij:i≠j){c o:List (Nat×Obj)}(hi:Ms i=⟨ro,c++o⟩)(hj:Ms j=noMem)(hk:∀k,Kw t i k→Kw t j k):Safe w t (setM (setM Ms i ⟨ro,o⟩) j ⟨ro,c⟩):=by
 have Si:=S.sat i
 rw [hi] at Si
 have hids:Mem.ids ⟨ro,c++o⟩=Mem.ids ⟨ro,c⟩++Mem.ids ⟨ro,o⟩:=by simp [Mem.ids]
 have hnd:=Si.nodup
 rw [hids] at hnd
 have hic:∀b,b∈Mem.ids ⟨ro,c⟩→b∈Mem.ids ⟨ro,c++o⟩:=fun b hb=>by rw [hids];exact List.mem_append.2 (.inl hb)
 have hio:∀b,b∈Mem.ids ⟨ro,o⟩→b∈Mem.ids ⟨ro,c++o⟩:=fun b hb=>by rw [hids];exact List.mem_append.2 (.inr hb)
 have hco:∀b,b∈Mem.ids ⟨ro,c⟩→b∉Mem.ids ⟨ro,o⟩:=fun b h1 h2=>(List.nodup_append.1 hnd).2.2 b h1 b h2 rfl
 have get:∀k,(k=j∧setM (setM Ms i ⟨ro,o⟩) j ⟨ro,c⟩ k=⟨ro,c⟩)∨(k=i∧k≠j∧setM (setM Ms i ⟨ro,o⟩) j ⟨ro,c⟩ k=⟨ro,o⟩)∨(k≠i∧k≠j∧setM (setM Ms i ⟨ro,o⟩) j ⟨ro,c⟩ k=Ms k):=by
  intro k
  by_cases e:k=j
  ·exact .inl ⟨e,by rw [e,setM_same]⟩
  ·by_cases e2:k=i
   ·exact .inr (.inl ⟨e2,e,by rw [setM_ne _ _ e,e2,setM_same]⟩)
   ·exact .inr (.inr ⟨e2,e,by rw [setM_ne _ _ e,setM_ne _ _ e2]⟩)
 have sub:∀k,(∀b∈(setM (setM Ms i ⟨ro,o⟩) j ⟨ro,c⟩ k).ids,b∈(Ms (if k=j then i else k)).ids)∧(∀b,(setM (setM Ms i ⟨ro,o⟩) j ⟨ro,c⟩ k).ro b=(Ms (if k=j then i else k)).ro b):=by
  intro k
  rcases get k with⟨e,h⟩|⟨e,e2,h⟩|⟨e,e2,h⟩
  ·rw [h,if_pos e,hi];exact⟨hic,fun _=>rfl⟩
  ·rw [h,if_neg e2,e,hi];exact⟨hio,fun _=>rfl⟩
  ·rw [h,if_neg e2];exact⟨fun _ h=>h,fun _=>rfl⟩
 refine⟨fun k=>?_,fun k l hkl b hb=>?_,fun k=>?_,S.clean,S.seen,fun k x hx hp b hb l=>?_⟩
 ·rcases get k with⟨_,h⟩|⟨_,_,h⟩|⟨_,_,h⟩<;>rw [h]
  ·exact⟨Si.ro,fun b x hb=>Si.own b x (List.mem_append.2 (.inl hb)),(List.nodup_append.1 hnd).1,fun b hb=>Si.apart b (hic b hb)⟩
  ·exact⟨Si.ro,fun b x hb=>Si.own b x (List.mem_append.2 (.inr hb)),(List.nodup_append.1 hnd).2.1,fun b hb=>Si.apart b (hio b hb)⟩
  ·exact S.sat k
 ·rcases get k with⟨e,h⟩|⟨e,e2,h⟩|⟨e,e2,h⟩<;>rw [h] at hb<;>rcases get l with⟨f,h'⟩|⟨f,f2,h'⟩|⟨f,f2,h'⟩<;>rw [h']
  ·exact absurd (e.trans f.symm) hkl
  ·exact⟨hco b hb,Si.apart b (hic b hb)⟩
  ·have:=S.apart i l (fun x=>f x.symm) b (by rw [hi];exact hic b hb);exact this
  ·exact⟨fun hc=>hco b hc hb,Si.apart b (hio b hb)⟩
  ·exact absurd (e.trans f.symm) hkl
  ·have:=S.apart i l (fun x=>f x.symm) b (by rw [hi];exact hio b hb);exact this
  ·have:=S.apart k i e b hb;rw [hi] at this;exact⟨fun hc=>this.1 (hic b hc),this.2⟩
  ·have:=S.apart k i e b hb;rw [hi] at this;exact⟨fun hc=>this.1 (hio b hc),this.2⟩
  ·exact S.apart k l hkl b hb
 ·rcases get k with⟨e,h⟩|⟨e,e2,h⟩|⟨e,e2,h⟩<;>rw [h]
  ·have hK:=S.kn i
   rw [hi] at hK
   rw [e]
   exact⟨fun b hb m x h1 h2=>hk m (hK.own b (hic b hb) m x h1 h2),fun b hb m x h1 h2 h3=>hk m (hK.ro b hb m x h1 h2 h3)⟩
  ·have hK:=S.kn i
   rw [hi] at hK
   rw [e]
   exact⟨fun b hb m x h1 h2=>hK.own b (hio b hb) m x h1 h2,hK.ro⟩
  ·exact S.kn k
 ·have hq:=S.quiet k x hx hp b hb (if l=j then i else l)
  have hs:=sub l
  exact⟨fun hc=>hq.1 (hs.1 b hc),by rw [hs.2 b];exact hq.2⟩
theorem Safe.less(S:Safe w t Ms){own own':List (Nat×Obj)}(hi:Ms i=⟨ro,own⟩)(hs:own'.Sublist own):Safe w t (setM Ms i ⟨ro,own'⟩):=by
 have hS:=Safe.own (fn:=0) (pos:= "") (i:=i) (es:= #[]) S (M':=⟨ro,own'⟩) (w':=w) (by rw [hi];exact Weak.sub hs w (by rw [←hi];exact S.sat i))
 have e:t++MemOp.ofEvents i 0 "" #[]=t:=by rw [ofEvents_eq];simp
 rwa [e] at hS
end
end Go.Lg
namespace Go.Lg
open Go Go.Conc
open Go.ConcR (KK WgAt stA smA rd wr mk Payload)
open Go.ConcN (RW WgLive WSit CTag Mode)
abbrev NoL:Nat→Loc→Prop:=fun _ _=>False
inductive Wr where
 |fin
 |step (f:World→Wr)
 |ghost (f:World→Wr)
 |send (r:Wr)
 |wait (r:Wr)
inductive WK where
 |tree (r:Wr)
 |late (s m:Nat)
def WK.stage:WK→Nat
 | .tree _=>7
 | .late s _=>s
inductive WrLt:Wr→Wr→Prop
 |step {f:World→Wr} (w:World):WrLt (f w) (.step f)
 |ghost {f:World→Wr} {r:Wr} (w:World):WrLt r (f w)→WrLt r (.ghost f)
 |ghost0 {f:World→Wr} (w:World):WrLt (f w) (.ghost f)
 |send {r:Wr}:WrLt r (.send r)
 |park {r:Wr}:WrLt (.wait r) (.send r)
 |wait {r:Wr}:WrLt r (.wait r)
theorem wr_acc:∀r,Acc WrLt r
 | .fin=>⟨_,fun _ h=>nomatch h⟩
 | .step f=>⟨_,fun _ h=>by cases h with|step w=>exact wr_acc (f w)⟩
 | .ghost f=>⟨_,fun _ h=>by
  cases h with
  |ghost w h=>exact(wr_acc (f w)).inv h
  |ghost0 w=>exact wr_acc (f w)⟩
 | .wait r=>⟨_,fun _ h=>by cases h with|wait=>exact wr_acc r⟩
 | .send r=>⟨_,fun _ h=>by
  cases h with
  |send=>exact wr_acc r
  |park=>exact⟨_,fun _ h=>by cases h with|wait=>exact wr_acc r⟩⟩
inductive WkLt:WK→WK→Prop
 |tree {r r':Wr}:WrLt r r'→WkLt (.tree r) (.tree r')
 |leave {s m:Nat} {r:Wr}:WkLt (.late s m) (.tree r)
 |stage {s s' m m':Nat}:s<s'→WkLt (.late s m) (.late s' m')
 |fuel {s m m':Nat}:m<m'→WkLt (.late s m) (.late s m')
theorem wk_acc_late:∀s m,Acc WkLt (.late s m):=by
 intro s
 induction s using Nat.strongRecOn with
 |ind s ihs=>
  intro m
  induction m using Nat.strongRecOn with
  |ind m ihm=>
   refine⟨_,fun x h=>?_⟩
   cases h with
   |stage h=>exact ihs _ h _
   |fuel h=>exact ihm _ h
theorem wk_acc:∀x,Acc WkLt x
 | .late s m=>wk_acc_late s m
 | .tree r=>by
  have:=wr_acc r
  induction this with
  |intro r _ ih=>
   refine⟨_,fun x h=>?_⟩
   cases h with
   |tree h=>exact ih _ h
   |leave=>exact wk_acc_late _ _
def updK(D:Nat→WK)(i:Nat)(x:WK):Nat→WK:=fun a=>if a=i then x else D a
theorem updK_same(D:Nat→WK)(i:Nat)(x:WK):updK D i x i=x:=by simp [updK]
theorem updK_ne(D:Nat→WK){i a:Nat}(x:WK)(h:a≠i):updK D i x a=D a:=by simp [updK,h]
def VLt(n:Nat)(D' D:Nat→WK):Prop:= ∃i x,i<n∧WkLt x (D i)∧D'=updK D i x
theorem v_acc:∀ (n:Nat) (D:Nat→WK),Acc (VLt n) D:=by
 intro n
 induction n with
 |zero=>exact fun D=>⟨_,fun _ ⟨_,_,h,_⟩=>absurd h O⟩
 |succ n ih=>
  have key:∀x,Acc WkLt x→∀D:Nat→WK,D n=x→Acc (VLt (n+1)) D:=by
   intro x hx
   induction hx with
   |intro x _ ihx=>
    intro D hD
    have hD':=ih D
    induction hD' with
    |intro D _ ihD=>
     refine⟨_,fun D' h=>?_⟩
     obtain⟨i,y,hi,hy,rfl⟩:=h
     by_cases e:i=n
     ·subst e
      exact ihx y (hD▸hy) _ (updK_same _ _ _)
     ·exact ihD _ ⟨i,y,O,hy,rfl⟩ (by rw [updK_ne _ _ (Ne.symm e)];exact hD)
  exact fun D=>key _ (wk_acc _) D rfl
inductive RkLt:Rk→Rk→Prop
 |step {f:World→Rk} (w:World):RkLt (f w) (.step f)
 |ghost {f:World→Rk} {r:Rk} (w:World):RkLt r (f w)→RkLt r (.ghost f)
 |ghost0 {f:World→Rk} (w:World):RkLt (f w) (.ghost f)
theorem rk_acc:∀r,Acc RkLt r
 | .stop=>⟨_,fun _ h=>nomatch h⟩
 | .step f=>⟨_,fun _ h=>by cases h with|step w=>exact rk_acc (f w)⟩
 | .ghost f=>⟨_,fun _ h=>by
  cases h with
  |ghost w h=>exact(rk_acc (f w)).inv h
  |ghost0 w=>exact rk_acc (f w)⟩
abbrev Mu:=Nat×(Nat→WK)×Nat×Rk×Rk×Nat×Nat
def MuLt(n:Nat):Mu→Mu→Prop:=Prod.Lex (· < ·) (Prod.Lex (VLt n) (Prod.Lex (· < ·) (Prod.Lex RkLt (Prod.Lex RkLt (Prod.Lex (· < ·) (· < ·))))))
theorem lexW{α β:Type}{r:α→α→Prop}{s:β→β→Prop}(h:WellFounded r)(k:WellFounded s):WellFounded (Prod.Lex r s):=(Prod.lex ⟨r,h⟩ ⟨s,k⟩).wf
theorem mu_wf(n:Nat):WellFounded (MuLt n):=
 have w1:WellFounded (fun a b:Nat=>a<b):=Nat.lt_wfRel.wf
 have w2:WellFounded (VLt n):=⟨v_acc n⟩
 have w3:WellFounded RkLt:=⟨rk_acc⟩
 lexW w1 (lexW w2 (lexW w1 (lexW w3 (lexW w3 (lexW w1 w1)))))
theorem T.move{I:World→Prop}{P:Program}{main:Bool}{Stop:Goroutine→Mem→Prop}:∀ {r:Rk} {g:Goroutine} {M:Mem} {w:World},T I P main Stop r g M→Sat M w→I w→
  (∃M',Good M w w #[] M'∧Stop g M')∨(g.status= .running∧∃g' w' es M' r',stepG P main g w= .go g' w' es∧Good M w w' es M'∧T I P main Stop r' g' M'∧RkLt r' r)
 | .stop,g,M,w,h,hs,_=> .inl ⟨M,Good.refl hs,h⟩
 | .step f,g,M,w,h,hs,hi=>by
  obtain⟨h0,h⟩:=h
  obtain⟨g',w',es,M',h1,h2,h3⟩:=h w hs hi
  exact .inr ⟨h0,g',w',es,M',f w,h1,h2,h3, .step w⟩
 | .ghost f,g,M,w,h,hs,hi=>by
  obtain⟨M',h1,h2⟩:=h w hs hi
  rcases T.move h2 h1.sat hi with⟨M₂,k1,k2⟩|⟨k0,g',w',es,M₂,r',k1,k2,k3,k4⟩
  ·have:=h1.trans k1
   rw [Array.empty_append] at this
   exact .inl ⟨M₂,this,k2⟩
  ·have:=h1.trans k2
   rw [Array.empty_append] at this
   exact .inr ⟨k0,g',w',es,M₂,r',k1,this,k3, .ghost w k4⟩
variable [Payload]
section
variable (P:Program)(ty:TypeId)(Wg Ch:Nat)
def WT(ok:List Value→RO→Prop):Wr→List Value→Goroutine→Mem→Prop
 | .fin,sent,g,M=>ok sent M.ro∧∃C v cs m,M.own= [(C, .cells cs Payload.ety)]∧∀w,Sat M w→WgLive ty Wg w→WSit P ty Wg C cs.size NoL NoL 0 1 v 7 m 0 g w
 | .step f,sent,g,M=>g.status= .running∧∀w,Sat M w→∃g' w' es M',stepG P false g w= .go g' w' es∧Good M w w' es M'∧WT ok (f w) sent g' M'
 | .ghost f,sent,g,M=>∀w,Sat M w→∃M',Good M w w #[] M'∧WT ok (f w) sent g M'
 | .send r,sent,g,M=>g.status= .running∧sent= []∧∃v z,oneCell v=true∧(∀w,stepG P false g w= .comm g #[scase Ch v z] true .send w #[])∧WT ok r (sent++ [v]) (Go.Conc.served g undef) M
 | .wait _,_,_,_=>False
def Say(I:World→Prop)(main:Bool)(m:Mark)(Next:Goroutine→Mem→Prop)(g:Goroutine)(M:Mem):Prop:=
 g.status= .running∧∃g',(∀w,stepG P main g w= .go g' w #[mk m])∧Tr I P main Next g' M
def AtCl(g:Goroutine)(_M:Mem):Prop:=
 g.status= .running∧mayWake P g=true∧∃g',g'.status= .running∧(∀w s r tm,w.heap[Ch]? =some (.chan 0 #[] false s r tm)→stepG P false g w= .go g' {w with heap:=w.heap.setIfInBounds Ch (.chan 0 #[] true s r tm) } #[⟨.obj Ch,false,true⟩,⟨.obj Ch,true,true⟩])∧∃q,QuitsD P q 0 g'
def AtAq:Goroutine→Mem→Prop:=Say P (WgLive ty Wg) false (.acquire (stA Wg)) (AtCl P Ch)
def AtKe:Goroutine→Mem→Prop:=Say P (WgLive ty Wg) false .enable (AtAq P ty Wg Ch)
def AtW4(g:Goroutine)(M:Mem):Prop:=
 g.status= .running∧∃g',(∀w,WgAt ty Wg w 0 0→stepG P false g w= .go g' w #[rd (stA Wg)])∧Tr (WgLive ty Wg) P false (AtKe P ty Wg Ch) g' M
def AtW3(g:Goroutine)(M:Mem):Prop:=
 g.status= .running∧g.offers=none∧(∀w st,WgAt ty Wg w st 0→stepG P false g w= .go {g with status:= .blocked} w #[])∧
  ∃g',(∀w,WgAt ty Wg w 0 1→stepG P false g w= .go g' (w.setCell (smA Wg) (.int .u32 0)) (semEvents (smA Wg)))∧Tr (WgLive ty Wg) P false (AtW4 P ty Wg Ch) g' M
def AtWr:Goroutine→Mem→Prop:=Say P (WgLive ty Wg) false (.write (smA Wg)) (AtW3 P ty Wg Ch)
variable (Anch:Goroutine→Mem→Prop)
def AtW2(vs:Nat)(g:Goroutine)(M:Mem):Prop:=
 g.status= .running∧(∃g',(∀w,WgAt ty Wg w (vs*KK) 0→stepG P false g w= .go g' (w.setCell (stA Wg) (.int .u64 (vs*KK+1))) #[rd (stA Wg),wr (stA Wg)])∧Tr (WgLive ty Wg) P false (AtWr P ty Wg Ch) g' M)∧
  (∀v:Nat,v<2147483648→v≠vs→∃g',(∀w,WgAt ty Wg w (v*KK) 0→stepG P false g w= .go g' w #[rd (stA Wg)])∧Tr (WgLive ty Wg) P false Anch g' M)
def AtW1(g:Goroutine)(M:Mem):Prop:=
 g.status= .running∧∀v:Nat,v<2147483648→∃g',(∀w,WgAt ty Wg w (v*KK) 0→stepG P false g w= .go g' w #[rd (stA Wg)])∧(v=0→Tr (WgLive ty Wg) P false (AtKe P ty Wg Ch) g' M)∧(v≠0→Tr (WgLive ty Wg) P false (AtW2 P ty Wg Ch Anch v) g' M)
def AtKd:Goroutine→Mem→Prop:=Say P (WgLive ty Wg) false .disable Anch
variable (ok:Nat→List Value→RO→Prop)(At:List Value→Goroutine→Mem→Prop)
def AtGoC(g:Goroutine)(M:Mem):Prop:=
 g.status= .running∧∃g' child ro c o,M=⟨ro,c++o⟩∧(∀w,stepG P true g w= .spawn g' child w #[])∧child.status= .running∧Tr (WgLive ty Wg) P false (AtKd P ty Wg Anch) child ⟨ro,c⟩∧Tr (WgLive ty Wg) P true (At []) g' ⟨ro,o⟩
def AtGo(i:Nat)(Next:Goroutine→Mem→Prop)(g:Goroutine)(M:Mem):Prop:=
 g.status= .running∧∃g' child ro c o,M=⟨ro,c++o⟩∧(∀w,stepG P true g w= .spawn g' child w #[])∧child.status= .running∧(∃r,WT P ty Wg Ch (ok i) r [] child ⟨ro,c⟩)∧Tr (WgLive ty Wg) P true Next g' ⟨ro,o⟩
def AtS3(i:Nat)(Next:Goroutine→Mem→Prop):Goroutine→Mem→Prop:=Say P (WgLive ty Wg) true .enable (AtGo P ty Wg Ch ok i Next)
def AtS4(i:Nat)(Next:Goroutine→Mem→Prop):Goroutine→Mem→Prop:=Say P (WgLive ty Wg) true (.read (smA Wg)) (AtS3 P ty Wg Ch ok i Next)
def AtS5(i:Nat)(Next:Goroutine→Mem→Prop)(g:Goroutine)(M:Mem):Prop:=
 g.status= .running∧∀v:Nat,v<2147483647→∃g',(∀w,WgAt ty Wg w (v*KK) 0→stepG P true g w= .go g' (w.setCell (stA Wg) (.int .u64 ((v+1)*KK))) #[rd (stA Wg),wr (stA Wg)])∧
  (v=0→Tr (WgLive ty Wg) P true (AtS4 P ty Wg Ch ok i Next) g' M)∧(v≠0→Tr (WgLive ty Wg) P true (AtS3 P ty Wg Ch ok i Next) g' M)
def AtS6(i:Nat)(Next:Goroutine→Mem→Prop):Goroutine→Mem→Prop:=Say P (WgLive ty Wg) true .disable (AtS5 P ty Wg Ch ok i Next)
def Sp(n:Nat):Nat→Goroutine→Mem→Prop
 |0=>AtGoC P ty Wg Anch At
 |r+1=>AtS6 P ty Wg Ch ok (n- (r+1)) (Sp n r)
end
def AllSent(n:Nat)(ok:Nat→List Value→RO→Prop)(rs:List Value)(ro:RO):Prop:=
 ∃S:Nat→List Value,rs.Perm ((List.range n).flatMap S)∧∀i,i<n→ok i (S i) ro
def Recv(P:Program)(ty:TypeId)(Wg Ch n:Nat)(ok:Nat→List Value→RO→Prop)(J:Goroutine→Mem→Prop)(At:List Value→Goroutine→Mem→Prop)(rs:List Value)(g:Goroutine)(M:Mem):Prop:=
 g.status= .running∧∃z,(∀w,stepG P true g w= .comm g #[rcase Ch z] true (.recv true) w #[])∧(∀v,rs.length<n→oneCell v=true→Tr (WgLive ty Wg) P true (At (rs++ [v])) (Go.Conc.served g (.tuple #[v, .bool true])) M)∧
  (∀ro',M.ro.le ro'→AllSent n ok rs ro'→J (Go.Conc.served g (.tuple #[z, .bool false])) ⟨ro',M.own⟩)
end Go.Lg
namespace Go.Lg
open Go Go.Conc
open Go.ConcR (KK WgAt stA smA rd wr mk Payload)
open Go.ConcN (RW WgLive WSit CTag Mode RelBy)
inductive CT where
 |off|kd|anch|w2 (vs:Nat)|wr|w3|blk|w4|ke|aq|cl|gone (d:Nat)
def CT.phi(n v:Nat):CT→Nat
 | .off=>8*n+8| .kd=>8*n+7| .anch=>8*v+6| .w2 vs=>8*vs+4| .wr=>7| .w3=>5| .blk=>5| .w4=>4| .ke=>3| .aq=>2| .cl=>1| .gone _=>0
def CT.tag:CT→CTag
 | .off=> .kd| .kd=> .kd| .anch=> .anch| .w2 vs=> .w2 vs| .wr=> .w3| .w3=> .w3| .blk=> .blk| .w4=> .w4| .ke=> .ke| .aq=> .acq| .cl=> .ret| .gone _=> .ret
def CT.deaf:CT→Nat
 | .off| .kd| .aq| .cl=>0
 | .gone d=>d
 |_=>1
def CT.on:CT→Bool
 | .off=>false
 |_=>true
def CT.acqd:CT→Bool
 | .cl| .gone _=>true
 |_=>false
def CT.closed:CT→Bool
 | .gone _=>true
 |_=>false
inductive MT where
 |sp (r s:Nat)|goc|rng|prk|wok
variable {k:WK}{d q r s:Nat}{g:Goroutine}{M:Mem}{w w':World}{rs sent:List Value}{tm:Bool}{ct:CT}{rk:Rk}{mt:MT}
def MT.num:MT→Nat
 | .sp r s=>10*r+s+10
 | .goc=>5
 |_=>0
def MT.deaf:MT→Nat
 | .sp _ s=>if s=5∨s=4∨s=3 then 1 else 0
 |_=>0
def tagOf(mt:MT)(ct:CT):CTag:=
 match mt with
 | .sp r s=> .sp r (if s≤4 then 3 else 4)
 |_=>ct.tag
def kD(D:Nat→WK):Nat→Go.ConcN.WD:=fun i=>⟨(D i).stage,0,0⟩
variable [Payload]
section
variable (P:Program)(ty:TypeId)(Wg Ch n:Nat)
inductive WSt(ok:List Value→RO→Prop)(w:World):WK→Nat→Goroutine→Mem→List Value→Prop
 |run {r:Wr} {g:Goroutine} {M:Mem} {sent:List Value}:WT P ty Wg Ch ok r sent g M→WSt ok w (.tree r) 0 g M sent
 |park {r:Wr} {g:Goroutine} {M:Mem} {v z:Value} {sent:List Value}:sent= []→oneCell v=true→WT P ty Wg Ch ok r (sent++ [v]) (Go.Conc.served g undef) M→WSt ok w (.tree (.wait r)) 0 (parked g #[scase Ch v z] .send) M sent
 |late {s m d C:Nat} {g:Goroutine} {M:Mem} {v:Value} {cs:Array Value} {sent:List Value}:ok sent M.ro→M.own= [(C, .cells cs Payload.ety)]→s≤7→WSit P ty Wg C cs.size NoL NoL 0 1 v s m d g w→WSt ok w (.late s m) d g M sent
variable (Anch:Goroutine→Mem→Prop)
def CSt(r:Rk)(q:Nat)(g:Goroutine)(M:Mem):CT→Prop
 | .off=>False
 | .kd=>T (WgLive ty Wg) P false (AtKd P ty Wg Anch) r g M
 | .anch=>T (WgLive ty Wg) P false Anch r g M
 | .w2 vs=>T (WgLive ty Wg) P false (AtW2 P ty Wg Ch Anch vs) r g M
 | .wr=>T (WgLive ty Wg) P false (AtWr P ty Wg Ch) r g M
 | .w3=>T (WgLive ty Wg) P false (AtW3 P ty Wg Ch) r g M
 | .blk=>r= .stop∧∃g0,g={g0 with status:= .blocked}∧AtW3 P ty Wg Ch g0 M
 | .w4=>T (WgLive ty Wg) P false (AtW4 P ty Wg Ch) r g M
 | .ke=>T (WgLive ty Wg) P false (AtKe P ty Wg Ch) r g M
 | .aq=>T (WgLive ty Wg) P false (AtAq P ty Wg Ch) r g M
 | .cl=>T (WgLive ty Wg) P false (AtCl P Ch) r g M
 | .gone d=>QuitsD P q d g
variable (ok:Nat→List Value→RO→Prop)(At:List Value→Goroutine→Mem→Prop)
def MSt(rk:Rk)(rs:List Value)(g:Goroutine)(M:Mem):MT→Prop
 | .sp r 6=>T (WgLive ty Wg) P true (AtS6 P ty Wg Ch ok (n- (r+1)) (Sp P ty Wg Ch Anch ok At n r)) rk g M
 | .sp r 5=>T (WgLive ty Wg) P true (AtS5 P ty Wg Ch ok (n- (r+1)) (Sp P ty Wg Ch Anch ok At n r)) rk g M
 | .sp r 4=>T (WgLive ty Wg) P true (AtS4 P ty Wg Ch ok (n- (r+1)) (Sp P ty Wg Ch Anch ok At n r)) rk g M
 | .sp r 3=>T (WgLive ty Wg) P true (AtS3 P ty Wg Ch ok (n- (r+1)) (Sp P ty Wg Ch Anch ok At n r)) rk g M
 | .sp r 2=>T (WgLive ty Wg) P true (AtGo P ty Wg Ch ok (n- (r+1)) (Sp P ty Wg Ch Anch ok At n r)) rk g M
 | .sp _ _=>False
 | .goc=>T (WgLive ty Wg) P true (AtGoC P ty Wg Anch At) rk g M
 | .rng=>T (WgLive ty Wg) P true (At rs) rk g M
 | .prk=>rk= .stop∧∃g0 z,g=parked g0 #[rcase Ch z] (.recv true)∧At rs g0 M∧g0.status= .running∧(∀w,stepG P true g0 w= .comm g0 #[rcase Ch z] true (.recv true) w #[])
 | .wok=>rk= .stop∧∃g0 z,g={parked g0 #[rcase Ch z] (.recv true) with status:= .running}∧At rs g0 M∧g0.status= .running∧(∀w,stepG P true g0 w= .comm g0 #[rcase Ch z] true (.recv true) w #[])
end
section
variable {P:Program}{ty:TypeId}{Wg Ch n:Nat}{Anch:Goroutine→Mem→Prop}{At:List Value→Goroutine→Mem→Prop}{ok:Nat→List Value→RO→Prop}
omit [Payload] in
theorem T.status{I:World→Prop}{main:Bool}{Stop:Goroutine→Mem→Prop}(hS:∀g M,Stop g M→g.status= .running):∀ {r:Rk} {g:Goroutine} {M:Mem} {w:World},T I P main Stop r g M→Sat M w→I w→g.status= .running
 |_,_,_,_,h,hs,hi=>(h.move hs hi).elim (fun⟨_,_,k⟩=>hS _ _ k) (·.1)
theorem WSt.rely{ok:List Value→RO→Prop}(h:WSt P ty Wg Ch ok w k d g M sent)(hs:Sat M w)(hs':Sat M w')(hl:WgLive ty Wg w→WgLive ty Wg w'):WSt P ty Wg Ch ok w' k d g M sent:=by
 cases h with
 |run h=>exact .run h
 |park hn h0 h=>exact .park hn h0 h
 |late h1 h2 h3 h4=>
  rename_i s m d C v cs
  have hm:(C,Obj.cells cs Payload.ety)∈M.own:=by rw [h2];simp
  have e1:=hs.own _ _ hm
  have e2:=hs'.own _ _ hm
  exact .late h1 h2 h3 (h4.rely ⟨fun b hb=>absurd hb O,hl,fun _=>⟨cs,e2,rfl⟩,by simp only [World.cell?,e1,e2]⟩)
theorem WT.status{ok:List Value→RO→Prop}:∀ {r:Wr} {sent:List Value} {g:Goroutine} {M:Mem} {w:World},WT P ty Wg Ch ok r sent g M→Sat M w→WgLive ty Wg w→g.status= .running
 | .fin,sent,g,M,w,h,hs,hl=>by
  obtain⟨_,C,v,cs,m,_,h⟩:=h
  have:=(h w hs hl)
  cases this with
  |r0 h=>exact Goes.running (fun _ _ x=>x.1) w (RW.refl w) h
 | .step f,sent,g,M,w,h,hs,_=>h.1
 | .ghost f,sent,g,M,w,h,hs,hl=>let⟨_,h1,h2⟩:=h w hs;WT.status h2 h1.sat hl
 | .send r,sent,g,M,w,h,_,_=>h.1
 | .wait _,_,_,_,_,h,_,_=>h.elim
theorem WSt.status{ok:List Value→RO→Prop}(h:WSt P ty Wg Ch ok w k d g M sent)(hs:Sat M w)(hl:WgLive ty Wg w):(g.status= .running∨g.status= .finished)∨∃g0 v z,g=parked g0 #[scase Ch v z] .send:=by
 cases h with
 |run h=>exact .inl (.inl (h.status hs hl))
 |park _ _ h=>exact .inr ⟨_,_,_,rfl⟩
 |late _ _ _ h=>exact .inl h.status
theorem WSt.woken{ok:List Value→RO→Prop}(h:WSt P ty Wg Ch ok w k d g M sent)(hs:Sat M w)(hl:WgLive ty Wg w)(a a':Goroutine){cap:Nat}{buf:Array Value} 
  (hc:(∃g0 v z,g=parked g0 #[scase Ch v z] .send)→w'.heap[Ch]? =some (.chan cap buf false s r tm)):Go.Conc.woken P a a' w' g=g:=by
 rcases h.status hs hl with h1|⟨g0,v,z,rfl⟩
 ·unfold Go.Conc.woken
  split
  ·exact again_running _ h1
  ·rfl
 ·exact woken_send_open _ _ (hc ⟨_,_,_,rfl⟩)
omit [Payload] in
theorem CSt.status{r:Rk}(hA:∀g M,Anch g M→g.status= .running)(h:CSt P ty Wg Ch Anch r q g M ct)(hs:Sat M w)(hl:WgLive ty Wg w):(g.status= .running∨g.status= .finished)∨(ct= .blk∧g.status= .blocked∧g.offers=none):=by
 cases ct with
 |off=>exact h.elim
 |blk=>obtain⟨_,g0,rfl,h⟩:=h;exact .inr ⟨rfl,rfl,h.2.1⟩
 |gone d=>exact .inl (QuitsD.status h)
 |kd=>exact .inl (.inl (T.status (fun _ _ k=>k.1) h hs hl))
 |anch=>exact .inl (.inl (T.status hA h hs hl))
 |w2 vs=>exact .inl (.inl (T.status (fun _ _ k=>k.1) h hs hl))
 |wr=>exact .inl (.inl (T.status (fun _ _ k=>k.1) h hs hl))
 |w3=>exact .inl (.inl (T.status (fun _ _ k=>k.1) h hs hl))
 |w4=>exact .inl (.inl (T.status (fun _ _ k=>k.1) h hs hl))
 |ke=>exact .inl (.inl (T.status (fun _ _ k=>k.1) h hs hl))
 |aq=>exact .inl (.inl (T.status (fun _ _ k=>k.1) h hs hl))
 |cl=>exact .inl (.inl (T.status (fun _ _ k=>k.1) h hs hl))
omit [Payload] in
theorem CSt.woken{r:Rk}(hA:∀g M,Anch g M→g.status= .running)(h:CSt P ty Wg Ch Anch r q g M ct)(hs:Sat M w)(hl:WgLive ty Wg w)(a a':Goroutine)(w':World):
  ∃ct',CSt P ty Wg Ch Anch r q (Go.Conc.woken P a a' w' g) M ct'∧(ct'=ct∨(ct= .blk∧ct'= .w3))∧(mayWake P a=true→a'.status= .running→ct'≠ .blk):=by
 unfold Go.Conc.woken
 split
 ·rcases h.status hA hs hl with h1|⟨rfl,_,_⟩
  ·refine⟨ct,by rw [again_running _ h1];exact h, .inl rfl,fun _ _ e=>?_⟩
   subst e
   obtain⟨_,g0,rfl,_⟩:=h
   simp at h1
  ·obtain⟨hr,g0,rfl,h0⟩:=h
   refine⟨.w3, ?_, .inr ⟨rfl,rfl⟩,fun _ _=>by simp⟩
   rw [Go.ConcR.again_blocked h0.1 h0.2.1]
   subst hr
   exact h0
 ·rename_i hc
  exact⟨ct,h, .inl rfl,fun h1 h2=>absurd (by simp [h1,h2]) hc⟩
theorem MSt.running(hAt:∀rs g M,At rs g M→g.status= .running)(h:MSt P ty Wg Ch n Anch ok At rk rs g M mt)(hs:Sat M w)(hl:WgLive ty Wg w)(hp:mt≠ .prk):g.status= .running:=by
 cases mt with
 |sp r s=>
  match s,h with
  |6,h=>exact T.status (fun _ _ k=>k.1) h hs hl
  |5,h=>exact T.status (fun _ _ k=>k.1) h hs hl
  |4,h=>exact T.status (fun _ _ k=>k.1) h hs hl
  |3,h=>exact T.status (fun _ _ k=>k.1) h hs hl
  |2,h=>exact T.status (fun _ _ k=>k.1) h hs hl
  |0,h=>exact h.elim
  |1,h=>exact h.elim
  |s+7,h=>exact h.elim
 |goc=>exact T.status (fun _ _ k=>k.1) h hs hl
 |rng=>exact T.status (hAt rs) h hs hl
 |prk=>exact absurd rfl hp
 |wok=>obtain⟨_,g0,z,rfl,_⟩:=h;rfl
theorem MSt.woken{cl:Bool}(hAt:∀rs g M,At rs g M→g.status= .running)(h:MSt P ty Wg Ch n Anch ok At rk rs g M mt)(hs:Sat M w)(hl:WgLive ty Wg w)(a a':Goroutine)(hc:w'.heap[Ch]? =some (.chan 0 #[] cl s r tm)):
  ∃mt',MSt P ty Wg Ch n Anch ok At rk rs (Go.Conc.woken P a a' w' g) M mt'∧(mt'=mt∨(mt= .prk∧mt'= .wok∧cl=true))∧(mayWake P a=true→a'.status= .running→cl=true→mt'≠ .prk):=by
 by_cases hp:mt= .prk
 ·subst hp
  obtain⟨hr,g0,z,rfl,h1,h2,h3⟩:=h
  unfold Go.Conc.woken
  split
  ·cases cl with
   |false=>exact⟨.prk,by rw [again_recv_open hc];exact⟨hr,g0,z,rfl,h1,h2,h3⟩, .inl rfl,fun _ _ e=>nomatch e⟩
   |true=>exact⟨.wok,by rw [again_recv_closed hc];exact⟨hr,g0,z,rfl,h1,h2,h3⟩, .inr ⟨rfl,rfl,rfl⟩,fun _ _ _=>by simp⟩
  ·rename_i hcc
   exact⟨.prk,⟨hr,g0,z,rfl,h1,h2,h3⟩, .inl rfl,fun h1 h2=>absurd (by simp [h1,h2]) hcc⟩
 ·have hst:g.status= .running:=h.running hAt hs hl hp
  refine⟨mt, ?_, .inl rfl,fun _ _ _=>hp⟩
  unfold Go.Conc.woken
  split
  ·rw [again_running _ (.inl hst)];exact h
  ·exact h
end
end Go.Lg
namespace Go.Lg
open Go Go.Conc
open Go.ConcR (KK WgAt stA smA rd wr mk Payload)
open Go.ConcN (RW WgLive WSit CTag Mode RelBy Vc sumTo)
variable {sz x:Nat}{t:Trace}
structure St where
 j:Nat
 mt:MT
 ct:CT
 D:Nat→WK
 dd:Nat→Nat
 rm:Rk
 rc:Rk
 q:Nat→Nat
 qc:Nat
 sent:Nat→List Value
 rs:List Value
 Ms:Nat→Mem
variable [Payload]
section
variable (P:Program)(ty:TypeId)(Wg Ch e n:Nat)(Anch:Goroutine→Mem→Prop)(ok:Nat→List Value→RO→Prop)(At:List Value→Goroutine→Mem→Prop)
def AllKn(e sz:Nat)(t:Trace)(k:Nat):Prop:= ∀y,(y=0∨(e≤y∧y<sz))→Knows t y k
omit [Payload] in
theorem AllKn.app{e k:Nat}(u:Trace)(h:AllKn e sz t k):AllKn e sz (t++u) k:=fun y hy=>(h y hy).app u
def NoRel(a:Addr)(e:Nat)(t:Trace):Prop:= ∀r k g,t.g? r=some g→e≤g→r<k→t.act? k≠some (.mark (.release a))
omit [Payload] in
theorem NoRel.app{a:Addr}{e:Nat}{u:Trace}(h:NoRel a e t)(hu:∀op∈u,op.act≠ .mark (.release a)):NoRel a e (t++u):=by
 intro r k g hr hg hrk hk
 obtain⟨op,ho,hoa⟩:=Option.map_eq_some_iff.1 hk
 rcases getElem?_append_cases ho with⟨h1,h2⟩|⟨_,h2⟩
 ·rw [g?_old O] at hr
  exact h r k g hr hg hrk (by simp [Trace.act?,h2,hoa])
 ·exact hu op h2 hoa
structure Tf(S:St)(sz:Nat)(t:Trace):Prop where
 deaf0:Deaf t 0=S.mt.deaf
 deafW:∀i,i<S.j→Deaf t (e+i)=S.dd i
 deafC:S.ct.on=true→Deaf t (e+n)=S.ct.deaf
 above:∀g,sz≤g→Deaf t g=0
 qw:∀k x,touchAt t k=some x→blockOf x.loc=some Wg→(x.kind≠ .plain∧(x.kind= .said→Knows t (if S.ct.on then e+n else 0) k))∨AllKn e sz t k
 norel:NoRel (stA Wg) e t
 rel:∀i,i<S.j→(S.D i).stage≤6→∃r,RelBy (stA Wg) t (e+i) r
 oldk:∀k g,t.g? k=some g→0<g→g<e→t.counts k→Knows t 0 k
 acq:S.ct.acqd=true→∃qa,t.act? qa=some (.mark (.acquire (stA Wg)))∧t.g? qa=some (e+n)∧t.heard qa∧∀i,i<n→∃r,RelBy (stA Wg) t (e+i) r∧r<qa
 cls:S.ct.closed=true→∃pc,t.act? pc=some (.close Ch)∧t.g? pc=some (e+n)∧t.heard pc∧(∀k,t.g? k=some (e+n)→t.counts k→k≤pc)∧(∀k,t.act? k=some (.mark (.acquire (stA Wg)))→t.g? k=some (e+n)→k≤pc)
 gsb:∀ (k g:Nat),t.g? k=some g→g<sz
 qch:S.ct.closed=false→∀k x,touchAt t k=some x→blockOf x.loc=some Ch→AllKn e sz t k
structure Shp(n:Nat)(S:St):Prop where
 jn:S.j≤n
 onj:S.ct.on=true→S.j=n
 mtsp:∀r s,S.mt= .sp r s→r<n∧S.j=n- (r+1)∧S.ct= .off
 mtgo:S.mt= .goc→S.j=n∧S.ct= .off
 mtr:(S.mt= .rng∨S.mt= .prk∨S.mt= .wok)→S.ct.on=true
 mtw:S.mt= .wok→S.ct.closed=true
 nomeet:S.mt= .prk→∀i,i<S.j→∀r,S.D i≠ .tree (.wait r)
 rs0:((∃r s,S.mt= .sp r s)∨S.mt= .goc)→S.rs= []
structure Ph(S:St)(gs:Array Goroutine)(w:World)(t:Trace):Prop where
 shp:Shp n S
 prkc:S.mt= .prk→S.ct.closed=false
 size:gs.size=e+S.j+(if S.ct.on then 1 else 0)
 main:∃a,gs[0]? =some a∧MSt P ty Wg Ch n Anch ok At S.rm S.rs a (S.Ms 0) S.mt
 wk:∀i,i<S.j→∃g,gs[e+i]? =some g∧WSt P ty Wg Ch (ok i) w (S.D i) (S.dd i) g (S.Ms (e+i)) (S.sent i)
 clo:S.ct.on=true→∃g,gs[e+n]? =some g∧CSt P ty Wg Ch Anch S.rc S.qc g (S.Ms (e+n)) S.ct
 old:∀i g,0<i→i<e→gs[i]? =some g→QuitsD P (S.q i) (Deaf t i) g
 safe:Safe w t S.Ms
 nomem:∀i,gs.size≤i→S.Ms i=noMem
 wg:∃st sm,WgAt ty Wg w st sm∧Go.ConcN.Mode S.j (kD S.D) (tagOf S.mt S.ct) st sm
 ch:∃s r tm,w.heap[Ch]? =some (.chan 0 #[] S.ct.closed s r tm)
 shw:∀i,Wg∉ (S.Ms i).ids∧(S.Ms i).ro Wg=none
 shc:∀i,Ch∉ (S.Ms i).ids∧(S.Ms i).ro Ch=none
 perm:S.rs.Perm ((List.range S.j).flatMap S.sent)∧∀i,(S.sent i).length≤1
 tf:Tf Wg Ch e n S gs.size t
def muOf(S:St):Mu:=(S.mt.num,S.D,S.ct.phi n (Vc S.j (kD S.D)),S.rm,S.rc,sumTo e S.q+S.qc,(match S.mt with| .rng=>1|_=>0)+(match S.ct with| .w3=>1|_=>0))
end
section
variable {P:Program}{ty:TypeId}{Wg Ch e n:Nat}{Anch:Goroutine→Mem→Prop}{ok:Nat→List Value→RO→Prop}{At:List Value→Goroutine→Mem→Prop}
 {S S':St} {gs:Array Goroutine} {w w':World} {t:Trace}
theorem Ph.live(H:Ph P ty Wg Ch e n Anch ok At S gs w t):WgLive ty Wg w:=let⟨st,sm,h,_⟩:=H.wg;⟨st,sm,h⟩
theorem Ph.others(H:Ph P ty Wg Ch e n Anch ok At S gs w t)(he:0<e)(hA:∀g M,Anch g M→g.status= .running)(hAt:∀rs g M,At rs g M→g.status= .running){g g':Goroutine}{cl:Bool}
  (hs:∀y,y≠x→Sat (S.Ms y) w') (hl:WgLive ty Wg w') (hch:∃s r tm,w'.heap[Ch]? =some (.chan 0 #[] cl s r tm)) (hcl:cl=true→∀i,i<S.j→(S.D i).stage=1):
  ∃mt ct,(x≠0→∃a,((gs.map (woken P g g' w')).setIfInBounds x g')[0]? =some a∧MSt P ty Wg Ch n Anch ok At S.rm S.rs a (S.Ms 0) mt)∧
   (∀i,i<S.j→e+i≠x→∃a,((gs.map (woken P g g' w')).setIfInBounds x g')[e+i]? =some a∧WSt P ty Wg Ch (ok i) w' (S.D i) (S.dd i) a (S.Ms (e+i)) (S.sent i))∧
   (S.ct.on=true→e+n≠x→∃a,((gs.map (woken P g g' w')).setIfInBounds x g')[e+n]? =some a∧CSt P ty Wg Ch Anch S.rc S.qc a (S.Ms (e+n)) ct)∧
   (∀i a,0<i→i<e→i≠x→((gs.map (woken P g g' w')).setIfInBounds x g')[i]? =some a→QuitsD P (S.q i) (Deaf t i) a)∧
   (mt=S.mt∨(S.mt= .prk∧mt= .wok∧cl=true))∧(ct=S.ct∨(S.ct= .blk∧ct= .w3))∧(mayWake P g=true→g'.status= .running→ct≠ .blk)∧(mayWake P g=true→g'.status= .running→cl=true→mt≠ .prk):=by
 obtain⟨s,r,tm,hch⟩:=hch
 have hlw:=H.live
 have get:∀y,y≠x→((gs.map (woken P g g' w')).setIfInBounds x g')[y]? =(gs[y]?).map (woken P g g' w'):=fun y hy=>by
  rw [Array.getElem?_setIfInBounds_ne (Ne.symm hy),Array.getElem?_map]
 obtain⟨a,ha,hm⟩:=H.main
 obtain⟨mt,hm1,hm2,hm3⟩:=hm.woken hAt (H.safe.sat 0) hlw g g' hch
 have hcc:∃ct,(S.ct.on=true→∃c,gs[e+n]? =some c∧CSt P ty Wg Ch Anch S.rc S.qc (woken P g g' w' c) (S.Ms (e+n)) ct)∧(ct=S.ct∨(S.ct= .blk∧ct= .w3))∧(mayWake P g=true→g'.status= .running→ct≠ .blk):=by
  by_cases hon:S.ct.on=true
  ·obtain⟨c,hc,hC⟩:=H.clo hon
   obtain⟨ct,h1,h2,h3⟩:=hC.woken hA (H.safe.sat (e+n)) hlw g g' w'
   exact⟨ct,fun _=>⟨c,hc,h1⟩,h2,h3⟩
  ·refine⟨S.ct,fun h=>absurd h hon, .inl rfl,fun _ _ h=>hon (by rw [h];rfl)⟩
 obtain⟨ct,hc1,hc2,hc3⟩:=hcc
 refine⟨mt,ct,fun hx=>⟨_,by rw [get 0 (Ne.symm hx),ha];rfl,hm1⟩,fun i hi hx=>?_,fun hon hx=>?_,fun i b h0 hi hx hb=>?_,hm2,hc2,hc3,hm3⟩
 ·obtain⟨c,hc,hW⟩:=H.wk i hi
  refine⟨_,by rw [get _ hx,hc];rfl, ?_⟩
  cases hcb:cl with
  |false=>
   subst hcb
   rw [hW.woken (H.safe.sat _) hlw g g' (fun _=>hch)]
   exact hW.rely (H.safe.sat _) (hs _ hx) fun _=>hl
  |true=>
   have h1:=hcl hcb i hi
   have hnp:¬ ∃g0 v z,c=parked g0 #[scase Ch v z] .send:=by
    rintro⟨g0,v,z,hpk⟩
    generalize hk:S.D i=k at hW h1
    generalize S.dd i=d at hW
    cases hW with
    |run h=>simp [WK.stage] at h1
    |park h=>simp [WK.stage] at h1
    |late _ _ _ h=>exact absurd h.status (by simp [hpk,parked])
   rw [hW.woken (H.safe.sat _) hlw g g' (cap:=0) (s:=s) (r:=r) (buf:= #[]) (tm:=tm) (fun h=>absurd h hnp)]
   exact hW.rely (H.safe.sat _) (hs _ hx) fun _=>hl
 ·obtain⟨c,hc,hC⟩:=hc1 hon
  exact⟨_,by rw [get _ hx,hc];rfl,hC⟩
 ·rw [get _ hx] at hb
  obtain⟨c,hc,rfl⟩:=Option.map_eq_some_iff.1 hb
  have:=H.old i c h0 hi hc
  rw [woken_quitsD this]
  exact this
theorem Tf.go{fn:FuncId}{pos:String}{es:Array Event}(h:Tf Wg Ch e n S sz t)(he:0<e)(hx:x<sz)(hj:S'.j=S.j)(hon:S'.ct.on=S.ct.on)(hsz:sz=e+S.j+(if S.ct.on then 1 else 0))(hjn:S.ct.on=true→S.j=n)(hjn':S.j≤n)
  (hm:x≠0→S'.mt.deaf=S.mt.deaf) (hd:∀i,i<S.j→e+i≠x→S'.dd i=S.dd i) (hc:e+n≠x→S'.ct.deaf=S.ct.deaf)
  (hm0:x=0→S'.mt.deaf=deafBehind S.mt.deaf es) (hd0:∀i,i<S.j→e+i=x→S'.dd i=deafBehind (S.dd i) es) (hc0:S.ct.on=true→e+n=x→S'.ct.deaf=deafBehind S.ct.deaf es)
  (hw:∀ev∈es,∀τ,(MemAct.ofEvent ev).touch? =some τ→blockOf τ.loc=some Wg→τ.kind≠ .plain∧(τ.kind= .said→x=if S.ct.on then e+n else 0))
  (hnr:∀ev∈es,ev.loc≠ .mark (.release (stA Wg)))
  (hrx:∀i r,i<S.j→e+i=x→(S.D i).stage≤6→RelBy (stA Wg) t x r→RelBy (stA Wg) (t++MemOp.ofEvents x fn pos es) x r)
  (hst:∀i,i<S.j→(S'.D i).stage≤6→(S.D i).stage≤6∨(e+i=x∧∃r,RelBy (stA Wg) (t++MemOp.ofEvents x fn pos es) x r))
  (hacq:S'.ct.acqd=true→S.ct.acqd=true∧(∀i,i<n→(S.D i).stage≤6)∨(x=e+n∧∃qa,(t++MemOp.ofEvents x fn pos es).act? qa=some (.mark (.acquire (stA Wg)))∧(t++MemOp.ofEvents x fn pos es).g? qa=some (e+n)∧(t++MemOp.ofEvents x fn pos es).heard qa∧∀i,i<n→∃r,RelBy (stA Wg) (t++MemOp.ofEvents x fn pos es) (e+i) r∧r<qa))
  (hcls:S'.ct.closed=true→(S.ct.closed=true∧(x=e+n→∀ev∈es,(MemAct.ofEvent ev).touch? =none∧ev.loc≠ .mark (.acquire (stA Wg))))∨(x=e+n∧∃pc,(t++MemOp.ofEvents x fn pos es).act? pc=some (.close Ch)∧(t++MemOp.ofEvents x fn pos es).g? pc=some (e+n)∧(t++MemOp.ofEvents x fn pos es).heard pc∧(t++MemOp.ofEvents x fn pos es).size=pc+1))
  (hmu:0<x→x<e→∀ev∈es,(MemAct.ofEvent ev).touch? =none)
  (hqc:S'.ct.closed=false→S.ct.closed=false∧∀ev∈es,∀τ,(MemAct.ofEvent ev).touch? =some τ→blockOf τ.loc≠some Ch):Tf Wg Ch e n S' sz (t++MemOp.ofEvents x fn pos es):=by
 have hg:∀op∈MemOp.ofEvents x fn pos es,op.g=x:=fun op hop=>by obtain⟨_,_,rfl⟩:=Go.Conc.mem_ofEvents hop;rfl
 have dOther:∀y,y≠x→Deaf (t++MemOp.ofEvents x fn pos es) y=Deaf t y:=fun y hy=>Deaf_other t (Ne.symm hy) _ hg
 have newg:∀k g,(t++MemOp.ofEvents x fn pos es).g? k=some g→t.g? k=some g∧k<t.size∨(g=x∧t.size≤k):=by
  intro k g hk
  obtain⟨op,ho,hog⟩:=Option.map_eq_some_iff.1 hk
  rcases getElem?_append_cases ho with⟨h1,h2⟩|⟨h1,h2⟩
  ·exact .inl ⟨by simp [Trace.g?,h2,hog],h1⟩
  ·exact .inr ⟨by rw [←hog];exact hg op h2,h1⟩
 have keepRel:∀i r,i<S.j→(S.D i).stage≤6→RelBy (stA Wg) t (e+i) r→RelBy (stA Wg) (t++MemOp.ofEvents x fn pos es) (e+i) r:=fun i r hi h6 hr=>by
  by_cases hx':e+i=x
  ·rw [hx'] at hr⊢;exact hrx i r hi hx' h6 hr
  ·exact hr.appOther hg (Ne.symm hx')
 have nocount:(∀ev∈es,(MemAct.ofEvent ev).touch? =none)→∀k,t.size≤k→¬(t++MemOp.ofEvents x fn pos es).counts k:=by
  intro hn k hk hc
  obtain⟨τ,hτ,_⟩:=hc
  obtain⟨op,ho,hoτ⟩:=touch_of hτ
  rcases getElem?_append_cases ho with⟨h1,_⟩|⟨_,h2⟩
  ·omega
  ·obtain⟨ev,hev,rfl⟩:=Go.Conc.mem_ofEvents h2
   rw [hn ev hev] at hoτ;cases hoτ
 refine⟨?_,fun i hi=>?_,fun ho=>?_,fun g hge=>?_,fun k τ hτ hb=>?_, ?_,fun i hi h6=>?_,fun k g hk h0 hge hcn=>?_,fun ha=>?_,fun hcl=>?_,fun k g hk=>?_,fun hcl k τ hτ hb=>?_⟩
 ·by_cases h0:x=0
  ·subst h0
   rw [Deaf_own,h.deaf0];exact(hm0 rfl).symm
  ·rw [dOther 0 (Ne.symm h0),h.deaf0,hm h0]
 ·rw [hj] at hi
  by_cases h0:e+i=x
  ·rw [h0,Deaf_own, ←h0,h.deafW i hi];exact(hd0 i hi h0).symm
  ·rw [dOther _ h0,h.deafW i hi,hd i hi h0]
 ·rw [hon] at ho
  by_cases h0:e+n=x
  ·rw [h0,Deaf_own, ←h0,h.deafC ho];exact(hc0 ho h0).symm
  ·rw [dOther _ h0,h.deafC ho,hc h0]
 ·rw [dOther g O];exact h.above g hge
 ·rw [hon]
  rcases touchAt_app hτ with h1|⟨op,hop,ho,hoτ⟩
  ·exact(h.qw k τ h1 hb).imp (fun⟨a,b⟩=>⟨a,fun hk=>(b hk).app _⟩) (·.app _)
  ·obtain⟨ev,hev,rfl⟩:=Go.Conc.mem_ofEvents hop
   refine .inl ⟨(hw ev hev τ hoτ hb).1,fun hk=>?_⟩
   rw [←(hw ev hev τ hoτ hb).2 hk]
   exact knows_own ho
 ·exact h.norel.app fun op hop=>by
   obtain⟨ev,hev,rfl⟩:=Go.Conc.mem_ofEvents hop
   exact fun e'=>hnr ev hev (Go.ConcR.loc_of_ofEvent e')
 ·rw [hj] at hi
  rcases hst i hi h6 with h1|⟨h1,r,h2⟩
  ·obtain⟨r,hr⟩:=h.rel i hi h1
   exact⟨r,keepRel i r hi h1 hr⟩
  ·exact⟨r,by rw [h1];exact h2⟩
 ·rcases newg k g hk with⟨h1,h2⟩|⟨h1,h2⟩
  ·exact(h.oldk k g h1 h0 hge ((counts_old h2).1 hcn)).app _
  ·subst h1
   exact absurd hcn (nocount (hmu h0 hge) k h2)
 ·rcases hacq ha with⟨h1,h6⟩|⟨_,h1⟩
  ·obtain⟨qa,a1,a2,a3,a4⟩:=h.acq h1
   have hq:=lt_of_act? a1
   refine⟨qa,by rw [act?_old hq];exact a1,by rw [g?_old hq];exact a2,(heard_old hq).2 a3,fun i hi=>?_⟩
   obtain⟨r,hr,hrq⟩:=a4 i hi
   have hon':S.ct.on=true:=by cases hct:S.ct<;>rw [hct] at h1<;>first|rfl|cases h1
   exact⟨r,keepRel i r (by rw [hjn hon'];exact hi) (h6 i hi) hr,hrq⟩
  ·exact h1
 ·rcases hcls hcl with⟨h1,h2⟩|⟨h1,pc,p1,p2,p3,p4⟩
  ·obtain⟨pc,a1,a2,a3,a4,a5⟩:=h.cls h1
   have hq:=lt_of_act? a1
   refine⟨pc,by rw [act?_old hq];exact a1,by rw [g?_old hq];exact a2,(heard_old hq).2 a3,fun k hk hcn=>?_,fun k hk hk2=>?_⟩
   ·rcases newg k _ hk with⟨b1,b2⟩|⟨b1,b2⟩
    ·exact a4 k b1 ((counts_old b2).1 hcn)
    ·exact absurd hcn (nocount (fun ev hev=>(h2 b1.symm ev hev).1) k b2)
   ·rcases newg k _ hk2 with⟨b1,b2⟩|⟨b1,b2⟩
    ·exact a5 k (by rw [act?_old b2] at hk;exact hk) b1
    ·exfalso
     obtain⟨op,ho,hoa⟩:=Option.map_eq_some_iff.1 hk
     rcases getElem?_append_cases ho with⟨c1,_⟩|⟨_,c2⟩
     ·omega
     ·obtain⟨ev,hev,rfl⟩:=Go.Conc.mem_ofEvents c2
      exact(h2 b1.symm ev hev).2 (Go.ConcR.loc_of_ofEvent hoa)
  ·refine⟨pc,p1,p2,p3,fun k hk _=>?_,fun k hk _=>?_⟩
   ·obtain⟨op,ho,_⟩:=Option.map_eq_some_iff.1 hk
    have:=lt_size_of_getElem? ho
    omega
   ·have:=lt_of_act? hk
    omega
 ·rcases newg k g hk with⟨h1,_⟩|⟨h1,_⟩
  ·exact h.gsb k g h1
  ·omega
 ·obtain⟨hc1,hc2⟩:=hqc hcl
  rcases touchAt_app hτ with h1|⟨op,hop,ho,hoτ⟩
  ·exact(h.qch hc1 k τ h1 hb).app _
  ·obtain⟨ev,hev,rfl⟩:=Go.Conc.mem_ofEvents hop
   exact absurd hb (hc2 ev hev τ hoτ)
end
end Go.Lg
namespace Go.Lg
open Go Go.Conc
open Go.ConcR (KK WgAt stA smA rd wr mk Payload)
open Go.ConcN (RW WgLive WSit CTag RelBy Vc sumTo)
variable {M':Mem}{w:World}{es:Array Event}{x:Nat}{g:Goroutine}
theorem Good.shun{M:Mem}{w':World}(h:Good M w w' es M'){b:Nat}(hb:b<w.heap.size)(hn:b∉M.ids∧M.ro b=none):b∉M'.ids∧M'.ro b=none:=by
 refine⟨fun hc=>(h.own' b hc).elim hn.1 O, ?_⟩
 cases hr:M'.ro b with
 |none=>rfl
 |some o=>
  rcases h.ro' b (by rw [hr];rfl) with h2|h2|h2
  ·rw [hn.2] at h2;cases h2
  ·exact absurd h2 hn.1
  ·omega
theorem ofEvents_none(i:Nat)(fn:FuncId)(pos:String)(t:Trace):t++MemOp.ofEvents i fn pos #[]=t:=by rw [ofEvents_eq];simp
theorem Safe.turn{t:Trace}{Ms:Nat→Mem}{i:Nat}(S:Safe w t Ms)(h:Good (Ms i) w w #[] M'):Safe w t (setM Ms i M'):=by
 have hS:=Safe.own (fn:=0) (pos:= "") (i:=i) S h
 rwa [ofEvents_none] at hS
theorem T.move'{I:World→Prop}{P:Program}{main:Bool}{Stop:Goroutine→Mem→Prop}:∀ {r:Rk} {g:Goroutine} {M:Mem} {w:World},T I P main Stop r g M→Sat M w→I w→
  (∃M',Good M w w #[] M'∧Stop g M'∧(r= .stop∨RkLt .stop r))∨(g.status= .running∧∃g' w' es M' r',stepG P main g w= .go g' w' es∧Good M w w' es M'∧T I P main Stop r' g' M'∧RkLt r' r)
 | .stop,g,M,w,h,hs,_=> .inl ⟨M,Good.refl hs,h, .inl rfl⟩
 | .step f,g,M,w,h,hs,hi=>by
  obtain⟨h0,h⟩:=h
  obtain⟨g',w',es,M',h1,h2,h3⟩:=h w hs hi
  exact .inr ⟨h0,g',w',es,M',f w,h1,h2,h3, .step w⟩
 | .ghost f,g,M,w,h,hs,hi=>by
  obtain⟨M',h1,h2⟩:=h w hs hi
  rcases T.move' h2 h1.sat hi with⟨M₂,k1,k2,k3⟩|⟨k0,g',w',es,M₂,r',k1,k2,k3,k4⟩
  ·have:=h1.trans k1
   rw [Array.empty_append] at this
   refine .inl ⟨M₂,this,k2, .inr ?_⟩
   rcases k3 with k3|k3
   ·rw [←k3];exact .ghost0 w
   ·exact .ghost w k3
  ·have:=h1.trans k2
   rw [Array.empty_append] at this
   exact .inr ⟨k0,g',w',es,M₂,r',k1,this,k3, .ghost w k4⟩
section
variable {Wg Ch e n:Nat}{S S':St}{sz:Nat}{t:Trace}
theorem Tf.turn(h:Tf Wg Ch e n S sz t)(h1:S'.j=S.j)(h2:S'.mt.deaf=S.mt.deaf)(h3:S'.ct.on=S.ct.on)(h4:S'.ct.deaf=S.ct.deaf)(h5:S'.ct.acqd=S.ct.acqd)(h6:S'.ct.closed=S.ct.closed)
  (h7:∀i,i<S.j→S'.dd i=S.dd i) (h8:∀i,i<S.j→(S'.D i).stage=(S.D i).stage):Tf Wg Ch e n S' sz t:=by
 refine⟨by rw [h2];exact h.deaf0,fun i hi=>?_,by rw [h3,h4];exact h.deafC,h.above,by rw [h3];exact h.qw,h.norel,fun i hi hs=>?_,h.oldk,by rw [h5];exact h.acq,by rw [h6];exact h.cls,h.gsb,by rw [h6];exact h.qch⟩
 ·rw [h1] at hi;rw [h7 i hi];exact h.deafW i hi
 ·rw [h1] at hi;rw [h8 i hi] at hs;exact h.rel i hi hs
theorem ct_back{ct ct':CT}(h:ct=ct'∨(ct'= .blk∧ct= .w3)):ct.on=ct'.on∧ct.deaf=ct'.deaf∧ct.acqd=ct'.acqd∧ct.closed=ct'.closed∧(ct'= .off→ct= .off)∧∀n v,ct.phi n v=ct'.phi n v:=by
 rcases h with rfl|⟨rfl,rfl⟩
 ·exact⟨rfl,rfl,rfl,rfl,fun h=>h,fun _ _=>rfl⟩
 ·exact⟨rfl,rfl,rfl,rfl,fun h=>(nomatch h),fun _ _=>rfl⟩
theorem mt_back{mt mt':MT}{c:Prop}(h:mt=mt'∨(mt'= .prk∧mt= .wok∧c)):mt.deaf=mt'.deaf∧mt.num=mt'.num:=by
 rcases h with rfl|⟨rfl,rfl,_⟩<;>exact⟨rfl,rfl⟩
end
variable [Payload]
section
variable {P:Program}{ty:TypeId}{Wg Ch e n:Nat}{Anch:Goroutine→Mem→Prop}{ok:Nat→List Value→RO→Prop}{At:List Value→Goroutine→Mem→Prop}
 {S S':St} {gs:Array Goroutine} {w w':World} {t:Trace}
theorem Ph.wlt(H:Ph P ty Wg Ch e n Anch ok At S gs w t):Wg<w.heap.size∧Ch<w.heap.size:=by
 obtain⟨st,sm,h,_⟩:=H.wg
 obtain⟨s,r,tm,hc⟩:=H.ch
 exact⟨(Array.getElem?_eq_some_iff.1 h).1,(Array.getElem?_eq_some_iff.1 hc).1⟩
theorem Ph.x_lt(H:Ph P ty Wg Ch e n Anch ok At S gs w t)(hx:gs[x]? =some g):x<gs.size:=(Array.getElem?_eq_some_iff.1 hx).1
theorem Ph.go(H:Ph P ty Wg Ch e n Anch ok At S gs w t)(he:0<e)(hA:∀g M,Anch g M→g.status= .running)(hAt:∀rs g M,At rs g M→g.status= .running){g':Goroutine}(hx:gs[x]? =some g)
  (hj:S'.j=S.j) (hrs:S'.rs=S.rs) (hsent:S'.sent=S.sent) (hon:S'.ct.on=S.ct.on)
  (u0:x≠0→S'.mt=S.mt∧S'.rm=S.rm) (uw:∀i,i<S.j→e+i≠x→S'.D i=S.D i∧S'.dd i=S.dd i) (uc:e+n≠x→S'.ct=S.ct∧S'.rc=S.rc∧S'.qc=S.qc) (uq:∀i,i≠x→S'.q i=S.q i) (uM:∀y,y≠x→S'.Ms y=S.Ms y)
  (n0:x=0→MSt P ty Wg Ch n Anch ok At S'.rm S'.rs g' (S'.Ms 0) S'.mt)
  (nw:∀i,i<S.j→e+i=x→WSt P ty Wg Ch (ok i) w' (S'.D i) (S'.dd i) g' (S'.Ms (e+i)) (S'.sent i))
  (nc:e+n=x→CSt P ty Wg Ch Anch S'.rc S'.qc g' (S'.Ms (e+n)) S'.ct)
  (no:0<x→x<e→QuitsD P (S'.q x) (Deaf (t++MemOp.ofEvents x g.frame.fn g.frame.place es) x) g')
  (safe':Safe w' (t++MemOp.ofEvents x g.frame.fn g.frame.place es) S'.Ms)
  (hwg:∃st sm,WgAt ty Wg w' st sm∧∀ct,(ct=S'.ct∨(S'.ct= .blk∧ct= .w3))→(mayWake P g=true→g'.status= .running→e+n≠x→ct≠ .blk)→Go.ConcN.Mode S.j (kD S'.D) (tagOf S'.mt ct) st sm)
  (hch:∃s r tm,w'.heap[Ch]? =some (.chan 0 #[] S'.ct.closed s r tm)) (hcl:S'.ct.closed=true→∀i,i<S.j→(S.D i).stage=1) (shp:Shp n S') (hprk0:x=0→S'.mt= .prk→S'.ct.closed=false)
  (hprk:S'.mt= .prk→S'.ct.closed=true→mayWake P g=true∧g'.status= .running)
  (hsx:(Wg∉ (S'.Ms x).ids∧(S'.Ms x).ro Wg=none)∧(Ch∉ (S'.Ms x).ids∧(S'.Ms x).ro Ch=none))
  (tf':Tf Wg Ch e n S' gs.size (t++MemOp.ofEvents x g.frame.fn g.frame.place es)):
  ∃mt ct,(mt=S'.mt∨(S'.mt= .prk∧mt= .wok∧S'.ct.closed=true))∧(x=0→mt=S'.mt)∧(ct=S'.ct∨(S'.ct= .blk∧ct= .w3))∧(e+n=x→ct=S'.ct)∧
   Ph P ty Wg Ch e n Anch ok At {S' with mt:=mt,ct:=ct} ((gs.map (woken P g g' w')).setIfInBounds x g') w' (t++MemOp.ofEvents x g.frame.fn g.frame.place es):=by
 obtain⟨st,sm,hwg,hmode⟩:=hwg
 have hxl:=H.x_lt hx
 have hsz:=H.size
 have hsz':((gs.map (woken P g g' w')).setIfInBounds x g').size=gs.size:=by simp
 have hself:((gs.map (woken P g g' w')).setIfInBounds x g')[x]? =some g':=by rw [Array.getElem?_setIfInBounds_self_of_lt (by simpa using hxl)]
 obtain⟨mt0,ct0,o1,o2,o3,o4,o5,o6,o7,o8⟩:=H.others he hA hAt (x:=x) (g:=g) (g':=g') (w':=w') (cl:=S'.ct.closed) (fun y hy=>by have:=safe'.sat y;rwa [uM y hy] at this) ⟨st,sm,hwg⟩ hch hcl
 obtain⟨mt,hm0,hmn⟩:∃mt,(x=0→mt=S'.mt)∧(x≠0→mt=mt0):=by
  by_cases h:x=0
  ·exact⟨S'.mt,fun _=>rfl,fun h'=>absurd h h'⟩
  ·exact⟨mt0,fun h'=>absurd h' h,fun _=>rfl⟩
 obtain⟨ct,hc0,hcn⟩:∃ct,(e+n=x→ct=S'.ct)∧(e+n≠x→ct=ct0):=by
  by_cases h:e+n=x
  ·exact⟨S'.ct,fun _=>rfl,fun h'=>absurd h h'⟩
  ·exact⟨ct0,fun h'=>absurd h' h,fun _=>rfl⟩
 have hm1:mt=S'.mt∨(S'.mt= .prk∧mt= .wok∧S'.ct.closed=true):=by
  by_cases h:x=0
  ·exact .inl (hm0 h)
  ·rw [hmn h,(u0 h).1];exact o5
 have hc1:ct=S'.ct∨(S'.ct= .blk∧ct= .w3):=by
  by_cases h:e+n=x
  ·exact .inl (hc0 h)
  ·rw [hcn h,(uc h).1];exact o6
 obtain⟨c1,c2,c3,c4,c5,c6⟩:=ct_back hc1
 obtain⟨m1,_⟩:=mt_back hm1
 refine⟨mt,ct,hm1,hm0,hc1,hc0,⟨shp.jn,fun h=>shp.onj (c1▸h),fun r s h=>?_,fun h=>?_,fun h=>?_,fun h=>?_,fun h=>?_,fun h=>?_⟩,fun h=>?_, ?_, ?_,fun i hi=>?_,fun ho=>?_,fun i a h0 hi ha=>?_,safe',fun i hi=>?_,⟨st,sm,hwg, ?_⟩, ?_,fun i=>?_,fun i=>?_, ?_, ?_⟩
 ·rcases hm1 with h1|⟨_,h1,_⟩
  ·obtain⟨k1,k2,k3⟩:=shp.mtsp r s (h1.symm.trans h)
   exact⟨k1,k2,c5 k3⟩
  ·rw [h1] at h;cases h
 ·rcases hm1 with h1|⟨_,h1,_⟩
  ·obtain⟨k1,k2⟩:=shp.mtgo (h1.symm.trans h)
   exact⟨k1,c5 k2⟩
  ·rw [h1] at h;cases h
 ·refine c1.trans (shp.mtr ?_)
  rcases hm1 with h1|⟨h1,_,_⟩
  ·rw [←h1];exact h
  ·exact .inr (.inl h1)
 ·refine c4.trans ?_
  rcases hm1 with h1|⟨_,_,h1⟩
  ·exact shp.mtw (h1.symm.trans h)
  ·exact h1
 ·rcases hm1 with h1|⟨_,h1,_⟩
  ·exact shp.nomeet (h1.symm.trans h)
  ·rw [h1] at h;cases h
 ·rcases hm1 with h1|⟨_,h1,_⟩
  ·exact shp.rs0 (h1▸h)
  ·simp [h1] at h
 ·have h1:S'.mt= .prk:=by
   rcases hm1 with h1|⟨_,h1,_⟩
   ·exact h1.symm.trans h
   ·rw [h1] at h;cases h
  refine c4.trans ?_
  by_cases h0:x=0
  ·exact hprk0 h0 h1
  ·cases hcc:S'.ct.closed with
   |false=>rfl
   |true=>
    obtain⟨k1,k2⟩:=hprk h1 hcc
    exact absurd ((hmn h0).symm.trans h) (o8 k1 k2 hcc)
 ·rw [hsz',hsz]
  show _=e+S'.j+(if ct.on=true then 1 else 0)
  rw [c1,hon,hj]
 ·by_cases h0:x=0
  ·refine⟨g',by rw [←h0];exact hself, ?_⟩
   have:=n0 h0
   rwa [←hm0 h0] at this
  ·obtain⟨a,ha,hm⟩:=o1 h0
   refine⟨a,ha, ?_⟩
   show MSt P ty Wg Ch n Anch ok At S'.rm S'.rs a (S'.Ms 0) mt
   rw [(u0 h0).2,hrs,uM 0 (Ne.symm h0),hmn h0]
   exact hm
 ·have hi':i<S.j:=by rw [←hj];exact hi
  by_cases h0:e+i=x
  ·exact⟨g',by rw [h0];exact hself,nw i hi' h0⟩
  ·obtain⟨a,ha,hW⟩:=o2 i hi' h0
   refine⟨a,ha, ?_⟩
   show WSt P ty Wg Ch (ok i) w' (S'.D i) (S'.dd i) a (S'.Ms (e+i)) (S'.sent i)
   rw [(uw i hi' h0).1,(uw i hi' h0).2,uM _ h0,hsent]
   exact hW
 ·by_cases h0:e+n=x
  ·refine⟨g',by rw [h0];exact hself, ?_⟩
   have:=nc h0
   rwa [←hc0 h0] at this
  ·have ho':S.ct.on=true:=by rw [←hon, ←c1];exact ho
   obtain⟨a,ha,hC⟩:=o3 ho' h0
   refine⟨a,ha, ?_⟩
   show CSt P ty Wg Ch Anch S'.rc S'.qc a (S'.Ms (e+n)) ct
   rw [(uc h0).2.1,(uc h0).2.2,uM _ h0,hcn h0]
   exact hC
 ·by_cases h1:i=x
  ·subst h1
   rw [hself] at ha
   cases ha
   exact no h0 hi
  ·have:=o4 i a h0 hi h1 ha
   show QuitsD P (S'.q i) _ a
   rw [uq i h1,Deaf_other t (Ne.symm h1) _ (fun op hop=>by obtain⟨_,_,rfl⟩:=Go.Conc.mem_ofEvents hop;rfl)]
   exact this
 ·rw [hsz'] at hi
  show S'.Ms i=noMem
  rw [uM i O]
  exact H.nomem i hi
 ·show Go.ConcN.Mode S'.j (kD S'.D) (tagOf mt ct) st sm
  have ht:tagOf mt ct=tagOf S'.mt ct:=by
   rcases hm1 with h1|⟨h1,h2,_⟩
   ·rw [h1]
   ·rw [h1,h2];rfl
  rw [hj,ht]
  refine hmode ct hc1 fun k1 k2 k3=>?_
  rw [hcn k3]
  exact o7 k1 k2
 ·show∃s r tm,w'.heap[Ch]? =some (.chan 0 #[] ct.closed s r tm)
  rw [c4];exact hch
 ·by_cases h0:i=x
  ·rw [h0];exact hsx.1
  ·show Wg∉ (S'.Ms i).ids∧(S'.Ms i).ro Wg=none
   rw [uM i h0];exact H.shw i
 ·by_cases h0:i=x
  ·rw [h0];exact hsx.2
  ·show Ch∉ (S'.Ms i).ids∧(S'.Ms i).ro Ch=none
   rw [uM i h0];exact H.shc i
 ·show S'.rs.Perm ((List.range S'.j).flatMap S'.sent)∧∀i,(S'.sent i).length≤1
  rw [hrs,hj,hsent];exact H.perm
 ·rw [hsz']
  exact tf'.turn rfl m1 c1 c2 c3 c4 (fun _ _=>rfl) (fun _ _=>rfl)
theorem Ph.at(H:Ph P ty Wg Ch e n Anch ok At S gs w t)(d:Nat):Ph P ty Wg Ch e n Anch ok At S gs (w.at d) t:=
 ⟨H.shp,H.prkc,H.size,H.main,fun i hi=>let⟨g,h1,h2⟩:=H.wk i hi;⟨g,h1,h2.rely (H.safe.sat _) ((H.safe.sat _).at d) id⟩,H.clo,H.old,H.safe.at d,H.nomem,H.wg,H.ch,H.shw,H.shc,H.perm,H.tf⟩
theorem Ph.turn(H:Ph P ty Wg Ch e n Anch ok At S gs w t)(hx:x<gs.size)(hG:Good (S.Ms x) w w #[] M')(rm:Rk)(rc:Rk)(D:Nat→WK)(hD:∀i,i<S.j→(D i).stage=(S.D i).stage)
  (hnm:S.mt= .prk→∀i,i<S.j→∀r,D i≠ .tree (.wait r)) (n0:∀a,gs[0]? =some a→MSt P ty Wg Ch n Anch ok At S.rm S.rs a (S.Ms 0) S.mt→MSt P ty Wg Ch n Anch ok At rm S.rs a (setM S.Ms x M' 0) S.mt)
  (nw:∀i g,i<S.j→gs[e+i]? =some g→WSt P ty Wg Ch (ok i) w (S.D i) (S.dd i) g (S.Ms (e+i)) (S.sent i)→WSt P ty Wg Ch (ok i) w (D i) (S.dd i) g (setM S.Ms x M' (e+i)) (S.sent i))
  (nc:∀g,gs[e+n]? =some g→CSt P ty Wg Ch Anch S.rc S.qc g (S.Ms (e+n)) S.ct→CSt P ty Wg Ch Anch rc S.qc g (setM S.Ms x M' (e+n)) S.ct):
  Ph P ty Wg Ch e n Anch ok At {S with rm:=rm,rc:=rc,D:=D,Ms:=setM S.Ms x M'} gs w t:=by
 obtain⟨hW,hC⟩:=H.wlt
 obtain⟨st,sm,h1,h2⟩:=H.wg
 refine⟨⟨H.shp.jn,H.shp.onj,H.shp.mtsp,H.shp.mtgo,H.shp.mtr,H.shp.mtw,hnm,H.shp.rs0⟩,H.prkc,H.size, ?_,fun i hi=>?_,fun ho=>?_,H.old,H.safe.turn hG,fun i hi=>?_,⟨st,sm,h1, ?_⟩,H.ch,fun i=>?_,fun i=>?_,H.perm,H.tf.turn U U U U U U (fun _ _=>rfl) hD⟩
 ·obtain⟨a,ha,hm⟩:=H.main
  exact⟨a,ha,n0 a ha hm⟩
 ·obtain⟨g,hg,hw⟩:=H.wk i hi
  exact⟨g,hg,nw i g hi hg hw⟩
 ·obtain⟨g,hg,hw⟩:=H.clo ho
  exact⟨g,hg,nc g hg hw⟩
 ·show setM S.Ms x M' i=noMem
  rw [setM_ne _ _ O];exact H.nomem i hi
 ·exact Go.ConcN.Mode.congr (D:=kD S.D) (D':=kD D) (fun a ha=>hD a ha) h2
 ·show Wg∉ (setM S.Ms x M' i).ids∧(setM S.Ms x M' i).ro Wg=none
  by_cases h0:i=x
  ·subst h0;rw [setM_same];exact hG.shun hW (H.shw i)
  ·rw [setM_ne _ _ h0];exact H.shw i
 ·show Ch∉ (setM S.Ms x M' i).ids∧(setM S.Ms x M' i).ro Ch=none
  by_cases h0:i=x
  ·subst h0;rw [setM_same];exact hG.shun hC (H.shc i)
  ·rw [setM_ne _ _ h0];exact H.shc i
end
end Go.Lg
namespace Go.Lg
open Go Go.Conc
open Go.ConcR (KK WgAt stA smA rd wr mk Payload)
open Go.ConcN (RW WgLive WSit CTag RelBy Vc sumTo upd upd_ne upd_same)
variable {s:Bool}{ct:CT}
structure WEv(Wg:Nat)(s:Bool)(e:Event):Prop where
 touch:∀τ,(MemAct.ofEvent e).touch? =some τ→blockOf τ.loc=some Wg∧τ.kind≠ .plain∧(τ.kind= .said→s=true)
 nr:e.loc≠ .mark (.release (stA Wg))
theorem WEv.cell{Wg:Nat}(a:Addr)(wr:Bool)(h:a.block=Wg):WEv Wg s ⟨.cell a,wr,true⟩:=by
 subst h
 refine⟨fun τ h=>?_,by simp⟩
 cases wr<;>simp only [MemAct.ofEvent,MemAct.touch?,Option.some.injEq] at h<;>subst h<;>exact⟨rfl,by simp,by simp⟩
theorem WEv.disable{Wg:Nat}:WEv Wg s (Go.ConcR.mk .disable):=⟨fun _ h=>(nomatch h),by simp [Go.ConcR.mk]⟩
theorem WEv.enable{Wg:Nat}:WEv Wg s (Go.ConcR.mk .enable):=⟨fun _ h=>(nomatch h),by simp [Go.ConcR.mk]⟩
theorem WEv.acquire{Wg:Nat}:WEv Wg s (Go.ConcR.mk (.acquire (stA Wg))):=⟨fun _ h=>(nomatch h),by simp [Go.ConcR.mk]⟩
theorem WEv.relm{Wg:Nat}:WEv Wg s (Go.ConcR.mk (.releaseMerge (stA Wg))):=⟨fun _ h=>(nomatch h),by simp [Go.ConcR.mk]⟩
theorem WEv.read{Wg:Nat}:WEv Wg true (Go.ConcR.mk (.read (smA Wg))):=⟨fun τ h=>by simp only [Go.ConcR.mk,MemAct.ofEvent,MemAct.touch?,Option.some.injEq] at h;subst h;exact⟨rfl,by simp,fun _=>rfl⟩,by simp [Go.ConcR.mk]⟩
theorem WEv.write{Wg:Nat}:WEv Wg true (Go.ConcR.mk (.write (smA Wg))):=⟨fun τ h=>by simp only [Go.ConcR.mk,MemAct.ofEvent,MemAct.touch?,Option.some.injEq] at h;subst h;exact⟨rfl,by simp,fun _=>rfl⟩,by simp [Go.ConcR.mk]⟩
theorem WEv.mute{Wg:Nat}{e:Event}(h:e.mute=true):WEv Wg s e:=⟨fun τ hτ=>(by rw [touch_mute h] at hτ;cases hτ),fun hl=>(by obtain⟨l,_,_⟩:=e;simp only at hl;subst hl;simp [Event.mute] at h)⟩
theorem WEv.bk{Wg:Nat}{e:Event}(h:Go.ConcR.Bk Wg e):WEv Wg s e:=by
 rcases h with h|h|⟨a,wr,rfl,ha⟩
 ·exact⟨fun τ hτ=>(by rw [Go.ConcR.ofEvent_loc_mark h] at hτ;cases hτ),by rw [h];simp⟩
 ·exact⟨fun τ hτ=>(by rw [Go.ConcR.ofEvent_loc_mark h] at hτ;cases hτ),by rw [h];simp⟩
 ·exact .cell a wr ha
theorem WEv.nch{Wg Ch:Nat}{es:Array Event}(h:∀ev∈es,WEv Wg s ev)(hne:Ch≠Wg):∀ev∈es,∀τ,(MemAct.ofEvent ev).touch? =some τ→blockOf τ.loc≠some Ch:=fun ev he τ hτ hb=>by
 rw [((h ev he).touch τ hτ).1] at hb
 exact hne (Option.some.inj hb).symm
section
variable {Wg Ch e n:Nat}{S:St}{sz:Nat}{t u:Trace}{w w':World}{x:Nat}
theorem Tf.wgRace{Ms:Nat→Mem}(h:Tf Wg Ch e n S sz t)(Sf:Safe w t Ms)(hg:∀op∈u,op.g=x)(hu:∀op∈u,∀τ,op.act.touch? =some τ→blockOf τ.loc=some Wg∧τ.kind≠ .plain∧(τ.kind= .said→x=if S.ct.on then e+n else 0))(hxm:x=0∨(e≤x∧x<sz)∨∀op∈u,op.act.touch? =none)(said:Bool):¬Race said (t++u):=by
 refine noRace_append (Sf.clean said) hg fun k a ha op hop b hb hc=>?_
 obtain⟨h1,h2,h3⟩:=hu op hop b hb
 rcases h.qw k a ha (by rw [hc.1];exact h1) with⟨q1,q2⟩|hall
 rotate_left
 ·rcases hxm with h0|h0|h0
  ·exact hall x (.inl h0)
  ·exact hall x (.inr h0)
  ·rw [h0 op hop] at hb;cases hb
 rcases hc.2.2.2 with hk|hk|⟨_,hk,hk2⟩
 ·exact absurd hk q1
 ·exact absurd hk h2
 ·have:=q2 hk
  rwa [←h3 hk2] at this
theorem tag_re{mt:MT}{ct':CT}(h:ct'=ct∨(ct= .blk∧ct'= .w3)):tagOf mt ct'=tagOf mt ct∨(tagOf mt ct= .blk∧tagOf mt ct'= .w3):=by
 rcases h with rfl|⟨rfl,rfl⟩
 ·exact .inl rfl
 ·cases mt<;>first|exact .inl rfl|exact .inr ⟨rfl,rfl⟩
end
variable [Payload]
section
variable {P:Program}{ty:TypeId}{Wg Ch e n:Nat}{Anch:Goroutine→Mem→Prop}{ok:Nat→List Value→RO→Prop}{At:List Value→Goroutine→Mem→Prop}
 {S S':St} {gs:Array Goroutine} {w w':World} {sl:Option (Nat×Nat)} {t:Trace} {x:Nat} {g g':Goroutine} {es:Array Event}
abbrev TMu(n:Nat):Mu→Mu→Prop:=Relation.TransGen (MuLt n)
def Nx(P:Program)(ty:TypeId)(Wg Ch e n:Nat)(Anch:Goroutine→Mem→Prop)(ok:Nat→List Value→RO→Prop)(At:List Value→Goroutine→Mem→Prop)(S:St)(gs:Array Goroutine)(w:World)(sl:Option (Nat×Nat))(t:Trace)(x:Nat):Prop:=
 ∃gs' w' ops S',runT P (crowd gs w sl) x=(.next (crowd gs' w' sl),ops)∧Ph P ty Wg Ch e n Anch ok At S' gs' w' (t++ops)∧TMu n (muOf e n S') (muOf e n S)∧SameOut w w'
theorem Ph.safeBook(H:Ph P ty Wg Ch e n Anch ok At S gs w t)(hAs:Aside Wg w w')(hev:∀ev∈es,WEv Wg s ev)(hs:s=true→x=if S.ct.on then e+n else 0)(hxm:x=0∨(e≤x∧x<gs.size)∨∀ev∈es,(MemAct.ofEvent ev).touch? =none)(fn:FuncId)(pos:String):Safe w' (t++MemOp.ofEvents x fn pos es) S.Ms:=by
 have hu:∀op∈MemOp.ofEvents x fn pos es,op.g=x∧∀τ,op.act.touch? =some τ→blockOf τ.loc=some Wg∧τ.kind≠ .plain∧(τ.kind= .said→x=if S.ct.on then e+n else 0):=by
  intro op hop
  obtain⟨ev,hev',rfl⟩:=Go.Conc.mem_ofEvents hop
  exact⟨rfl,fun τ hτ=>let⟨a,b,c⟩:=(hev ev hev').touch τ hτ;⟨a,b,fun h=>hs (c h)⟩⟩
 refine H.safe.shared (B:=Wg) (fun op hop τ hτ=>⟨((hu op hop).2 τ hτ).1,((hu op hop).2 τ hτ).2.1⟩) H.shw (fun b hb=>hAs.block b hb) hAs.size (fun op hop=>?_) (fun said=>H.tf.wgRace H.safe (fun op hop=>(hu op hop).1) (fun op hop=>(hu op hop).2) (hxm.imp id (Or.imp id fun h op hop=>by obtain⟨ev,hev',rfl⟩:=Go.Conc.mem_ofEvents hop;exact h ev hev')) said)
 exact fun τ hτ b hb=>by rw [((hu op hop).2 τ hτ).1] at hb;cases hb;exact H.wlt.1
theorem WEv.tf(hev:∀ev∈es,WEv Wg s ev)(hs:s=true→x=if S.ct.on then e+n else 0):(∀ev∈es,∀τ,(MemAct.ofEvent ev).touch? =some τ→blockOf τ.loc=some Wg→τ.kind≠ .plain∧(τ.kind= .said→x=if S.ct.on then e+n else 0))∧(∀ev∈es,ev.loc≠ .mark (.release (stA Wg))):=
 ⟨fun ev he τ hτ _=>⟨((hev ev he).touch τ hτ).2.1,fun h=>hs (((hev ev he).touch τ hτ).2.2 h)⟩,fun ev he=>(hev ev he).nr⟩
theorem Ph.modeKeep(H:Ph P ty Wg Ch e n Anch ok At S gs w t){D:Nat→WK}(hD:∀i,i<S.j→(D i).stage=(S.D i).stage)(hb:w'.heap[Wg]? =w.heap[Wg]?):∃st sm,WgAt ty Wg w' st sm∧∀ct,(ct=S.ct∨(S.ct= .blk∧ct= .w3))→(mayWake P g=true→g'.status= .running→e+n≠x→ct≠ .blk)→Go.ConcN.Mode S.j (kD D) (tagOf S.mt ct) st sm:=by
 obtain⟨st,sm,h1,h2⟩:=H.wg
 exact⟨st,sm,h1.of_block hb,fun ct hc _=>Go.ConcN.Mode.congr (D:=kD S.D) (D':=kD D) (fun a ha=>hD a ha) (h2.retag (tag_re hc))⟩
theorem Ph.quit(H:Ph P ty Wg Ch e n Anch ok At S gs w t)(h:S.ct.acqd=true):∀i,i<S.j→(S.D i).stage=1:=by
 obtain⟨st,sm,_,h2⟩:=H.wg
 have ht:tagOf S.mt S.ct= .ret:=by
  cases hm:S.mt with
  |sp r s=>obtain⟨_,_,h3⟩:=H.shp.mtsp r s hm;rw [h3] at h;cases h
  |_=>cases hc:S.ct<;>rw [hc] at h<;>first|rfl|cases h
 rw [ht] at h2
 exact(h2.fin_inv trivial).1
theorem acqd_of(h:ct.closed=true):ct.acqd=true:=by cases ct<;>first|rfl|cases h
theorem on_of_acqd(h:ct.acqd=true):ct.on=true:=by cases ct<;>first|rfl|cases h
theorem Shp.same(h:Shp n S)(hj:S'.j=S.j)(hm:S'.mt=S.mt)(hc:S'.ct=S.ct)(hD:S'.D=S.D)(hr:S'.rs=S.rs):Shp n S':=by
 obtain⟨h1,h2,h3,h4,h5,h6,h7,h8⟩:=h
 rw [←hm, ←hc, ←hj] at*
 exact⟨h1,h2,h3,h4,h5,h6,by rw [hD];exact h7,by rw [hr];exact h8⟩
theorem mu_num(h:S'.mt.num<S.mt.num):MuLt n (muOf e n S') (muOf e n S):=Prod.Lex.left _ _ h
theorem mu_D(h1:S'.mt.num=S.mt.num)(h:VLt n S'.D S.D):MuLt n (muOf e n S') (muOf e n S):=by
 unfold muOf;rw [h1];exact Prod.Lex.right _ (Prod.Lex.left _ _ h)
theorem mu_phi(h1:S'.mt.num=S.mt.num)(h2:S'.D=S.D)(h:S'.ct.phi n (Vc S'.j (kD S'.D))<S.ct.phi n (Vc S.j (kD S.D))):MuLt n (muOf e n S') (muOf e n S):=by
 unfold muOf;rw [h1,h2] at*;exact Prod.Lex.right _ (Prod.Lex.right _ (Prod.Lex.left _ _ h))
theorem mu_rm(h1:S'.mt.num=S.mt.num)(h2:S'.D=S.D)(h3:S'.ct.phi n (Vc S'.j (kD S'.D))=S.ct.phi n (Vc S.j (kD S.D)))(h:RkLt S'.rm S.rm):MuLt n (muOf e n S') (muOf e n S):=by
 unfold muOf;rw [h1,h3,h2];exact Prod.Lex.right _ (Prod.Lex.right _ (Prod.Lex.right _ (Prod.Lex.left _ _ h)))
theorem mu_rc(h1:S'.mt.num=S.mt.num)(h2:S'.D=S.D)(h3:S'.ct.phi n (Vc S'.j (kD S'.D))=S.ct.phi n (Vc S.j (kD S.D)))(h4:S'.rm=S.rm)(h:RkLt S'.rc S.rc):MuLt n (muOf e n S') (muOf e n S):=by
 unfold muOf;rw [h1,h3,h2,h4];exact Prod.Lex.right _ (Prod.Lex.right _ (Prod.Lex.right _ (Prod.Lex.right _ (Prod.Lex.left _ _ h))))
theorem mu_q(h1:S'.mt.num=S.mt.num)(h2:S'.D=S.D)(h3:S'.ct.phi n (Vc S'.j (kD S'.D))=S.ct.phi n (Vc S.j (kD S.D)))(h4:S'.rm=S.rm)(h5:S'.rc=S.rc)(h:sumTo e S'.q+S'.qc<sumTo e S.q+S.qc):MuLt n (muOf e n S') (muOf e n S):=by
 unfold muOf;rw [h1,h3,h2,h4,h5];exact Prod.Lex.right _ (Prod.Lex.right _ (Prod.Lex.right _ (Prod.Lex.right _ (Prod.Lex.right _ (Prod.Lex.left _ _ h)))))
theorem Ph.leaver(H:Ph P ty Wg Ch e n Anch ok At S gs w t)(he:0<e)(hA:∀g M,Anch g M→g.status= .running)(hAt:∀rs g M,At rs g M→g.status= .running)(h0:0<x)(hxe:x<e)(hx:gs[x]? =some g)(hs:g.status= .running):
  Nx P ty Wg Ch e n Anch ok At S gs w sl t x:=by
 have hq:=H.old x g h0 hxe hx
 have hxl:=H.x_lt hx
 cases hqi:S.q x with
 |zero=>rw [hqi] at hq;rw [hq.1] at hs;cases hs
 |succ k=>
  rw [hqi] at hq
  rcases hq with⟨hf,_⟩|⟨_,g',es,hm,hstp,hq'⟩
  ·rw [hf] at hs;cases hs
  have hev:∀ev∈es,WEv Wg false ev:=fun ev he=> .mute (hm ev he)
  have hrun:=runT_crowd_go (P:=P) (sl:=sl) (i:=x) hx (by rw [show(x==0)=false by simp;omega];exact hstp w)
  obtain⟨mt,ct,hm1,_,hc1,_,HP⟩:=H.go (S':={S with q:=upd S.q x k}) (w':=w) (es:=es) (g':=g') he hA hAt hx rfl rfl rfl rfl (fun _=>⟨rfl,rfl⟩) (fun _ _ _=>⟨rfl,rfl⟩) (fun _=>⟨rfl,rfl,rfl⟩) (fun i hi=>upd_ne _ _ hi) (fun _ _=>rfl)
   (fun h=>by omega) (fun i _ h=>by omega) (fun h=>by omega) (fun _ _=>by show QuitsD P (upd S.q x k x) _ g';rw [upd_same,Deaf_own];exact hq') (H.safeBook (Aside.refl Wg w) hev Zi (.inr (.inr fun ev he=>touch_mute (hm ev he))) _ _) (H.modeKeep (fun _ _=>rfl) rfl) H.ch (fun h=>H.quit (acqd_of h)) (H.shp.same rfl rfl rfl rfl rfl) (fun h=>by omega) (fun h hc=>by rw [H.prkc h] at hc;cases hc) ⟨H.shw x,H.shc x⟩
   (H.tf.go he hxl rfl rfl H.size H.shp.onj H.shp.jn (fun _=>rfl) (fun _ _ _=>rfl) (fun _=>rfl) (fun h=>by omega) (fun _ _ h=>by omega) (fun _ h=>by omega) (WEv.tf hev Zi).1 (WEv.tf hev Zi (S:=S) (x:=x) (e:=e) (n:=n)).2 (fun i _ _ h=>by omega) (fun _ _ h=> .inl h)
    (fun h=> .inl ⟨h,fun i hi=>by rw [H.quit h i (by rw [H.shp.onj (on_of_acqd h)];exact hi)];omega⟩) (fun h=> .inl ⟨h,fun h=>by omega⟩) (fun _ _ ev he=>touch_mute (hm ev he)) (fun h=>⟨h,fun ev he τ hτ _=>by rw [touch_mute (hm ev he)] at hτ;cases hτ⟩))
  refine⟨_,_,_,_,hrun,HP, .single (mu_q (mt_back hm1).2 U ((ct_back hc1).2.2.2.2.2 _ _) U U ?_),rfl,rfl⟩
  have:sumTo e (upd S.q x k)+S.q x=sumTo e S.q+k:=Go.ConcN.sumTo_upd S.q k id hxe
  rw [hqi] at this
  show sumTo e (upd S.q x k)+S.qc<_
  omega
end
end Go.Lg
namespace Go.Lg
open Go Go.Conc
open Go.ConcR (KK WgAt stA smA rd wr mk Payload Bk DC0)
open Go.ConcN (RW WgLive WSit CTag RelBy Vc sumTo upd upd_ne upd_same WD cnt OpenSt AsideCell EvW PayAt pend)
variable {M M':Mem}{w w':World}{es:Array Event}
theorem Good.mute_wg(h:Good M w w' es M'){Wg:Nat}(hb:Wg<w.heap.size)(hn:Wg∉M.ids∧M.ro Wg=none):∀ev∈es,∀τ,(MemAct.ofEvent ev).touch? =some τ→blockOf τ.loc=some Wg→False:=by
 intro ev hev τ hτ hbk
 obtain⟨b,h1,_,h2⟩:=ev_touch (h.evs ev hev).1 hτ
 rw [h1] at hbk
 cases hbk
 rcases h2 with h2|h2|⟨_,h2⟩
 ·exact hn.1 h2
 ·omega
 ·rw [hn.2] at h2;cases h2
theorem Good.no_release(h:Good M w w' es M'){a:Addr}:∀ev∈es,ev.loc≠ .mark (.release a):=by
 intro ev hev hl
 have:=(h.evs ev hev).1
 obtain⟨l,_,_⟩:=ev
 simp only at hl
 subst hl
 exact this
variable [Payload]
section
variable {P:Program}{ty:TypeId}{Wg Ch e n:Nat}{Anch:Goroutine→Mem→Prop}{ok:Nat→List Value→RO→Prop}{At:List Value→Goroutine→Mem→Prop}
 {S S':St} {gs:Array Goroutine} {w w':World} {sl:Option (Nat×Nat)} {t:Trace} {x:Nat} {g g':Goroutine} {es:Array Event} {M':Mem}
theorem Ph.own(H:Ph P ty Wg Ch e n Anch ok At S gs w t)(he:0<e)(hA:∀g M,Anch g M→g.status= .running)(hAt:∀rs g M,At rs g M→g.status= .running)(hx:gs[x]? =some g)(hG:Good (S.Ms x) w w' es M')(rm rc:Rk)(D:Nat→WK)
  (u0:x≠0→rm=S.rm) (uw:∀i,i<S.j→e+i≠x→D i=S.D i) (hD:∀i,i<S.j→(D i).stage=(S.D i).stage) (uc:e+n≠x→rc=S.rc) (hnm:S.mt= .prk→∀i,i<S.j→∀r,D i≠ .tree (.wait r))
  (n0:x=0→MSt P ty Wg Ch n Anch ok At rm S.rs g' M' S.mt) (nw:∀i,i<S.j→e+i=x→WSt P ty Wg Ch (ok i) w' (D i) (S.dd i) g' M' (S.sent i)) (nc:e+n=x→CSt P ty Wg Ch Anch rc S.qc g' M' S.ct)
  (hex:x=0∨e≤x) (h7:∀i,i<S.j→e+i=x→6<(S.D i).stage) (hncl:e+n=x→S.ct.closed=false):
  ∃ct,(ct=S.ct∨(S.ct= .blk∧ct= .w3))∧Ph P ty Wg Ch e n Anch ok At {S with rm:=rm,rc:=rc,D:=D,Ms:=setM S.Ms x M',ct:=ct} ((gs.map (woken P g g' w')).setIfInBounds x g') w' (t++MemOp.ofEvents x g.frame.fn g.frame.place es):=by
 obtain⟨hW,hC⟩:=H.wlt
 have hst:∀d,deafBehind d es=d:=fun d=>deafBehind_still (fun ev he=>ev_still (hG.evs ev he).1) d
 obtain⟨mt,ct,hm1,_,hc1,_,HP⟩:=H.go (S':={S with rm:=rm,rc:=rc,D:=D,Ms:=setM S.Ms x M'}) (w':=w') (es:=es) (g':=g') he hA hAt hx rfl rfl rfl rfl (fun h=>⟨rfl,u0 h⟩) (fun i hi h=>⟨uw i hi h,rfl⟩) (fun h=>⟨rfl,uc h,rfl⟩) (fun _ _=>rfl) (fun y hy=>setM_ne _ _ hy)
  (fun h=>by subst h;show MSt P ty Wg Ch n Anch ok At rm S.rs g' (setM S.Ms 0 M' 0) S.mt;rw [setM_same];exact n0 rfl)
  (fun i hi h=>by show WSt P ty Wg Ch (ok i) w' (D i) (S.dd i) g' (setM S.Ms x M' (e+i)) (S.sent i);rw [h,setM_same];exact nw i hi h)
  (fun h=>by show CSt P ty Wg Ch Anch rc S.qc g' (setM S.Ms x M' (e+n)) S.ct;rw [h,setM_same];exact nc h)
  (fun h1 h2=>by omega) (H.safe.own hG) (H.modeKeep hD (hG.same Wg hW (H.shw x).1))
  (by obtain⟨s,r,tm,hc⟩:=H.ch;exact⟨s,r,tm,(hG.same Ch hC (H.shc x).1).trans hc⟩) (fun h=>H.quit (acqd_of h)) ⟨H.shp.jn,H.shp.onj,H.shp.mtsp,H.shp.mtgo,H.shp.mtr,H.shp.mtw,hnm,H.shp.rs0⟩
  (fun _ h=>H.prkc h) (fun h hc=>by rw [H.prkc h] at hc;cases hc) (by show(Wg∉ (setM S.Ms x M' x).ids∧(setM S.Ms x M' x).ro Wg=none)∧(Ch∉ (setM S.Ms x M' x).ids∧(setM S.Ms x M' x).ro Ch=none);rw [setM_same];exact⟨hG.shun hW (H.shw x),hG.shun hC (H.shc x)⟩)
  (H.tf.go he (H.x_lt hx) rfl rfl H.size H.shp.onj H.shp.jn (fun _=>rfl) (fun _ _ _=>rfl) (fun _=>rfl) (fun _=>(hst _).symm) (fun _ _ _=>(hst _).symm) (fun _ _=>(hst _).symm) (fun ev he τ hτ hb=>(hG.mute_wg hW (H.shw x) ev he τ hτ hb).elim) hG.no_release
   (fun i _ hi h h6=>by have:=h7 i hi h;omega) (fun i hi h=> .inl (by have:=hD i hi;simp only at h;omega))
   (fun h=> .inl ⟨h,fun i hi=>by rw [H.quit h i (by rw [H.shp.onj (on_of_acqd h)];exact hi)];omega⟩) (fun h=> .inl ⟨h,fun hx=>by have:=hncl hx.symm;simp only at h;rw [this] at h;cases h⟩) (fun h1 h2=>by omega) (fun h=>⟨h,fun ev he τ hτ hb=>hG.mute_wg hC (H.shc x) ev he τ hτ hb⟩))
 have hmt:mt=S.mt:=by
  rcases hm1 with h|⟨h1,_,h3⟩
  ·exact h
  ·simp only at h1 h3;rw [H.prkc h1] at h3;cases h3
 subst hmt
 exact⟨ct,hc1,HP⟩
theorem WT.move:∀ {r:Wr} {okk:List Value→RO→Prop} {sent:List Value} {g:Goroutine} {M:Mem} {w:World},WT P ty Wg Ch okk r sent g M→Sat M w→
  (∃M',Good M w w #[] M'∧WT P ty Wg Ch okk .fin sent g M'∧(r= .fin∨WrLt .fin r))∨(g.status= .running∧∃g' w' es M' r',stepG P false g w= .go g' w' es∧Good M w w' es M'∧WT P ty Wg Ch okk r' sent g' M'∧WrLt r' r)∨
   (∃M' r',Good M w w #[] M'∧WT P ty Wg Ch okk (.send r') sent g M'∧(r= .send r'∨WrLt (.send r') r))
 | .fin,_,sent,g,M,w,h,hs=> .inl ⟨M,Good.refl hs,h, .inl rfl⟩
 | .step f,_,sent,g,M,w,h,hs=>by
  obtain⟨h0,h⟩:=h
  obtain⟨g',w',es,M',h1,h2,h3⟩:=h w hs
  exact .inr (.inl ⟨h0,g',w',es,M',f w,h1,h2,h3, .step w⟩)
 | .ghost f,_,sent,g,M,w,h,hs=>by
  obtain⟨M',h1,h2⟩:=h w hs
  rcases WT.move h2 h1.sat with⟨M₂,k1,k2,k3⟩|⟨k0,g',w',es,M₂,r',k1,k2,k3,k4⟩|⟨M₂,r',k1,k2,k3⟩
  ·have:=h1.trans k1
   rw [Array.empty_append] at this
   refine .inl ⟨M₂,this,k2, .inr ?_⟩
   rcases k3 with k3|k3
   ·rw [←k3];exact .ghost0 w
   ·exact .ghost w k3
  ·have:=h1.trans k2
   rw [Array.empty_append] at this
   exact .inr (.inl ⟨k0,g',w',es,M₂,r',k1,this,k3, .ghost w k4⟩)
  ·have:=h1.trans k1
   rw [Array.empty_append] at this
   refine .inr (.inr ⟨M₂,r',this,k2, .inr ?_⟩)
   rcases k3 with k3|k3
   ·rw [←k3];exact .ghost0 w
   ·exact .ghost w k3
 | .send r,_,sent,g,M,w,h,hs=> .inr (.inr ⟨M,r,Good.refl hs,h, .inl rfl⟩)
 | .wait _,_,_,_,_,_,h,_=>h.elim
def LateOk(P:Program)(ty:TypeId)(Wg C sz:Nat)(v:Value)(j i:Nat)(D:Nat→WD)(tag:CTag)(s m d:Nat)(g:Goroutine)(w:World):Prop:=
 ∃g' w' es s' m',stepG P false g w= .go g' w' es∧WSit P ty Wg C sz NoL NoL 0 1 v s' m' (deafBehind d es) g' w'∧(s'<s∨(s'=s∧m'<m))∧
  (∃st sm,WgAt ty Wg w' st sm∧∀tag',(tag'=tag∨(tag= .blk∧tag'= .w3))→(mayWake P g=true→g'.status= .running→tag'≠ .blk)→Go.ConcN.Mode j (upd D i ⟨s',m',deafBehind d es⟩) tag' st sm)∧
  ((s=7∧s'=7∧AsideCell C sz 0 w w'∧∀ev∈es,EvW Wg NoL NoL 1 ev)∨(s=7∧s'=6∧w'=w∧es= #[mk (.releaseMerge (stA Wg))])∨
   (s≤6∧Aside Wg w w'∧(∀ev∈es,Bk Wg ev)∧∀jx ev,es[jx]? =some ev→(MemAct.ofEvent ev).touch? =none∨0<deafBehind d (es.extract 0 jx)))
theorem deaf_two(a b:Event)(ha:a.loc≠ .mark .disable∧a.loc≠ .mark .enable)(d:Nat)(hd:0<d):∀jx ev,(#[a,b]:Array Event)[jx]? =some ev→(MemAct.ofEvent ev).touch? =none∨0<deafBehind d ((#[a,b]:Array Event).extract 0 jx):=by
 intro jx ev hev
 match jx,hev with
 |0,_=>exact .inr (by simpa [deafBehind] using hd)
 |1,_=>exact .inr (by
   have e1:(#[a,b]:Array Event).extract 0 1= #[a]:=by simp
   rw [e1,Go.ConcR.deafBehind_one ha.1 ha.2];exact hd)
 |jx+2,h=>simp at h
theorem deaf_sing(a:Event)(d:Nat)(hd:0<d):∀jx ev,(#[a]:Array Event)[jx]? =some ev→(MemAct.ofEvent ev).touch? =none∨0<deafBehind d ((#[a]:Array Event).extract 0 jx):=by
 intro jx ev hev
 match jx,hev with
 |0,_=>exact .inr (by simpa [deafBehind] using hd)
 |jx+1,h=>simp at h
theorem bk2(Wg:Nat):∀ev∈ #[rd (stA Wg),wr (stA Wg)],Bk Wg ev:=by
 intro ev h
 simp only [List.mem_toArray,List.mem_cons,List.not_mem_nil,or_false] at h
 rcases h with rfl|rfl
 ·exact .inr (.inr ⟨_,_,rfl,rfl⟩)
 ·exact .inr (.inr ⟨_,_,rfl,rfl⟩)
theorem bk1(Wg:Nat){ev:Event}(h:ev=rd (stA Wg)∨ev=wr (stA Wg)):∀x∈ #[ev],Bk Wg x:=by
 intro x hx
 simp only [List.mem_toArray,List.mem_cons,List.not_mem_nil,or_false] at hx
 subst hx
 rcases h with rfl|rfl<;>exact .inr (.inr ⟨_,_,rfl,rfl⟩)
theorem late_step{C sz:Nat}{v:Value}{j i:Nat}{D:Nat→WD}{tag:CTag}{s m d:Nat}{st sm:Int}(hW:WSit P ty Wg C sz NoL NoL 0 1 v s m d g w)(hs:g.status= .running)(hi:i<j)(hst:(D i).stage=s)(hwg:WgAt ty Wg w st sm)(hm:Go.ConcN.Mode j D tag st sm)
  (hb:j+pend tag<2147483648) (hCW:C≠Wg):LateOk P ty Wg C sz v j i D tag s m d g w:=by
 have hR:RW ty Wg C sz 0 0 w w:=RW.refl w
 have hVj:=Go.ConcN.Vc_le j D
 have dz2:deafBehind 1 #[rd (stA Wg),wr (stA Wg)]=1:=rfl
 have dzr:deafBehind 1 #[rd (stA Wg)]=1:=rfl
 have dzw:deafBehind 1 #[wr (stA Wg)]=1:=rfl
 have same:∀m',Go.ConcN.Mode j (upd D i ⟨s,m',d⟩) tag st sm:=fun m'=>by
  have:=hm.same (i:=i) m' d
  rwa [hst] at this
 have quiet:∀ {g':Goroutine} {m':Nat},stepG P false g w= .go g' w #[]→WSit P ty Wg C sz NoL NoL 0 1 v s m' d g' w→m'<m→s≤6→LateOk P ty Wg C sz v j i D tag s m d g w:=fun hgo hW' hlt h6=>
  ⟨_,_,_,_,_,hgo,hW', .inr ⟨rfl,hlt⟩,⟨st,sm,hwg,fun tag' ht _=>(same _).retag ht⟩, .inr (.inr ⟨h6,Aside.refl Wg w,by simp,by simp⟩)⟩
 cases hW with
 |r0 h=>
  rcases Goes.cases h with hstop|⟨m',rfl,hstep⟩
  ·obtain⟨_,_,g',hgo,m₂,hk⟩:=hstop w hR
   exact⟨_,_,_,_,_,hgo, .k1 hk, .inl O,⟨st,sm,hwg,fun tag' ht _=>(hm.counted hi O (.inl rfl) _ _).retag ht⟩, .inr (.inl ⟨rfl,rfl,rfl,rfl⟩)⟩
  ·obtain⟨g',w',es,hgo,⟨hac,hev⟩,hg'⟩:=hstep w hR
   have hd:deafBehind 0 es=0:=Go.ConcN.deafBehind_idle (fun e he=>⟨(hev e he).2.1,(hev e he).2.2.1⟩) 0
   refine⟨_,_,_,_,_,hgo,by rw [hd];exact .r0 hg', .inr ⟨rfl,O⟩,⟨st,sm,hwg.of_block (hac.block Wg (Ne.symm hCW)),fun tag' ht _=>?_⟩, .inl ⟨rfl,rfl,hac,hev⟩⟩
   rw [hd]
   exact(same _).retag ht
 |k1 h=>
  rcases Goes.cases h with hstop|⟨m',rfl,hstep⟩
  ·obtain⟨_,g',hgo,m₂,hk⟩:=hstop w hR
   refine⟨_,_,_,_,_,hgo, .d1 hk, .inl O,⟨st,sm,hwg,fun tag' ht _=>(hm.counted hi O (.inr U) _ _).retag ht⟩, .inr (.inr ⟨O,Aside.refl Wg w, ?_, ?_⟩)⟩
   ·intro ev hev;simp only [List.mem_toArray,List.mem_cons,List.not_mem_nil,or_false] at hev;subst hev;exact .inl rfl
   ·intro jx ev hev
    have:=Array.mem_of_getElem? hev
    simp only [List.mem_toArray,List.mem_cons,List.not_mem_nil,or_false] at this
    subst this;exact .inl rfl
  ·obtain⟨g',w',es,hgo,⟨rfl,rfl⟩,hg'⟩:=hstep w hR
   exact quiet hgo (.k1 hg') O O
 |d1 h=>
  rcases Goes.cases h with hstop|⟨m',rfl,hstep⟩
  ·obtain⟨_,hall⟩:=hstop w hR
   have hc1:cnt (D i)=1:=by simp [cnt,hst]
   have hV1:1≤Vc j D:=by have:=Go.ConcN.le_sumTo (f:=fun x=>cnt (D x)) hi;simp only [Vc];omega
   have hVq:∀q,Vc j (upd D i ⟨1,q,1⟩)+1=Vc j D:=fun q=>by
    have:=Go.ConcN.Vc_upd D (⟨1,q,1⟩:WD) hi
    have h0:cnt (⟨1,q,1⟩:WD)=0:=rfl
    omega
   have opq:∀q,OpenSt j D→OpenSt j (upd D i ⟨1,q,1⟩):=fun q h a ha=>by
    by_cases e:a=i
    ·subst e;rw [upd_same];simp
    ·rw [upd_ne D _ e];exact h a ha
   have hdf:∀ (x:Event) (y:Event),x=rd (stA Wg)→∀jx ev,(#[x,y]:Array Event)[jx]? =some ev→(MemAct.ofEvent ev).touch? =none∨0<deafBehind 1 ((#[x,y]:Array Event).extract 0 jx):=fun x y hx=>deaf_two x y (by subst hx;simp [rd]) 1 O
   cases hm with
   |opn h1 h2 h3=>
    obtain⟨c,hc⟩:∃c,Vc j D+pend tag=c+1:=⟨Vc j D+pend tag-1,O⟩
    rw [hc] at hwg
    obtain⟨g',hgo,_,hq⟩:=hall c 0 O O (by simpa using hwg)
    obtain⟨q,hq⟩:=hq O
    refine⟨_,_,_,1,q,hgo, .quit hq, .inl O,⟨_,_,hwg.setSt _,fun tag' ht _=>?_⟩, .inr (.inr ⟨O,Go.Conc.aside_setCell w (stA Wg) _,bk2 Wg,hdf _ _ rfl⟩)⟩
    refine Go.ConcN.Mode.retag ?_ ht;simp only [dz2,dzr,dzw]
    have e:((c:Nat):Int)*KK+((0:Nat):Int)=((Vc j (upd D i ⟨1,q,1⟩)+pend tag:Nat):Int)*KK:=by
     rw [show Vc j (upd D i ⟨1,q,1⟩)+pend tag=c by have:=hVq q;omega];simp
    rw [e]
    exact .opn h1 (opq q h2) (fun vs ev=>by have:=h3 vs ev;have:=hVq q;omega)
   |reg h1 h2 h3=>
    obtain⟨c,hc⟩:∃c,Vc j D=c+1:=⟨Vc j D-1,O⟩
    rw [hc] at hwg
    obtain⟨g',hgo,hl,hq⟩:=hall c 1 O O (by simpa using hwg)
    by_cases hc0:c=0
    ·obtain⟨m₂,hk⟩:=hl ⟨hc0,rfl⟩
     refine⟨_,_,_,4,m₂,hgo, .d2 hk, .inl O,⟨_,_,hwg.setSt _,fun tag' ht _=>?_⟩, .inr (.inr ⟨O,Go.Conc.aside_setCell w (stA Wg) _,bk2 Wg,hdf _ _ rfl⟩)⟩
     refine Go.ConcN.Mode.retag ?_ ht;simp only [dz2,dzr,dzw]
     have hoth:∀a,a<j→a≠i→(upd D i ⟨4,m₂,1⟩ a).stage=1:=fun a ha hne=>by
      rw [upd_ne D _ hne]
      have c0:=Go.ConcN.others_uncounted hi O hc1 a ha hne
      have:=h2 a ha
      simp only [cnt] at c0
      split at c0<;>omega
     have:=Go.ConcN.Mode.last (j:=j) (D:=upd D i ⟨4,m₂,1⟩) (tag:=tag) i h1 hi (by rw [upd_same];simp) hoth
     rw [upd_same] at this
     subst hc0
     simpa using this
    ·obtain⟨q,hq⟩:=hq O
     refine⟨_,_,_,1,q,hgo, .quit hq, .inl O,⟨_,_,hwg.setSt _,fun tag' ht _=>?_⟩, .inr (.inr ⟨O,Go.Conc.aside_setCell w (stA Wg) _,bk2 Wg,hdf _ _ rfl⟩)⟩
     refine Go.ConcN.Mode.retag ?_ ht;simp only [dz2,dzr,dzw]
     have e:((c:Nat):Int)*KK+((1:Nat):Int)=((Vc j (upd D i ⟨1,q,1⟩):Nat):Int)*KK+1:=by
      rw [show Vc j (upd D i ⟨1,q,1⟩)=c by have:=hVq q;omega];simp
     rw [e]
     exact .reg h1 (opq q h2) (by have:=hVq q;omega)
   |last L _ h2 h3 h4=>
    by_cases e:i=L
    ·subst e;omega
    ·have:=h4 i hi e;omega
   |sema h2=>have:=h2 i hi;omega
   |fin _ h2=>have:=h2 i hi;omega
  ·obtain⟨g',w',es,hgo,⟨rfl,rfl⟩,hg'⟩:=hstep w hR
   exact quiet hgo (.d1 hg') O O
 |d2 h=>
  rcases Goes.cases h with hstop|⟨m',rfl,hstep⟩
  ·obtain⟨_,hx⟩:=hstop w hR
   obtain⟨hW3,hoth,rfl,rfl⟩:=hm.isLast hi O
   simp only [hst] at hwg
   obtain⟨g',hgo,m₂,hk⟩:=hx (by simpa using hwg)
   refine⟨_,_,_,3,m₂,hgo, .d3 hk, .inl O,⟨_,_,hwg,fun tag' ht _=>?_⟩, .inr (.inr ⟨O,Aside.refl Wg w,bk1 Wg (.inl rfl),deaf_sing _ 1 O⟩)⟩
   refine Go.ConcN.Mode.retag ?_ ht;simp only [dz2,dzr,dzw]
   have:=Go.ConcN.Mode.last (j:=j) (D:=upd D i ⟨3,m₂,1⟩) (tag:=tag) i hW3 hi (by rw [upd_same];simp) (fun a ha e=>by rw [upd_ne D _ e];exact hoth a ha e)
   rw [upd_same] at this
   simpa using this
  ·obtain⟨g',w',es,hgo,⟨rfl,rfl⟩,hg'⟩:=hstep w hR
   exact quiet hgo (.d2 hg') O O
 |d3 h=>
  rcases Goes.cases h with hstop|⟨m',rfl,hstep⟩
  ·obtain⟨_,hx⟩:=hstop w hR
   obtain⟨hW3,hoth,rfl,rfl⟩:=hm.isLast hi O
   simp only [hst] at hwg
   obtain⟨g',hgo,m₂,hk⟩:=hx (by simpa using hwg)
   refine⟨_,_,_,2,m₂,hgo, .d4 hk, .inl O,⟨_,_,hwg.setSt 0,fun tag' ht _=>?_⟩, .inr (.inr ⟨O,Go.Conc.aside_setCell w (stA Wg) _,bk1 Wg (.inr rfl),deaf_sing _ 1 O⟩)⟩
   refine Go.ConcN.Mode.retag ?_ ht;simp only [dz2,dzr,dzw]
   have:=Go.ConcN.Mode.last (j:=j) (D:=upd D i ⟨2,m₂,1⟩) (tag:=tag) i hW3 hi (by rw [upd_same];simp) (fun a ha e=>by rw [upd_ne D _ e];exact hoth a ha e)
   rw [upd_same] at this
   simpa using this
  ·obtain⟨g',w',es,hgo,⟨rfl,rfl⟩,hg'⟩:=hstep w hR
   exact quiet hgo (.d3 hg') O O
 |d4 h=>
  rcases Goes.cases h with hstop|⟨m',rfl,hstep⟩
  ·obtain⟨_,hmw,hx⟩:=hstop w hR
   obtain⟨hW3,hoth,rfl,rfl⟩:=hm.isLast hi O
   simp only [hst] at hwg
   obtain⟨g',hgo,q,hq⟩:=hx (by simpa using hwg)
   have hrun':g'.status= .running:=by
    cases q with
    |zero=>exact absurd hq.2 Dd
    |succ q=>exact hq.elim (fun x=>absurd x.2 Dd) (fun x=>x.1)
   have hd:deafBehind 1 (semEvents (smA Wg))=1:=by simp [deafBehind,semEvents]
   refine⟨_,_,_,1,q,hgo,by rw [hd];exact .quit hq, .inl O,⟨_,_,hwg.setSm 1,fun tag' ht hw=>?_⟩, .inr (.inr ⟨O,Go.Conc.aside_setCell w (smA Wg) _,Go.ConcN.bk_sem, ?_⟩)⟩
   ·have hnb:=hw hmw hrun'
    have e3:tag'= .w3:=by
     rcases ht with rfl|⟨_,rfl⟩
     ·cases tag'<;>first|rfl|exact hW3.elim|exact absurd rfl hnb
     ·rfl
    subst e3
    simp only [if_true]
    exact .sema fun a ha=>by
     by_cases e:a=i
     ·subst e;rw [upd_same]
     ·rw [upd_ne D _ e];exact hoth a ha e
   ·intro jx ev hev
    match jx,hev with
    |0,h=>simp [semEvents] at h;subst h;exact .inl rfl
    |1,_=>exact .inr (by simp [deafBehind,semEvents])
    |2,_=>exact .inr (by simp [deafBehind,semEvents])
    |3,h=>simp [semEvents] at h;subst h;exact .inl rfl
    |jx+4,h=>simp [semEvents] at h
  ·obtain⟨g',w',es,hgo,⟨rfl,rfl⟩,hg'⟩:=hstep w hR
   exact quiet hgo (.d4 hg') O O
 |quit h=>
  cases m with
  |zero=>rw [h.1] at hs;cases hs
  |succ q=>
   rcases h with⟨hf,_⟩|⟨_,g',es,hmute,hstep,hq⟩
   ·rw [hf] at hs;cases hs
   ·refine⟨_,_,_,1,q,hstep w, .quit hq, .inr ⟨rfl,O⟩,⟨st,sm,hwg,fun tag' ht _=>?_⟩, .inr (.inr ⟨O,Aside.refl Wg w,fun ev he=>Go.ConcR.bk_of_mute (hmute ev he),fun jx ev hev=> .inl (touch_mute (hmute ev (Array.mem_of_getElem? hev)))⟩)⟩
    have:=hm.same (i:=i) q (deafBehind d es)
    rw [hst] at this
    exact this.retag ht
end
end Go.Lg
namespace Go.Lg
open Go Go.Conc
open Go.ConcR (KK WgAt stA smA rd wr mk Payload Bk)
open Go.ConcN (RW WgLive WSit CTag RelBy Vc sumTo upd upd_ne upd_same WD cnt OpenSt pend)
variable {k r:Nat}
section
variable {Wg Ch e n:Nat}{S S':St}{sz sz':Nat}{t u:Trace}
theorem nocount(hn:∀op∈u,op.act.touch? =none):∀k,t.size≤k→¬(t++u).counts k:=by
 intro k hk hc
 obtain⟨τ,hτ,_⟩:=hc
 obtain⟨op,ho,hoτ⟩:=touch_of hτ
 rcases getElem?_append_cases ho with⟨h1,_⟩|⟨_,h2⟩
 ·omega
 ·rw [hn op h2] at hoτ;cases hoτ
theorem newg{g:Nat}(hk:(t++u).g? k=some g):(t.g? k=some g∧k<t.size)∨(t.size≤k∧∃op∈u,op.g=g):=by
 obtain⟨op,ho,hog⟩:=Option.map_eq_some_iff.1 hk
 rcases getElem?_append_cases ho with⟨h1,h2⟩|⟨h1,h2⟩
 ·exact .inl ⟨by simp [Trace.g?,h2,hog],h1⟩
 ·exact .inr ⟨h1,op,h2,hog⟩
theorem relBy_still{a:Addr}(h:RelBy a t k r)(hn:∀op∈u,op.act.touch? =none):RelBy a (t++u) k r:=h.app fun i hi _=>nocount hn i hi
structure Dumb(op:MemOp):Prop where
 touch:op.act.touch? =none
 dis:op.act≠ .mark .disable
 en:op.act≠ .mark .enable
 rel:∀a,op.act≠ .mark (.release a)
 acq:∀a,op.act≠ .mark (.acquire a)
theorem Tf.still(h:Tf Wg Ch e n S sz t)(hsz:sz≤sz')(hu:∀op∈u,Dumb op∧op.g<sz')(hnew:∀k,Knows (t++u) 0 k→∀y,sz≤y→y<sz'→Knows (t++u) y k):Tf Wg Ch e n S sz' (t++u):=by
 have hn:∀op∈u,op.act.touch? =none:=fun op ho=>(hu op ho).1.touch
 have hD:∀y,Deaf (t++u) y=Deaf t y:=fun y=>Go.ConcN.Deaf_still t y u fun op ho=>⟨(hu op ho).1.dis,(hu op ho).1.en⟩
 refine⟨by rw [hD];exact h.deaf0,fun i hi=>by rw [hD];exact h.deafW i hi,fun ho=>by rw [hD];exact h.deafC ho,fun g hg=>by rw [hD];exact h.above g O,fun k τ hτ hb=>?_,h.norel.app fun op ho=>(hu op ho).1.rel _,fun i hi h6=>?_,fun k g hk h0 hge hcn=>?_,fun ha=>?_,fun hc=>?_,fun k g hk=>?_,fun hcl k τ hτ hb=>?_⟩
 ·rcases touchAt_app hτ with h1|⟨op,hop,_,hoτ⟩
  ·refine(h.qw k τ h1 hb).imp (fun⟨a,b⟩=>⟨a,fun hk=>(b hk).app _⟩) fun hall y hy=>?_
   rcases hy with rfl|⟨h2,h3⟩
   ·exact(hall 0 (.inl rfl)).app _
   ·by_cases h4:y<sz
    ·exact(hall y (.inr ⟨h2,h4⟩)).app _
    ·exact hnew k ((hall 0 (.inl rfl)).app _) y O h3
  ·rw [hn op hop] at hoτ;cases hoτ
 ·obtain⟨r,hr⟩:=h.rel i hi h6
  exact⟨r,relBy_still hr hn⟩
 ·rcases newg hk with⟨h1,h2⟩|⟨h1,_⟩
  ·exact(h.oldk k g h1 h0 hge ((counts_old h2).1 hcn)).app _
  ·exact absurd hcn (nocount hn k h1)
 ·obtain⟨qa,a1,a2,a3,a4⟩:=h.acq ha
  have hq:=lt_of_act? a1
  exact⟨qa,by rw [act?_old hq];exact a1,by rw [g?_old hq];exact a2,(heard_old hq).2 a3,fun i hi=>let⟨r,hr,hrq⟩:=a4 i hi;⟨r,relBy_still hr hn,hrq⟩⟩
 ·obtain⟨pc,a1,a2,a3,a4,a5⟩:=h.cls hc
  have hq:=lt_of_act? a1
  refine⟨pc,by rw [act?_old hq];exact a1,by rw [g?_old hq];exact a2,(heard_old hq).2 a3,fun k hk hcn=>?_,fun k hk hk2=>?_⟩
  ·rcases newg hk with⟨b1,b2⟩|⟨b1,_⟩
   ·exact a4 k b1 ((counts_old b2).1 hcn)
   ·exact absurd hcn (nocount hn k b1)
  ·obtain⟨op,ho,hoa⟩:=Option.map_eq_some_iff.1 hk
   rcases getElem?_append_cases ho with⟨c1,_⟩|⟨_,c2⟩
   ·exact a5 k (by rw [act?_old c1] at hk;exact hk) (by rw [g?_old c1] at hk2;exact hk2)
   ·exact absurd hoa ((hu op c2).1.acq _)
 ·rcases newg hk with⟨h1,_⟩|⟨_,op,ho,hog⟩
  ·have:=h.gsb k g h1;omega
  ·have:=(hu op ho).2;omega
 ·rcases touchAt_app hτ with h1|⟨op,hop,_,hoτ⟩
  ·intro y hy
   have hall:=h.qch hcl k τ h1 hb
   rcases hy with rfl|⟨h2,h3⟩
   ·exact(hall 0 (.inl rfl)).app _
   ·by_cases h4:y<sz
    ·exact(hall y (.inr ⟨h2,h4⟩)).app _
    ·exact hnew k ((hall 0 (.inl rfl)).app _) y O h3
  ·rw [hn op hop] at hoτ;cases hoτ
theorem fork_knows'{x y:MemOp}(hx:x.g=0∧x.act= .go k)(hy:y.g=k∧y.act= .start)(hk0:k≠0)(h0:Deaf t 0=0)(hk:Deaf t k=0){i:Nat}(h:Knows (t++ #[x,y]) 0 i):Knows (t++ #[x,y]) k i:=by
 have hxp:(t++ #[x,y])[t.size]? =some x:=by rw [Array.getElem?_append_right (Nat.le_refl _)];simp
 have hyp:(t++ #[x,y])[t.size+1]? =some y:=by rw [Array.getElem?_append_right O];simp
 obtain⟨q,z,h1,h2,h3⟩:=h
 have hq:q≤t.size:=by
  rcases Nat.lt_or_ge t.size q with hl|hl
  ·exfalso
   have hs:=lt_size_of_getElem? h1
   simp only [Array.size_append,List.size_toArray,List.length_cons,List.length_nil] at hs
   obtain rfl:q=t.size+1:=by omega
   rw [hyp] at h1;cases h1
   exact hk0 (hy.1.symm.trans h2)
  ·exact hl
 have hb:Before (t++ #[x,y]) i t.size:=by
  rcases Nat.lt_or_eq_of_le hq with hl|rfl
  ·exact h3.trans (.inr (hb_po hl h1 hxp (h2.trans hx.1.symm)))
  ·exact h3
 have e0:(t++ #[x,y]).heard t.size:=⟨0,by simp [Trace.g?,hx.1],by rw [deaf_old (Nat.le_refl _)];exact h0⟩
 have e1:(t++ #[x,y]).heard (t.size+1):=⟨k,by simp [Trace.g?,hy.1],by rw [deaf_succ hxp,deaf_old (Nat.le_refl _)];simp only [deafStep,hx.2];exact hk⟩
 exact⟨t.size+1,y,hyp,hy.1,hb.trans (.inr (.single (.inr ⟨.spawn (child:=k) (by rw [act?_of hxp,hx.2]) (by rw [act?_of hyp,hy.2]) (by simp [Trace.g?,hy.1]),e0,e1⟩)))⟩
theorem shp_sp{s:Nat}(h:Shp n S)(hmt:S.mt= .sp r s)(s':Nat)(rm':Rk):Shp n {S with mt:= .sp r s',rm:=rm'}:=
 ⟨h.jn,h.onj,fun r1 s1 e=>(by cases e;exact h.mtsp r s hmt),fun e=>(nomatch e),fun e=>(by simp at e),fun e=>(nomatch e),fun e=>(nomatch e),fun _=>h.rs0 (.inl ⟨r,s,hmt⟩)⟩
end
variable [Payload]
section
variable {P:Program}{ty:TypeId}{Wg Ch e n:Nat}{Anch:Goroutine→Mem→Prop}{ok:Nat→List Value→RO→Prop}{At:List Value→Goroutine→Mem→Prop}
 {S S':St} {gs:Array Goroutine} {w w':World} {sl:Option (Nat×Nat)} {t:Trace} {x:Nat} {g g':Goroutine} {es:Array Event} {M':Mem}
theorem Nx.turned{S1:St}(h:Nx P ty Wg Ch e n Anch ok At S1 gs w sl t x)(hm:muOf e n S1=muOf e n S∨MuLt n (muOf e n S1) (muOf e n S)):Nx P ty Wg Ch e n Anch ok At S gs w sl t x:=by
 obtain⟨gs',w',ops,S',h1,h2,h3,h4⟩:=h
 refine⟨gs',w',ops,S',h1,h2, ?_,h4⟩
 rcases hm with hm|hm
 ·rwa [hm] at h3
 ·exact h3.trans (.single hm)
theorem Ph.ne(H:Ph P ty Wg Ch e n Anch ok At S gs w t):Ch≠Wg:=by
 obtain⟨st,sm,h,_⟩:=H.wg
 obtain⟨s,r,tm,hc⟩:=H.ch
 rintro rfl
 unfold WgAt Go.ConcR.wgBlock at h
 rw [h] at hc
 cases hc
theorem Ph.m1(H:Ph P ty Wg Ch e n Anch ok At S gs w t)(he:0<e)(hA:∀g M,Anch g M→g.status= .running)(hAt:∀rs g M,At rs g M→g.status= .running){Stop:Goroutine→Mem→Prop}(hx:gs[0]? =some g)
  (hM:∀rk g M,MSt P ty Wg Ch n Anch ok At rk S.rs g M S.mt=T (WgLive ty Wg) P true Stop rk g M):
  Nx P ty Wg Ch e n Anch ok At S gs w sl t 0∨∃M',Ph P ty Wg Ch e n Anch ok At {S with rm:= .stop,rc:=S.rc,D:=S.D,Ms:=setM S.Ms 0 M'} gs w t∧Stop g M'∧
   (muOf e n {S with rm:= .stop,rc:=S.rc,D:=S.D,Ms:=setM S.Ms 0 M'}=muOf e n S∨MuLt n (muOf e n {S with rm:= .stop,rc:=S.rc,D:=S.D,Ms:=setM S.Ms 0 M'}) (muOf e n S)):=by
 obtain⟨a,ha,hm⟩:=H.main
 rw [hx] at ha;cases ha
 rw [hM] at hm
 rcases hm.move' (H.safe.sat 0) H.live with⟨M',hG,hst,hr⟩|⟨_,g',w',es,M',r',hgo,hG,hT,hlt⟩
 ·refine .inr ⟨M',H.turn (H.x_lt hx) hG .stop S.rc S.D (fun _ _=>rfl) H.shp.nomeet (fun a ha _=>?_) (fun i g hi hg hw=>?_) (fun g hg hw=>?_),hst, ?_⟩
  ·rw [hx] at ha;cases ha
   rw [setM_same,hM];exact hst
  ·rw [setM_ne _ _ O];exact hw
  ·rw [setM_ne _ _ O];exact hw
  ·rcases hr with hr|hr
   ·exact .inl (by unfold muOf;rw [hr])
   ·exact .inr (mu_rm rfl rfl rfl hr)
 ·obtain⟨ct,hc1,HP⟩:=H.own he hA hAt hx hG r' S.rc S.D (fun h=>absurd rfl h) (fun _ _ _=>rfl) (fun _ _=>rfl) (fun _=>rfl) H.shp.nomeet (fun _=>by rw [hM];exact hT) (fun i _ h=>by omega) (fun h=>by omega) (.inl rfl) (fun i _ h=>by omega) (fun h=>by omega)
  exact .inl ⟨_,_,_,_,runT_crowd_go hx hgo,HP, .single (mu_rm rfl rfl ((ct_back hc1).2.2.2.2.2 _ _) hlt),hG.os,hG.out⟩
theorem Ph.mBook(H:Ph P ty Wg Ch e n Anch ok At S gs w t)(he:0<e)(hA:∀g M,Anch g M→g.status= .running)(hAt:∀rs g M,At rs g M→g.status= .running)(hx:gs[0]? =some g)(hgo:stepG P true g w= .go g' w' es)(hoff:S.ct= .off)(hAs:Aside Wg w w'){s:Bool}(hev:∀ev∈es,WEv Wg s ev)
  (mt':MT) (rm':Rk) (hm:MSt P ty Wg Ch n Anch ok At rm' S.rs g' (S.Ms 0) mt') (hshp:Shp n {S with mt:=mt',rm:=rm'}) (hd:mt'.deaf=deafBehind S.mt.deaf es) {st sm:Int} (hwg:WgAt ty Wg w' st sm) (hmode:Go.ConcN.Mode S.j (kD S.D) (tagOf mt' .off) st sm) (hnum:mt'.num<S.mt.num) (hp:mt'≠ .prk):
  Nx P ty Wg Ch e n Anch ok At S gs w sl t 0:=by
 have hs:s=true→(0:Nat)=if S.ct.on then e+n else 0:=fun _=>by rw [hoff];rfl
 obtain⟨mt,ct,_,hm0,_,_,HP⟩:=H.go (S':={S with mt:=mt',rm:=rm'}) (w':=w') (es:=es) (g':=g') he hA hAt hx rfl rfl rfl rfl (fun h=>absurd rfl h) (fun _ _ _=>⟨rfl,rfl⟩) (fun _=>⟨rfl,rfl,rfl⟩) (fun _ _=>rfl) (fun _ _=>rfl) (fun _=>hm)
  (fun i _ h=>by omega) (fun h=>by omega) (fun h=>by omega) (H.safeBook hAs hev hs (.inl rfl) _ _) ⟨st,sm,hwg,fun ct hc _=>(by
   rcases hc with hc|⟨hc,_⟩
   ·simp only [hoff] at hc;rw [hc];exact hmode
   ·simp only [hoff] at hc;cases hc)⟩
  (by obtain⟨s,r,tm,hc⟩:=H.ch;exact⟨s,r,tm,(hAs.block Ch H.ne).trans hc⟩) (fun h=>(by simp only [hoff] at h;cases h)) hshp (fun _ h=>absurd h hp) (fun h _=>absurd h hp) ⟨H.shw 0,H.shc 0⟩
  (H.tf.go he (H.x_lt hx) rfl rfl H.size H.shp.onj H.shp.jn (fun h=>absurd rfl h) (fun _ _ _=>rfl) (fun _=>rfl) (fun _=>hd) (fun _ _ h=>by omega) (fun _ h=>by omega) (WEv.tf hev hs).1 (WEv.tf (S:=S) (e:=e) (n:=n) hev hs).2 (fun i _ _ h=>by omega) (fun _ _ h=> .inl h)
   (fun h=>(by simp only [hoff] at h;cases h)) (fun h=>(by simp only [hoff] at h;cases h)) (fun h=>by omega) (fun h=>⟨h,WEv.nch hev H.ne⟩))
 refine⟨_,_,_,_,runT_crowd_go hx hgo,HP, .single (mu_num ?_),hAs.os,hAs.output⟩
 rw [hm0 rfl]
 exact hnum
theorem Ph.sp6(H:Ph P ty Wg Ch e n Anch ok At S gs w t)(he:0<e)(hA:∀g M,Anch g M→g.status= .running)(hAt:∀rs g M,At rs g M→g.status= .running)(hx:gs[0]? =some g)(hmt:S.mt= .sp r 6)(h:AtS6 P ty Wg Ch ok (n- (r+1)) (Sp P ty Wg Ch Anch ok At n r) g (S.Ms 0)):Nx P ty Wg Ch e n Anch ok At S gs w sl t 0:=by
 obtain⟨hs,g',hgo,rm',hT⟩:=h
 obtain⟨_,_,hoff⟩:=H.shp.mtsp r 6 hmt
 obtain⟨st,sm,h1,h2⟩:=H.wg
 rw [hmt] at h2
 exact H.mBook (s:=true) he hA hAt hx (hgo w) hoff (Aside.refl Wg w) (fun ev hev=>by simp only [List.mem_toArray,List.mem_cons,List.not_mem_nil,or_false] at hev;subst hev;exact .disable) (.sp r 5) rm' hT (shp_sp H.shp hmt 5 rm') (by rw [hmt];rfl) h1 h2 (by rw [hmt];simp only [MT.num];omega) Zi
theorem Ph.sp4(H:Ph P ty Wg Ch e n Anch ok At S gs w t)(he:0<e)(hA:∀g M,Anch g M→g.status= .running)(hAt:∀rs g M,At rs g M→g.status= .running)(hx:gs[0]? =some g)(hmt:S.mt= .sp r 4)(h:AtS4 P ty Wg Ch ok (n- (r+1)) (Sp P ty Wg Ch Anch ok At n r) g (S.Ms 0)):Nx P ty Wg Ch e n Anch ok At S gs w sl t 0:=by
 obtain⟨hs,g',hgo,rm',hT⟩:=h
 obtain⟨_,_,hoff⟩:=H.shp.mtsp r 4 hmt
 obtain⟨st,sm,h1,h2⟩:=H.wg
 rw [hmt] at h2
 exact H.mBook (s:=true) he hA hAt hx (hgo w) hoff (Aside.refl Wg w) (fun ev hev=>by simp only [List.mem_toArray,List.mem_cons,List.not_mem_nil,or_false] at hev;subst hev;exact .read) (.sp r 3) rm' hT (shp_sp H.shp hmt 3 rm') (by rw [hmt];rfl) h1 h2 (by rw [hmt];simp only [MT.num];omega) Zi
theorem Ph.sp3(H:Ph P ty Wg Ch e n Anch ok At S gs w t)(he:0<e)(hA:∀g M,Anch g M→g.status= .running)(hAt:∀rs g M,At rs g M→g.status= .running)(hx:gs[0]? =some g)(hmt:S.mt= .sp r 3)(h:AtS3 P ty Wg Ch ok (n- (r+1)) (Sp P ty Wg Ch Anch ok At n r) g (S.Ms 0)):Nx P ty Wg Ch e n Anch ok At S gs w sl t 0:=by
 obtain⟨hs,g',hgo,rm',hT⟩:=h
 obtain⟨_,_,hoff⟩:=H.shp.mtsp r 3 hmt
 obtain⟨st,sm,h1,h2⟩:=H.wg
 rw [hmt] at h2
 exact H.mBook (s:=true) he hA hAt hx (hgo w) hoff (Aside.refl Wg w) (fun ev hev=>by simp only [List.mem_toArray,List.mem_cons,List.not_mem_nil,or_false] at hev;subst hev;exact .enable) (.sp r 2) rm' hT (shp_sp H.shp hmt 2 rm') (by rw [hmt];rfl) h1 h2 (by rw [hmt];simp only [MT.num];omega) Zi
theorem Ph.sp5(H:Ph P ty Wg Ch e n Anch ok At S gs w t)(he:0<e)(hn:n<2147483648)(hA:∀g M,Anch g M→g.status= .running)(hAt:∀rs g M,At rs g M→g.status= .running)(hx:gs[0]? =some g)(hmt:S.mt= .sp r 5)(h:AtS5 P ty Wg Ch ok (n- (r+1)) (Sp P ty Wg Ch Anch ok At n r) g (S.Ms 0)):Nx P ty Wg Ch e n Anch ok At S gs w sl t 0:=by
 obtain⟨hs,hall⟩:=h
 obtain⟨hr,hj,hoff⟩:=H.shp.mtsp r 5 hmt
 obtain⟨st,sm,h1,h2⟩:=H.wg
 rw [hmt] at h2
 obtain⟨ho,rfl,rfl,_⟩:=h2.open_inv trivial
 have hV:=Go.ConcN.Vc_le S.j (kD S.D)
 obtain⟨g',hgo,h0,hne⟩:=hall (Vc S.j (kD S.D)) O
 have hp4:pend (tagOf (.sp r 5) S.ct)=0:=rfl
 rw [hp4] at h1
 have hgo':=hgo w h1
 have hmode:∀s,s≤4→Go.ConcN.Mode S.j (kD S.D) (tagOf (.sp r s) .off) (((Vc S.j (kD S.D):Nat)+1)*KK) 0:=fun s hs=>by
  have e:(((Vc S.j (kD S.D):Nat):Int)+1)*KK=((Vc S.j (kD S.D)+pend (.sp r 3):Nat):Int)*KK:=by simp [pend]
  rw [e]
  simp only [tagOf,hs,if_true]
  exact .opn trivial ho Zi
 have hw:=h1.setSt (((Vc S.j (kD S.D):Nat)+1)*KK)
 have hev:∀ev∈ #[rd (stA Wg),wr (stA Wg)],WEv Wg true ev:=fun ev hev=> .bk (bk2 Wg ev hev)
 by_cases hv:Vc S.j (kD S.D)=0
 ·obtain⟨rm',hT⟩:=h0 hv
  exact H.mBook (s:=true) he hA hAt hx hgo' hoff (Go.Conc.aside_setCell w (stA Wg) _) hev (.sp r 4) rm' hT (shp_sp H.shp hmt 4 rm') (by rw [hmt];rfl) hw (hmode 4 O) (by rw [hmt];simp only [MT.num];omega) Zi
 ·obtain⟨rm',hT⟩:=hne hv
  exact H.mBook (s:=true) he hA hAt hx hgo' hoff (Go.Conc.aside_setCell w (stA Wg) _) hev (.sp r 3) rm' hT (shp_sp H.shp hmt 3 rm') (by rw [hmt];rfl) hw (hmode 3 O) (by rw [hmt];simp only [MT.num];omega) Zi
theorem Ph.sp2(H:Ph P ty Wg Ch e n Anch ok At S gs w t)(he:0<e)(hx:gs[0]? =some g)(hmt:S.mt= .sp r 2)(h:AtGo P ty Wg Ch ok (n- (r+1)) (Sp P ty Wg Ch Anch ok At n r) g (S.Ms 0)):Nx P ty Wg Ch e n Anch ok At S gs w sl t 0:=by
 obtain⟨hs,g',child,ro,c,o,hM,hsp,hcr,⟨rw',hWT⟩,rm',hT⟩:=h
 obtain⟨hr,hj,hoff⟩:=H.shp.mtsp r 2 hmt
 have hsz:gs.size=e+S.j:=by rw [H.size,hoff];rfl
 have hrun:=runT_crowd_spawn (P:=P) (sl:=sl) (i:=0) hx (hsp w)
 rw [hsz] at hrun
 generalize hX:({g:=0,fn:=g.frame.fn,pos:=g.frame.place,act:= .go (e+S.j) }:MemOp)=X at hrun
 generalize hY:({g:=e+S.j,fn:=child.frame.fn,pos:=g.frame.place,act:= .start}:MemOp)=Y at hrun
 have hXg:X.g=0∧X.act= .go (e+S.j):=by subst hX;exact⟨rfl,rfl⟩
 have hYg:Y.g=e+S.j∧Y.act= .start:=by subst hY;exact⟨rfl,rfl⟩
 have hops:((MemOp.ofEvents 0 g.frame.fn g.frame.place #[]).push X).push Y= #[X,Y]:=by rw [ofEvents_eq];simp
 rw [hops] at hrun
 have hdumb:∀op∈(#[X,Y]:Array MemOp),Dumb op∧op.g<gs.size+1:=by
  intro op hop
  simp only [List.mem_toArray,List.mem_cons,List.not_mem_nil,or_false] at hop
  rcases hop with rfl|rfl
  ·exact⟨⟨by rw [hXg.2];rfl,by rw [hXg.2];simp,by rw [hXg.2];simp,by rw [hXg.2];simp,by rw [hXg.2];simp⟩,by rw [hXg.1];omega⟩
  ·exact⟨⟨by rw [hYg.2];rfl,by rw [hYg.2];simp,by rw [hYg.2];simp,by rw [hYg.2];simp,by rw [hYg.2];simp⟩,by rw [hYg.1];omega⟩
 have hd0:Deaf t 0=0:=by have:=H.tf.deaf0;rw [hmt] at this;exact this
 have hdn:Deaf t (e+S.j)=0:=H.tf.above _ O
 have hbase:=H.tf.still (sz':=gs.size+1) O hdumb (fun k hk y h1 h2=>by
  have e0:y=e+S.j:=O
  rw [e0]
  exact fork_knows' hXg hYg O hd0 hdn hk)
 have hS2:Safe w (t++ #[X,Y]) S.Ms:=H.safe.still fun op ho=>(hdumb op ho).1.touch
 have hsafe:=hS2.split (i:=0) (j:=e+S.j) O hM (H.nomem _ O) (fun k hk=>⟨fork_knows' hXg hYg O hd0 hdn hk.1, .inr hk.1⟩)
 have hDd:∀y,Deaf (t++ #[X,Y]) y=Deaf t y:=fun y=>Go.ConcN.Deaf_still t y _ fun op ho=>⟨(hdumb op ho).1.dis,(hdumb op ho).1.en⟩
 obtain⟨mt',hnum,hdf,hm',hsh1,hsh2,hsh3,htag⟩:∃mt',mt'.num<S.mt.num∧mt'.deaf=0∧MSt P ty Wg Ch n Anch ok At rm' S.rs g' ⟨ro,o⟩ mt'∧(∀r1 s1,mt'= .sp r1 s1→r1<n∧S.j+1=n- (r1+1))∧(mt'= .goc→S.j+1=n)∧(mt'≠ .rng∧mt'≠ .prk∧mt'≠ .wok)∧(Go.ConcN.isOpen (tagOf mt' .off)∧pend (tagOf mt' .off)=0∧∀vs,tagOf mt' .off≠ .w2 vs):=by
  cases r with
  |zero=>exact⟨.goc,by rw [hmt];simp [MT.num],rfl,hT,fun _ _ e=>(nomatch e),fun _=>by omega,⟨by simp,by simp,by simp⟩,trivial,rfl,fun _ e=>nomatch e⟩
  |succ r=>exact⟨.sp r 6,by rw [hmt];simp only [MT.num];omega,rfl,hT,fun r1 s1 e=>by cases e;omega,fun e=>(nomatch e),⟨by simp,by simp,by simp⟩,trivial,rfl,fun _ e=>nomatch e⟩
 have hlt0:0<gs.size:=H.x_lt hx
 have get:∀y,y≠0→y<gs.size→((gs.setIfInBounds 0 g').push child)[y]? =gs[y]? :=fun y h0 hy=>by
  rw [Array.getElem?_push_lt (by simpa using hy), ←Array.getElem?_eq_getElem (by simpa using hy),Array.getElem?_setIfInBounds_ne (Ne.symm h0)]
 have getn:((gs.setIfInBounds 0 g').push child)[e+S.j]? =some child:=by
  have:(gs.setIfInBounds 0 g').size=e+S.j:=by simpa using hsz
  rw [←this];exact Array.getElem?_push_size
 have get0:((gs.setIfInBounds 0 g').push child)[0]? =some g':=by
  rw [Array.getElem?_push_lt (by simpa using hlt0), ←Array.getElem?_eq_getElem (by simpa using hlt0)]
  simp [hlt0]
 have hids:∀b,b∉ (S.Ms 0).ids→b∉Mem.ids ⟨ro,c⟩∧b∉Mem.ids ⟨ro,o⟩:=fun b hb=>by
  rw [hM] at hb
  simp only [Mem.ids,List.map_append,List.mem_append,not_or] at hb
  exact hb
 have hshun:∀b,(∀i,b∉ (S.Ms i).ids∧(S.Ms i).ro b=none)→∀i,b∉ (setM (setM S.Ms 0 ⟨ro,o⟩) (e+S.j) ⟨ro,c⟩ i).ids∧(setM (setM S.Ms 0 ⟨ro,o⟩) (e+S.j) ⟨ro,c⟩ i).ro b=none:=fun b hb i=>by
  have h0:=hb 0
  have hro:ro b=none:=by have:=h0.2;rwa [hM] at this
  by_cases e1:i=e+S.j
  ·subst e1;rw [setM_same];exact⟨(hids b h0.1).1,hro⟩
  ·rw [setM_ne _ _ e1]
   by_cases e2:i=0
   ·subst e2;rw [setM_same];exact⟨(hids b h0.1).2,hro⟩
   ·rw [setM_ne _ _ e2];exact hb i
 refine⟨_,_,_,{S with j:=S.j+1,mt:=mt',rm:=rm',D:=updK S.D S.j (.tree rw'),dd:=upd S.dd S.j 0,sent:=upd S.sent S.j [],Ms:=setM (setM S.Ms 0 ⟨ro,o⟩) (e+S.j) ⟨ro,c⟩ },hrun, ?_, .single (mu_num hnum),rfl,rfl⟩
 refine⟨⟨by show S.j+1≤n;omega,fun h=>(by simp only [hoff] at h;cases h),fun r1 s1 e=>⟨(hsh1 r1 s1 e).1,(hsh1 r1 s1 e).2,hoff⟩,fun e=>⟨hsh2 e,hoff⟩,fun e=>(by
   rcases e with e|e|e
   ·exact absurd e hsh3.1
   ·exact absurd e hsh3.2.1
   ·exact absurd e hsh3.2.2),fun e=>absurd e hsh3.2.2,fun e=>absurd e hsh3.2.1,fun _=>H.shp.rs0 (.inl ⟨r,2,hmt⟩)⟩,
  fun e=>absurd e hsh3.2.1, ?_,⟨g',get0, ?_⟩,fun i hi=>?_,fun h=>(by simp only [hoff] at h;cases h),fun i a h0 hi ha=>?_,hsafe,fun i hi=>?_, ?_,H.ch,hshun Wg H.shw,hshun Ch H.shc, ?_, ?_⟩
 ·simp only [Array.size_push,Array.size_setIfInBounds,hoff]
  rw [hsz];simp [CT.on];omega
 ·show MSt P ty Wg Ch n Anch ok At rm' S.rs g' (setM (setM S.Ms 0 ⟨ro,o⟩) (e+S.j) ⟨ro,c⟩ 0) mt'
  rw [setM_ne _ _ O,setM_same];exact hm'
 ·show∃g,_∧WSt P ty Wg Ch (ok i) w (updK S.D S.j (.tree rw') i) (upd S.dd S.j 0 i) g (setM (setM S.Ms 0 ⟨ro,o⟩) (e+S.j) ⟨ro,c⟩ (e+i)) (upd S.sent S.j [] i)
  simp only at hi
  by_cases hij:i=S.j
  ·subst hij
   refine⟨child,getn, ?_⟩
   rw [updK_same,upd_same,upd_same,setM_same]
   rw [←hj] at hWT
   exact .run hWT
  ·obtain⟨a,ha,hw⟩:=H.wk i O
   refine⟨a,by rw [get _ O O];exact ha, ?_⟩
   rw [updK_ne _ _ hij,upd_ne _ _ hij,upd_ne _ _ hij,setM_ne _ _ O,setM_ne _ _ O]
   exact hw
 ·rw [get _ O O] at ha
  rw [hDd];exact H.old i a h0 hi ha
 ·simp only [Array.size_push,Array.size_setIfInBounds] at hi
  show setM (setM S.Ms 0 ⟨ro,o⟩) (e+S.j) ⟨ro,c⟩ i=noMem
  rw [setM_ne _ _ O,setM_ne _ _ O]
  exact H.nomem i O
 ·obtain⟨st,sm,h1,h2⟩:=H.wg
  rw [hmt] at h2
  obtain⟨ho,rfl,rfl,_⟩:=h2.open_inv trivial
  refine⟨_,_,h1, ?_⟩
  show Go.ConcN.Mode (S.j+1) (kD (updK S.D S.j (.tree rw'))) (tagOf mt' S.ct) _ _
  rw [hoff]
  have eV:Vc (S.j+1) (kD (updK S.D S.j (.tree rw')))=Vc S.j (kD S.D)+1:=by
   simp only [Vc,sumTo]
   rw [Go.ConcN.sumTo_congr (g:=fun i=>cnt (kD S.D i)) (fun i hi=>by simp only [kD,updK_ne _ _ (show i≠S.j by omega)])]
   simp [kD,updK_same,cnt,WK.stage]
  have est:((Vc S.j (kD S.D)+pend (tagOf (.sp r 2) .off):Nat):Int)*KK=((Vc (S.j+1) (kD (updK S.D S.j (.tree rw')))+pend (tagOf mt' .off):Nat):Int)*KK:=by rw [eV,htag.2.1];rfl
  rw [est]
  refine .opn htag.1 (fun i hi=>?_) (fun vs e=>absurd e (htag.2.2 vs))
  by_cases hij:i=S.j
  ·subst hij;simp [kD,updK_same,WK.stage]
  ·simp only [kD,updK_ne _ _ hij];exact ho i O
 ·refine⟨?_,fun i=>by
   show(upd S.sent S.j [] i).length≤1
   by_cases hi:i=S.j
   ·subst hi;rw [upd_same];exact Nat.zero_le _
   ·rw [upd_ne _ _ hi];exact H.perm.2 i⟩
  show S.rs.Perm ((List.range (S.j+1)).flatMap (upd S.sent S.j []))
  rw [List.range_succ,List.flatMap_append]
  have e1:(List.range S.j).flatMap (upd S.sent S.j [])=(List.range S.j).flatMap S.sent:=by
   rw [List.flatMap_def,List.flatMap_def]
   congr 1
   refine List.map_congr_left fun i hi=>?_
   rw [upd_ne _ _ (by have:=List.mem_range.1 hi;omega)]
  rw [e1]
  simpa [upd_same] using H.perm.1
 ·simp only [Array.size_push,Array.size_setIfInBounds]
  refine⟨by rw [hDd,hd0];exact hdf.symm,fun i hi=>?_,fun h=>(by simp only [hoff] at h;cases h),hbase.above,fun k τ hτ hb=>hbase.qw k τ hτ hb,hbase.norel,fun i hi h6=>?_,hbase.oldk,fun h=>(by simp only [hoff] at h;cases h),fun h=>(by simp only [hoff] at h;cases h),hbase.gsb,hbase.qch⟩
  ·show _=upd S.dd S.j 0 i
   simp only at hi
   by_cases hij:i=S.j
   ·subst hij;rw [upd_same,hDd,hdn]
   ·rw [upd_ne _ _ hij];exact hbase.deafW i O
  ·simp only at hi h6
   by_cases hij:i=S.j
   ·subst hij;rw [updK_same] at h6;simp [WK.stage] at h6
   ·rw [updK_ne _ _ hij] at h6;exact hbase.rel i O h6
end
end Go.Lg
namespace Go.Lg
open Go Go.Conc
open Go.ConcR (KK WgAt stA smA rd wr mk Payload Bk)
open Go.ConcN (RW WgLive WSit CTag RelBy Vc sumTo upd upd_ne upd_same WD cnt OpenSt pend)
variable [Payload]
section
variable {P:Program}{ty:TypeId}{Wg Ch e n:Nat}{Anch:Goroutine→Mem→Prop}{ok:Nat→List Value→RO→Prop}{At:List Value→Goroutine→Mem→Prop}
 {S S':St} {gs:Array Goroutine} {w w':World} {sl:Option (Nat×Nat)} {t:Trace} {x:Nat} {g g':Goroutine} {es:Array Event} {M':Mem}
theorem Ph.goc(H:Ph P ty Wg Ch e n Anch ok At S gs w t)(he:0<e)(hx:gs[0]? =some g)(hmt:S.mt= .goc)(h:AtGoC P ty Wg Anch At g (S.Ms 0)):Nx P ty Wg Ch e n Anch ok At S gs w sl t 0:=by
 obtain⟨hs,g',child,ro,c,o,hM,hsp,hcr,⟨rc',hKd⟩,rm',hT⟩:=h
 obtain⟨hj,hoff⟩:=H.shp.mtgo hmt
 have hrs:=H.shp.rs0 (.inr hmt)
 have hsz:gs.size=e+n:=by rw [H.size,hoff,hj];rfl
 have hrun:=runT_crowd_spawn (P:=P) (sl:=sl) (i:=0) hx (hsp w)
 rw [hsz] at hrun
 generalize hX:({g:=0,fn:=g.frame.fn,pos:=g.frame.place,act:= .go (e+n) }:MemOp)=X at hrun
 generalize hY:({g:=e+n,fn:=child.frame.fn,pos:=g.frame.place,act:= .start}:MemOp)=Y at hrun
 have hXg:X.g=0∧X.act= .go (e+n):=by subst hX;exact⟨rfl,rfl⟩
 have hYg:Y.g=e+n∧Y.act= .start:=by subst hY;exact⟨rfl,rfl⟩
 have hops:((MemOp.ofEvents 0 g.frame.fn g.frame.place #[]).push X).push Y= #[X,Y]:=by rw [ofEvents_eq];simp
 rw [hops] at hrun
 have hdumb:∀op∈(#[X,Y]:Array MemOp),Dumb op∧op.g<gs.size+1:=by
  intro op hop
  simp only [List.mem_toArray,List.mem_cons,List.not_mem_nil,or_false] at hop
  rcases hop with rfl|rfl
  ·exact⟨⟨by rw [hXg.2];rfl,by rw [hXg.2];simp,by rw [hXg.2];simp,by rw [hXg.2];simp,by rw [hXg.2];simp⟩,by rw [hXg.1];omega⟩
  ·exact⟨⟨by rw [hYg.2];rfl,by rw [hYg.2];simp,by rw [hYg.2];simp,by rw [hYg.2];simp,by rw [hYg.2];simp⟩,by rw [hYg.1];omega⟩
 have hd0:Deaf t 0=0:=by have:=H.tf.deaf0;rw [hmt] at this;exact this
 have hdn:Deaf t (e+n)=0:=H.tf.above _ O
 have hbase:=H.tf.still (sz':=gs.size+1) O hdumb (fun k hk y h1 h2=>by
  have e0:y=e+n:=O
  rw [e0]
  exact fork_knows' hXg hYg O hd0 hdn hk)
 have hS2:Safe w (t++ #[X,Y]) S.Ms:=H.safe.still fun op ho=>(hdumb op ho).1.touch
 have hfk:∀k,Knows (t++ #[X,Y]) 0 k→Knows (t++ #[X,Y]) (e+n) k:=fun k hk=>fork_knows' hXg hYg O hd0 hdn hk
 have hsafe:=hS2.split (i:=0) (j:=e+n) O hM (H.nomem _ O) (fun k hk=>⟨hfk k hk.1, .inr hk.1⟩)
 have hDd:∀y,Deaf (t++ #[X,Y]) y=Deaf t y:=fun y=>Go.ConcN.Deaf_still t y _ fun op ho=>⟨(hdumb op ho).1.dis,(hdumb op ho).1.en⟩
 have hlt0:0<gs.size:=H.x_lt hx
 have get:∀y,y≠0→y<gs.size→((gs.setIfInBounds 0 g').push child)[y]? =gs[y]? :=fun y h0 hy=>by
  rw [Array.getElem?_push_lt (by simpa using hy), ←Array.getElem?_eq_getElem (by simpa using hy),Array.getElem?_setIfInBounds_ne (Ne.symm h0)]
 have getn:((gs.setIfInBounds 0 g').push child)[e+n]? =some child:=by
  have:(gs.setIfInBounds 0 g').size=e+n:=by simpa using hsz
  rw [←this];exact Array.getElem?_push_size
 have get0:((gs.setIfInBounds 0 g').push child)[0]? =some g':=by
  rw [Array.getElem?_push_lt (by simpa using hlt0), ←Array.getElem?_eq_getElem (by simpa using hlt0)]
  simp [hlt0]
 have hids:∀b,b∉ (S.Ms 0).ids→b∉Mem.ids ⟨ro,c⟩∧b∉Mem.ids ⟨ro,o⟩:=fun b hb=>by
  rw [hM] at hb
  simp only [Mem.ids,List.map_append,List.mem_append,not_or] at hb
  exact hb
 have hshun:∀b,(∀i,b∉ (S.Ms i).ids∧(S.Ms i).ro b=none)→∀i,b∉ (setM (setM S.Ms 0 ⟨ro,o⟩) (e+n) ⟨ro,c⟩ i).ids∧(setM (setM S.Ms 0 ⟨ro,o⟩) (e+n) ⟨ro,c⟩ i).ro b=none:=fun b hb i=>by
  have h0:=hb 0
  have hro:ro b=none:=by have:=h0.2;rwa [hM] at this
  by_cases e1:i=e+n
  ·subst e1;rw [setM_same];exact⟨(hids b h0.1).1,hro⟩
  ·rw [setM_ne _ _ e1]
   by_cases e2:i=0
   ·subst e2;rw [setM_same];exact⟨(hids b h0.1).2,hro⟩
   ·rw [setM_ne _ _ e2];exact hb i
 refine⟨_,_,_,{S with mt:= .rng,ct:= .kd,rm:=rm',rc:=rc',Ms:=setM (setM S.Ms 0 ⟨ro,o⟩) (e+n) ⟨ro,c⟩ },hrun, ?_, .single (mu_num (by rw [hmt];simp [MT.num])),rfl,rfl⟩
 refine⟨⟨H.shp.jn,fun _=>hj,fun r1 s1 e=>(nomatch e),fun e=>(nomatch e),fun _=>rfl,fun e=>(nomatch e),fun e=>(nomatch e),fun e=>(by simp at e)⟩,
  fun e=>(nomatch e), ?_,⟨g',get0, ?_⟩,fun i hi=>?_,fun _=>⟨child,getn, ?_⟩,fun i a h0 hi ha=>?_,hsafe,fun i hi=>?_, ?_,(by have:=H.ch;rw [hoff] at this;exact this),hshun Wg H.shw,hshun Ch H.shc,H.perm, ?_⟩
 ·simp only [Array.size_push,Array.size_setIfInBounds]
  rw [hsz,hj];simp [CT.on]
 ·show T (WgLive ty Wg) P true (At S.rs) rm' g' (setM (setM S.Ms 0 ⟨ro,o⟩) (e+n) ⟨ro,c⟩ 0)
  rw [setM_ne _ _ O,setM_same,hrs];exact hT
 ·show∃g,_∧WSt P ty Wg Ch (ok i) w (S.D i) (S.dd i) g (setM (setM S.Ms 0 ⟨ro,o⟩) (e+n) ⟨ro,c⟩ (e+i)) (S.sent i)
  simp only at hi
  obtain⟨a,ha,hw⟩:=H.wk i hi
  refine⟨a,by rw [get _ O O];exact ha, ?_⟩
  rw [setM_ne _ _ O,setM_ne _ _ O]
  exact hw
 ·show T (WgLive ty Wg) P false (AtKd P ty Wg Anch) rc' child (setM (setM S.Ms 0 ⟨ro,o⟩) (e+n) ⟨ro,c⟩ (e+n))
  rw [setM_same];exact hKd
 ·rw [get _ O O] at ha
  rw [hDd];exact H.old i a h0 hi ha
 ·simp only [Array.size_push,Array.size_setIfInBounds] at hi
  show setM (setM S.Ms 0 ⟨ro,o⟩) (e+n) ⟨ro,c⟩ i=noMem
  rw [setM_ne _ _ O,setM_ne _ _ O]
  exact H.nomem i O
 ·obtain⟨st,sm,h1,h2⟩:=H.wg
  rw [hmt,hoff] at h2
  exact⟨st,sm,h1,h2⟩
 ·simp only [Array.size_push,Array.size_setIfInBounds]
  refine⟨(by rw [hDd,hd0];rfl),hbase.deafW,fun _=>(by rw [hDd,hdn];rfl),hbase.above,fun k τ hτ hb=>?_,hbase.norel,hbase.rel,hbase.oldk,fun h=>(nomatch h),fun h=>(nomatch h),hbase.gsb,fun _=>hbase.qch (by rw [hoff];rfl)⟩
  refine(hbase.qw k τ hτ hb).imp (fun⟨q1,q2⟩=>⟨q1,fun hk=>?_⟩) id
  have:=q2 hk
  rw [hoff] at this
  exact hfk k this
theorem Ph.tag(H:Ph P ty Wg Ch e n Anch ok At S gs w t)(hon:S.ct.on=true)(ct:CT):tagOf S.mt ct=ct.tag:=by
 cases hm:S.mt with
 |sp r s=>have:=(H.shp.mtsp r s hm).2.2;rw [this] at hon;cases hon
 |_=>rfl
theorem Ph.c1(H:Ph P ty Wg Ch e n Anch ok At S gs w t)(he:0<e)(hA:∀g M,Anch g M→g.status= .running)(hAt:∀rs g M,At rs g M→g.status= .running){Stop:Goroutine→Mem→Prop}(hx:gs[e+n]? =some g)(hon:S.ct.on=true)
  (hC:∀rk g M,CSt P ty Wg Ch Anch rk S.qc g M S.ct=T (WgLive ty Wg) P false Stop rk g M) (hcl:S.ct.closed=false):
  Nx P ty Wg Ch e n Anch ok At S gs w sl t (e+n)∨∃M',Ph P ty Wg Ch e n Anch ok At {S with rm:=S.rm,rc:= .stop,D:=S.D,Ms:=setM S.Ms (e+n) M'} gs w t∧Stop g M'∧
   (muOf e n {S with rm:=S.rm,rc:= .stop,D:=S.D,Ms:=setM S.Ms (e+n) M'}=muOf e n S∨MuLt n (muOf e n {S with rm:=S.rm,rc:= .stop,D:=S.D,Ms:=setM S.Ms (e+n) M'}) (muOf e n S)):=by
 obtain⟨a,ha,hm⟩:=H.clo hon
 rw [hx] at ha;cases ha
 rw [hC] at hm
 have hjn:=H.shp.onj hon
 rcases hm.move' (H.safe.sat (e+n)) H.live with⟨M',hG,hst,hr⟩|⟨_,g',w',es,M',r',hgo,hG,hT,hlt⟩
 ·refine .inr ⟨M',H.turn (H.x_lt hx) hG S.rm .stop S.D (fun _ _=>rfl) H.shp.nomeet (fun a ha hm=>?_) (fun i g hi hg hw=>?_) (fun g hg hw=>?_),hst, ?_⟩
  ·rw [setM_ne _ _ O];exact hm
  ·rw [setM_ne _ _ O];exact hw
  ·rw [hx] at hg;cases hg
   rw [setM_same,hC];exact hst
  ·rcases hr with hr|hr
   ·exact .inl (by unfold muOf;rw [hr])
   ·exact .inr (mu_rc rfl rfl rfl rfl hr)
 ·obtain⟨ct,hc1,HP⟩:=H.own he hA hAt hx hG S.rm r' S.D (fun h=>rfl) (fun _ _ _=>rfl) (fun _ _=>rfl) (fun h=>absurd rfl h) H.shp.nomeet (fun h=>by omega) (fun i _ h=>by omega) (fun h=>by rw [hC];exact hT) (.inr O) (fun i _ h=>by omega) (fun h=>hcl)
  exact .inl ⟨_,_,_,_,runT_crowd_go hx (by rw [show(e+n==0)=false by simp;omega];exact hgo),HP, .single (mu_rc rfl rfl ((ct_back hc1).2.2.2.2.2 _ _) rfl hlt),hG.os,hG.out⟩
theorem Ph.cBook(H:Ph P ty Wg Ch e n Anch ok At S gs w t)(he:0<e)(hA:∀g M,Anch g M→g.status= .running)(hAt:∀rs g M,At rs g M→g.status= .running)(hx:gs[e+n]? =some g)(hgo:stepG P false g w= .go g' w' es)(hon:S.ct.on=true)(hAs:Aside Wg w w'){s:Bool}(hev:∀ev∈es,WEv Wg s ev)
  (ct':CT) (rc':Rk) (qc':Nat) (hc:CSt P ty Wg Ch Anch rc' qc' g' (S.Ms (e+n)) ct') (hon':ct'.on=true) (hd:ct'.deaf=deafBehind S.ct.deaf es) {st sm:Int} (hwg:WgAt ty Wg w' st sm) (hmode:Go.ConcN.Mode S.j (kD S.D) ct'.tag st sm)
  (hcl:ct'.closed=S.ct.closed) (hac:ct'.acqd=true→(S.ct.acqd=true)∨(S.ct= .aq∧es= #[Go.ConcR.mk (.acquire (stA Wg))])) (hcs:S.ct.closed=true→∀ev∈es,(MemAct.ofEvent ev).touch? =none∧ev.loc≠ .mark (.acquire (stA Wg)))
  (hmu:MuLt n (muOf e n {S with ct:=ct',rc:=rc',qc:=qc'}) (muOf e n S)):
  Nx P ty Wg Ch e n Anch ok At S gs w sl t (e+n):=by
 have hs:s=true→e+n=if S.ct.on then e+n else 0:=fun _=>by rw [hon];rfl
 have hjn:=H.shp.onj hon
 obtain⟨hm1,hm2,hm3⟩:(∀r s,S.mt≠ .sp r s)∧S.mt≠ .goc∧True:=⟨fun r s h=>(by have:=(H.shp.mtsp r s h).2.2;rw [this] at hon;cases hon),fun h=>(by have:=(H.shp.mtgo h).2;rw [this] at hon;cases hon),trivial⟩
 have hB:∀ct,(ct=ct'∨(ct'= .blk∧ct= .w3))→(mayWake P g=true→g'.status= .running→e+n≠e+n→ct≠ .blk)→Go.ConcN.Mode S.j (kD S.D) (tagOf S.mt ct) st sm:=by
  intro ct hc hb
  rw [H.tag hon]
  rcases hc with hc|⟨hc,hc2⟩
  ·rw [hc];exact hmode
  ·subst hc
   rw [hc2]
   exact hmode.retag (.inr ⟨rfl,rfl⟩)
 have hC:ct'.acqd=true→S.ct.acqd=true∧(∀i,i<n→(S.D i).stage≤6)∨(e+n=e+n∧∃qa,(t++MemOp.ofEvents (e+n) g.frame.fn g.frame.place es).act? qa=some (.mark (.acquire (stA Wg)))∧(t++MemOp.ofEvents (e+n) g.frame.fn g.frame.place es).g? qa=some (e+n)∧(t++MemOp.ofEvents (e+n) g.frame.fn g.frame.place es).heard qa∧∀i,i<n→∃r,RelBy (stA Wg) (t++MemOp.ofEvents (e+n) g.frame.fn g.frame.place es) (e+i) r∧r<qa):=by
  intro h
  rcases hac h with ha|⟨ha,hes⟩
  ·exact .inl ⟨ha,fun i hi=>by rw [H.quit ha i (by rw [hjn];exact hi)];omega⟩
  ·subst hes
   refine .inr ⟨rfl, ?_⟩
   have hq:∀i,i<S.j→(S.D i).stage=1:=by
    obtain⟨st,sm,_,h2⟩:=H.wg
    rw [H.tag hon,ha] at h2
    exact(h2.fin_inv trivial).1
   have e1:MemOp.ofEvents (e+n) g.frame.fn g.frame.place #[Go.ConcR.mk (.acquire (stA Wg))]= #[{g:=e+n,fn:=g.frame.fn,pos:=g.frame.place,act:= .mark (.acquire (stA Wg)) }]:=by rw [ofEvents_eq];simp [Go.ConcR.ofEvent_mk]
   have hy:(t++ #[({g:=e+n,fn:=g.frame.fn,pos:=g.frame.place,act:= .mark (.acquire (stA Wg)) }:MemOp)])[t.size]? =some {g:=e+n,fn:=g.frame.fn,pos:=g.frame.place,act:= .mark (.acquire (stA Wg)) }:=by simp
   have hdC:Deaf t (e+n)=0:=by rw [H.tf.deafC hon,ha];rfl
   refine⟨t.size,by rw [e1,act?_of hy],by rw [e1];simp [Trace.g?],by rw [e1];exact⟨e+n,by simp [Trace.g?],by rw [deaf_old (Nat.le_refl _)];exact hdC⟩,fun i hi=>?_⟩
   obtain⟨r,hr⟩:=H.tf.rel i O (by rw [hq i O];omega)
   exact⟨r,relBy_still hr (by rw [e1];intro op hop;simp only [List.mem_toArray,List.mem_cons,List.not_mem_nil,or_false] at hop;subst hop;rfl),lt_of_act? hr.act⟩
 obtain⟨mt,ct,hmt,_,_,hct,HP⟩:=H.go (S':={S with ct:=ct',rc:=rc',qc:=qc'}) (w':=w') (es:=es) (g':=g') he hA hAt hx rfl rfl rfl (by rw [hon];exact hon') (fun _=>⟨rfl,rfl⟩) (fun _ _ _=>⟨rfl,rfl⟩) (fun h=>absurd rfl h) (fun _ _=>rfl) (fun _ _=>rfl) (fun h=>by omega)
  (fun i _ h=>by omega) (fun h=>hc) (fun h1 h2=>by omega) (H.safeBook hAs hev hs (.inr (.inl ⟨O,H.x_lt hx⟩)) _ _)
  ⟨st,sm,hwg,hB⟩ (by obtain⟨s,r,tm,hc⟩:=H.ch;exact⟨s,r,tm,(by show _=some (Obj.chan 0 #[] ct'.closed s r tm);rw [hcl];exact(hAs.block Ch H.ne).trans hc)⟩) (fun h=>H.quit (acqd_of (by rw [←hcl];exact h)))
  ⟨H.shp.jn,fun _=>hjn,fun r s h=>absurd h (hm1 r s),fun h=>absurd h hm2,fun _=>hon',fun h=>by show ct'.closed=true;rw [hcl];exact H.shp.mtw h,H.shp.nomeet,H.shp.rs0⟩
  (fun h=>by omega) (fun h hc=>by simp only at h hc;rw [hcl,H.prkc h] at hc;cases hc) ⟨H.shw _,H.shc _⟩
  (H.tf.go he (H.x_lt hx) rfl (by rw [hon];exact hon') H.size H.shp.onj H.shp.jn (fun _=>rfl) (fun _ _ _=>rfl) (fun h=>absurd rfl h) (fun h=>by omega) (fun _ _ h=>by omega) (fun _ _=>hd) (WEv.tf hev hs).1 (WEv.tf (S:=S) (e:=e) (n:=n) hev hs).2 (fun i _ _ h=>by omega) (fun _ _ h=> .inl h)
   hC (fun h=> .inl ⟨by rw [←hcl];exact h,fun _=>hcs (by rw [←hcl];exact h)⟩) (fun _ h=>by omega) (fun h=>⟨by rw [←hcl];exact h,WEv.nch hev H.ne⟩))
 have hmt':mt=S.mt:=by
  rcases hmt with h|⟨h1,_,h3⟩
  ·exact h
  ·simp only at h1 h3;rw [hcl,H.prkc h1] at h3;cases h3
 have hct':ct=ct':=hct rfl
 subst hmt' hct'
 exact⟨_,_,_,_,runT_crowd_go hx (by rw [show(e+n==0)=false by simp;omega];exact hgo),HP, .single hmu,hAs.os,hAs.output⟩
end
end Go.Lg
namespace Go.Lg
open Go Go.Conc
open Go.ConcR (KK WgAt stA smA rd wr mk Payload Bk)
open Go.ConcN (RW WgLive WSit CTag RelBy Vc sumTo upd upd_ne upd_same WD cnt OpenSt pend AsideCell EvW PayAt)
variable {C d i m s:Nat}{v:Value}{cs:Array Value}
theorem setM_id(Ms:Nat→Mem)(i:Nat):setM Ms i (Ms i)=Ms:=by
 funext j;simp only [setM];split<;>simp_all
variable [Payload]
section
variable {P:Program}{ty:TypeId}{Wg Ch e n:Nat}{Anch:Goroutine→Mem→Prop}{ok:Nat→List Value→RO→Prop}{At:List Value→Goroutine→Mem→Prop}
 {S S':St} {gs:Array Goroutine} {w w':World} {sl:Option (Nat×Nat)} {t:Trace} {x:Nat} {g g':Goroutine} {es:Array Event} {M':Mem}
theorem WSit.deaf7{sz:Nat}(h:WSit P ty Wg C sz NoL NoL 0 1 v s m d g w)(hs:s=7):d=0:=by
 cases h<;>first|rfl|omega
theorem tag_blk{mt:MT}{ct:CT}(h:ct≠ .blk):tagOf mt ct≠ .blk:=by
 cases mt<;>cases ct<;>first|exact absurd rfl h|exact fun e=>nomatch e
theorem Ph.pend_le(H:Ph P ty Wg Ch e n Anch ok At S gs w t):S.j+pend (tagOf S.mt S.ct)≤n:=by
 have hj:=H.shp.jn
 cases hm:S.mt with
 |sp r s=>
  obtain⟨h1,h2,_⟩:=H.shp.mtsp r s hm
  have:pend (tagOf (.sp r s) S.ct)≤1:=by simp only [tagOf,pend];split<;>simp
  omega
 |_=>cases hc:S.ct<;>simp only [tagOf,CT.tag,pend]<;>omega
theorem Ph.lateSafe(H:Ph P ty Wg Ch e n Anch ok At S gs w t)(hxe:e≤x)(hxl:x<gs.size)(hown:(S.Ms x).own= [(C, .cells cs Payload.ety)]){s':Nat} 
  (h:(s=7∧s'=7∧AsideCell C cs.size 0 w w'∧∀ev∈es,EvW Wg NoL NoL 1 ev)∨(s=7∧s'=6∧w'=w∧es= #[Go.ConcR.mk (.releaseMerge (stA Wg))])∨(s≤6∧Aside Wg w w'∧(∀ev∈es,Bk Wg ev)∧∀jx ev,es[jx]? =some ev→(MemAct.ofEvent ev).touch? =none∨0<deafBehind d (es.extract 0 jx))) (fn:FuncId) (pos:String):
  ∃M' cs',M'.ro=(S.Ms x).ro∧M'.own= [(C, .cells cs' Payload.ety)]∧cs'.size=cs.size∧M'.ids=(S.Ms x).ids∧Safe w' (t++MemOp.ofEvents x fn pos es) (setM S.Ms x M')∧(∀ev∈es,WEv Wg false ev)∧w'.heap[Ch]? =w.heap[Ch]? :=by
 have hCi:C∈(S.Ms x).ids:=by simp [Mem.ids,hown]
 have hCh:Ch≠C:=fun e=>(H.shc x).1 (e▸hCi)
 rcases h with⟨_,_,hac,hev⟩|⟨_,_,rfl,rfl⟩|⟨_,hAs,hbk,_⟩
 ·have hC:w.heap[C]? =some (.cells cs Payload.ety):=(H.safe.sat x).own C _ (by rw [hown];simp)
  obtain⟨cs',hC',hsz⟩:=hac.pay ⟨cs,hC,rfl⟩
  have hid:Mem.ids ⟨(S.Ms x).ro, [(C, .cells cs' Payload.ety)]⟩=(S.Ms x).ids:=by simp [Mem.ids,hown]
  have hG:Good (S.Ms x) w w' #[] ⟨(S.Ms x).ro, [(C, .cells cs' Payload.ety)]⟩:=by
   refine⟨⟨fun b o hb=>?_,fun b o hb=>?_,by rw [hid];exact(H.safe.sat x).nodup,fun b hb=>(H.safe.sat x).apart b (by rw [←hid];exact hb)⟩,RO.le_refl _,by rw [hac.size];exact Nat.le_refl _,fun b _ hb=>hac.block b fun e=>hb (e▸hCi),fun b hb=> .inl (by rw [←hid];exact hb),fun b hb=> .inl hb,hac.tape,hac.os,hac.output,by simp⟩
   ·rw [hac.block b fun e=>?_]
    ·exact(H.safe.sat x).ro b o hb
    ·subst e;have:=(H.safe.sat x).apart b hCi;simp only at hb;rw [this] at hb;cases hb
   ·simp only [List.mem_cons,Prod.mk.injEq,List.not_mem_nil,or_false] at hb
    obtain⟨rfl,rfl⟩:=hb
    exact hC'
  have hS1:Safe w' t (setM S.Ms x ⟨(S.Ms x).ro, [(C, .cells cs' Payload.ety)]⟩):=by
   have:=H.safe.own (fn:=fn) (pos:=pos) hG
   rwa [ofEvents_none] at this
  have hwe:∀ev∈es,WEv Wg false ev:=fun ev he=>by
   obtain⟨h1,_,_,h2⟩:=hev ev he
   refine⟨fun τ hτ=>?_,h2⟩
   rcases(h1 0 "").2 τ hτ with⟨⟨a,ha,hab⟩,hk,hk2⟩|hk|hk
   ·exact⟨by rw [ha];simp [blockOf,hab],hk,fun h=>absurd h hk2⟩
   ·exact hk.elim
   ·exact hk.1.elim
  have hsh:∀i,Wg∉ (setM S.Ms x ⟨(S.Ms x).ro, [(C, .cells cs' Payload.ety)]⟩ i).ids∧(setM S.Ms x ⟨(S.Ms x).ro, [(C, .cells cs' Payload.ety)]⟩ i).ro Wg=none:=fun i=>by
   by_cases e0:i=x
   ·subst e0;rw [setM_same,hid];exact H.shw i
   ·rw [setM_ne _ _ e0];exact H.shw i
  have hu:∀op∈MemOp.ofEvents x fn pos es,op.g=x∧∀τ,op.act.touch? =some τ→blockOf τ.loc=some Wg∧τ.kind≠ .plain∧(τ.kind= .said→x=if S.ct.on then e+n else 0):=by
   intro op hop
   obtain⟨ev,hev',rfl⟩:=Go.Conc.mem_ofEvents hop
   exact⟨rfl,fun τ hτ=>let⟨a,b,c⟩:=(hwe ev hev').touch τ hτ;⟨a,b,fun h=>by have:=c h;cases this⟩⟩
  refine⟨⟨(S.Ms x).ro, [(C, .cells cs' Payload.ety)]⟩,cs',rfl,rfl,hsz,hid, ?_,hwe,hac.block Ch hCh⟩
  refine hS1.shared (B:=Wg) (fun op hop τ hτ=>⟨((hu op hop).2 τ hτ).1,((hu op hop).2 τ hτ).2.1⟩) hsh (fun _ _=>rfl) U (fun op hop τ hτ b hb=>?_) (fun said=>H.tf.wgRace hS1 (fun op hop=>(hu op hop).1) (fun op hop=>(hu op hop).2) (.inr (.inl ⟨hxe,hxl⟩)) said)
  rw [((hu op hop).2 τ hτ).1] at hb;cases hb
  rw [hac.size];exact H.wlt.1
 ·have hwe:∀ev∈ #[Go.ConcR.mk (.releaseMerge (stA Wg))],WEv Wg false ev:=fun ev he=>by simp only [List.mem_toArray,List.mem_cons,List.not_mem_nil,or_false] at he;subst he;exact .relm
  exact⟨S.Ms x,cs,rfl,hown,rfl,rfl,by rw [setM_id];exact H.safeBook (Aside.refl Wg _) hwe Zi (.inr (.inl ⟨hxe,hxl⟩)) _ _,hwe,rfl⟩
 ·have hwe:∀ev∈es,WEv Wg false ev:=fun ev he=> .bk (hbk ev he)
  exact⟨S.Ms x,cs,rfl,hown,rfl,rfl,by rw [setM_id];exact H.safeBook hAs hwe Zi (.inr (.inl ⟨hxe,hxl⟩)) _ _,hwe,hAs.block Ch H.ne⟩
theorem Ph.wLate(H:Ph P ty Wg Ch e n Anch ok At S gs w t)(he:0<e)(hn:n<2147483648)(hA:∀g M,Anch g M→g.status= .running)(hAt:∀rs g M,At rs g M→g.status= .running)(hi:i<S.j)(hx:gs[e+i]? =some g)(hs:g.status= .running) 
  (hown:(S.Ms (e+i)).own= [(C, .cells cs Payload.ety)]) (hok:ok i (S.sent i) (S.Ms (e+i)).ro) (hs7:s≤7) (hst:(S.D i).stage=s) (hW:WSit P ty Wg C cs.size NoL NoL 0 1 v s m (S.dd i) g w) (hlt:∀s' m',(s'<s∨(s'=s∧m'<m))→WkLt (.late s' m') (S.D i)):
  Nx P ty Wg Ch e n Anch ok At S gs w sl t (e+i):=by
 obtain⟨st,sm,hwg,hmode⟩:=H.wg
 have hjn:=H.shp.jn
 have hCi:C∈(S.Ms (e+i)).ids:=by simp [Mem.ids,hown]
 obtain⟨g',w',es,s',m',hgo,hW',hl,⟨st',sm',hwg',hmode'⟩,hkind⟩:=late_step hW hs hi (D:=kD S.D) hst hwg hmode (by have:=H.pend_le;omega) (fun e0=>(H.shw (e+i)).1 (e0▸hCi))
 have hso:SameOut w w':=by
  rcases hkind with⟨_,_,hac,_⟩|⟨_,_,h,_⟩|⟨_,hAs,_⟩
  ·exact⟨hac.os,hac.output⟩
  ·rw [h];exact⟨rfl,rfl⟩
  ·exact⟨hAs.os,hAs.output⟩
 obtain⟨M',cs',hro,hown',hsz,hid,hsafe,hwe,hchk⟩:=H.lateSafe O (H.x_lt hx) hown hkind g.frame.fn g.frame.place
 have hdf:Deaf t (e+i)=S.dd i:=H.tf.deafW i hi
 have hact:S.ct.acqd=true→∀i,i<S.j→(S.D i).stage=1:=H.quit
 obtain⟨mt,ct,hmt,_,hct,_,HP⟩:=H.go (S':={S with D:=updK S.D i (.late s' m'),dd:=upd S.dd i (deafBehind (S.dd i) es),Ms:=setM S.Ms (e+i) M'}) (w':=w') (es:=es) (g':=g') he hA hAt hx rfl rfl rfl rfl (fun _=>⟨rfl,rfl⟩)
  (fun i' _ h=>⟨updK_ne _ _ O,upd_ne _ _ O⟩) (fun _=>⟨rfl,rfl,rfl⟩) (fun _ _=>rfl) (fun y hy=>setM_ne _ _ hy) (fun h=>by omega)
  (fun i' _ h=>by
   obtain rfl:i'=i:=by omega
   show WSt P ty Wg Ch (ok i') w' (updK S.D i' (.late s' m') i') (upd S.dd i' (deafBehind (S.dd i') es) i') g' (setM S.Ms (e+i') M' (e+i')) (S.sent i')
   rw [updK_same,upd_same,setM_same]
   exact .late (by rw [hro];exact hok) hown' O (by rw [hsz];exact hW'))
  (fun h=>by omega) (fun h1 h2=>by omega) hsafe
  ⟨st',sm',hwg',fun ct hc hb=>by
   refine(hmode' (tagOf S.mt ct) (tag_re hc) fun k1 k2=>tag_blk (hb k1 k2 O)).congr fun a ha=>?_
   by_cases e0:a=i
   ·subst e0;simp only [kD];rw [updK_same,upd_same];rfl
   ·rw [upd_ne _ _ e0];simp only [kD];rw [updK_ne _ _ e0]⟩
  (by obtain⟨s,r,tm,hc⟩:=H.ch;exact⟨s,r,tm,hchk.trans hc⟩) (fun h=>H.quit (acqd_of h))
  ⟨H.shp.jn,H.shp.onj,H.shp.mtsp,H.shp.mtgo,H.shp.mtr,H.shp.mtw,fun h i' hi' r=>by
   show updK S.D i (.late s' m') i'≠_
   by_cases e0:i'=i
   ·subst e0;rw [updK_same];simp
   ·rw [updK_ne _ _ e0];exact H.shp.nomeet h i' hi' r,H.shp.rs0⟩
  (fun h=>by omega) (fun h hc=>by simp only at h hc;rw [H.prkc h] at hc;cases hc)
  (by
   show(Wg∉ (setM S.Ms (e+i) M' (e+i)).ids∧(setM S.Ms (e+i) M' (e+i)).ro Wg=none)∧(Ch∉ (setM S.Ms (e+i) M' (e+i)).ids∧(setM S.Ms (e+i) M' (e+i)).ro Ch=none)
   rw [setM_same,hid,hro];exact⟨H.shw _,H.shc _⟩)
  (H.tf.go he (H.x_lt hx) rfl rfl H.size H.shp.onj H.shp.jn (fun _=>rfl) (fun i' _ h=>upd_ne _ _ O) (fun _=>rfl) (fun h=>by omega) (fun i' _ h=>by
    obtain rfl:i'=i:=by omega
    exact upd_same _ _ _) (fun _ h=>by omega)
   (WEv.tf hwe Zi).1 (WEv.tf (S:=S) (e:=e) (n:=n) (x:=e+i) hwe Zi).2
   (fun i' r hi' h h6 hr=>by
    obtain rfl:i'=i:=by omega
    rcases hkind with⟨h7,_⟩|⟨h7,_⟩|⟨_,_,hbk,hd⟩
    ·omega
    ·omega
    ·exact hr.book hdf _ _ hbk hd)
   (fun i' hi' h=>by
    by_cases e0:i'=i
    ·subst e0
     simp only at h;rw [updK_same] at h
     simp only [WK.stage] at h
     rcases hkind with⟨_,h7,_⟩|⟨h7,_,rfl,rfl⟩|⟨h6,_⟩
     ·omega
     ·exact .inr ⟨rfl,t.size,RelBy.new (by rw [hdf];exact WSit.deaf7 hW h7) _ _⟩
     ·exact .inl O
    ·simp only at h;rw [updK_ne _ _ e0] at h;exact .inl h)
   (fun h=> .inl ⟨h,fun i' hi'=>by rw [hact h i' (by rw [H.shp.onj (on_of_acqd h)];exact hi')];omega⟩) (fun h=> .inl ⟨h,fun hx=>by omega⟩) (fun h1 h2=>by omega) (fun h=>⟨h,WEv.nch hwe H.ne⟩))
 refine⟨_,_,_,_,runT_crowd_go hx (by rw [show(e+i==0)=false by simp;omega];exact hgo),HP, .single (mu_D (mt_back hmt).2 ⟨i,_,O,hlt s' m' hl,rfl⟩),hso⟩
theorem Ph.wTurn(H:Ph P ty Wg Ch e n Anch ok At S gs w t)(he:0<e)(hi:i<S.j)(hx:gs[e+i]? =some g){r r':Wr}(hk:S.D i= .tree r)(hd:S.dd i=0)(hG:Good (S.Ms (e+i)) w w #[] M')(hT:WT P ty Wg Ch (ok i) r' (S.sent i) g M')(hr:r=r'∨WrLt r' r):
  Ph P ty Wg Ch e n Anch ok At {S with rm:=S.rm,rc:=S.rc,D:=updK S.D i (.tree r'),Ms:=setM S.Ms (e+i) M'} gs w t∧
   (muOf e n {S with rm:=S.rm,rc:=S.rc,D:=updK S.D i (.tree r'),Ms:=setM S.Ms (e+i) M'}=muOf e n S∨MuLt n (muOf e n {S with rm:=S.rm,rc:=S.rc,D:=updK S.D i (.tree r'),Ms:=setM S.Ms (e+i) M'}) (muOf e n S)):=by
 have hjn:=H.shp.jn
 refine⟨H.turn (H.x_lt hx) hG S.rm S.rc (updK S.D i (.tree r')) (fun a ha=>?_) (fun h a ha r0=>?_) (fun a ha hm=>?_) (fun a b ha hb hw=>?_) (fun a ha hw=>?_), ?_⟩
 ·by_cases e0:a=i
  ·subst e0;rw [updK_same,hk];rfl
  ·rw [updK_ne _ _ e0]
 ·by_cases e0:a=i
  ·subst e0;rw [updK_same]
   intro e1;cases e1;exact hT
  ·rw [updK_ne _ _ e0];exact H.shp.nomeet h a ha r0
 ·rw [setM_ne _ _ O];exact hm
 ·by_cases e0:a=i
  ·subst e0
   rw [updK_same,setM_same,hd]
   rw [hx] at hb;cases hb
   exact .run hT
  ·rw [updK_ne _ _ e0,setM_ne _ _ O];exact hw
 ·rw [setM_ne _ _ O];exact hw
 ·rcases hr with rfl|hr
  ·refine .inl ?_
   have:updK S.D i (.tree r)=S.D:=by funext a;simp only [updK];split<;>simp_all
   unfold muOf;rw [this]
  ·exact .inr (mu_D rfl ⟨i,_,O,by rw [hk];exact .tree hr,rfl⟩)
end
end Go.Lg
namespace Go.Lg
open Go Go.Conc
open Go.ConcR (KK WgAt stA smA rd wr mk Payload Bk)
open Go.ConcN (RW WgLive WSit CTag RelBy Vc sumTo upd upd_ne upd_same WD cnt OpenSt pend)
variable {a:Goroutine}{i j:Nat}{r:Wr}{S1:Nat→List Value}{rs:List Value}{v:Value}
variable [Payload]
section
variable {P:Program}{ty:TypeId}{Wg Ch e n:Nat}{Anch:Goroutine→Mem→Prop}{ok:Nat→List Value→RO→Prop}{At:List Value→Goroutine→Mem→Prop}{J:Goroutine→Mem→Prop}
 {S S':St} {gs gs':Array Goroutine} {w w':World} {sl:Option (Nat×Nat)} {t u:Trace} {x:Nat} {g g':Goroutine} {es:Array Event} {M':Mem}
theorem Ph.kinds(H:Ph P ty Wg Ch e n Anch ok At S gs w t)(hA:∀g M,Anch g M→g.status= .running)(hAt:∀rs g M,At rs g M→g.status= .running){y:Nat}(hy:gs[y]? =some a):
  ((a.status= .running∨a.status= .finished)∨(a.status= .blocked∧a.offers=none∧S.ct= .blk∧y=e+n))∨(y=0∧S.mt= .prk)∨(∃i r,i<S.j∧y=e+i∧S.D i= .tree (.wait r)):=by
 have hsz:=H.size
 have hyl:=H.x_lt hy
 by_cases h0:y=0
 ·subst h0
  obtain⟨a',ha,hm⟩:=H.main
  rw [hy] at ha;cases ha
  by_cases hp:S.mt= .prk
  ·exact .inr (.inl ⟨rfl,hp⟩)
  ·obtain⟨s,r,tm,hc⟩:=H.ch
   refine .inl (.inl (.inl ?_))
   exact hm.running hAt (H.safe.sat 0) H.live hp
 ·by_cases h1:y<e
  ·exact .inl (.inl (H.old y a O h1 hy).status)
  ·by_cases h2:y<e+S.j
   ·obtain⟨i,rfl⟩:∃i,y=e+i:=⟨y-e,O⟩
    obtain⟨a',ha,hw⟩:=H.wk i O
    rw [hy] at ha;cases ha
    generalize hk:S.D i=k at hw
    generalize S.dd i=d at hw
    cases hw with
    |run h=>exact .inl (.inl (.inl (h.status (H.safe.sat _) H.live)))
    |park _ _ h=>exact .inr (.inr ⟨i,_,O,rfl,hk⟩)
    |late _ _ _ h=>exact .inl (.inl h.status)
   ·have hon:S.ct.on=true:=by
     cases ho:S.ct.on with
     |true=>rfl
     |false=>simp [ho] at hsz;omega
    have hj:=H.shp.onj hon
    rw [hon] at hsz
    simp only [if_true] at hsz
    obtain rfl:y=e+n:=by omega
    obtain⟨a',ha,hc⟩:=H.clo hon
    rw [hy] at ha;cases ha
    rcases hc.status hA (H.safe.sat _) H.live with h|⟨h1,h2,h3⟩
    ·exact .inl (.inl h)
    ·exact .inl (.inr ⟨h2,h3,h1,rfl⟩)
theorem offersAt_quiet(h:(a.status= .running∨a.status= .finished)∨(a.status= .blocked∧a.offers=none))(r:Nat)(b:Bool):offersAt a r b= []:=by
 rcases h with(h|h)|⟨h1,h2⟩
 ·exact offersAt_of_not_blocked (by rw [h];simp) r b
 ·exact offersAt_of_not_blocked (by rw [h];simp) r b
 ·unfold offersAt;rw [h1,h2]
theorem Ph.parkedW(H:Ph P ty Wg Ch e n Anch ok At S gs w t)(hi:i<S.j)(hk:S.D i= .tree (.wait r)):∃g0 v z,gs[e+i]? =some (parked g0 #[scase Ch v z] .send)∧S.sent i= []∧oneCell v=true∧WT P ty Wg Ch (ok i) r (S.sent i++ [v]) (Go.Conc.served g0 undef) (S.Ms (e+i))∧S.dd i=0:=by
 obtain⟨a,ha,hw⟩:=H.wk i hi
 rw [hk] at hw
 generalize hd:S.dd i=d at hw
 cases hw with
 |run h=>exact h.elim
 |park hn h0 h=>exact⟨_,_,_,ha,hn,h0,h,rfl⟩
theorem Ph.parkedM(H:Ph P ty Wg Ch e n Anch ok At S gs w t)(hp:S.mt= .prk):S.rm= .stop∧∃g0 z,gs[0]? =some (parked g0 #[rcase Ch z] (.recv true))∧At S.rs g0 (S.Ms 0)∧g0.status= .running∧(∀w,stepG P true g0 w= .comm g0 #[rcase Ch z] true (.recv true) w #[]):=by
 obtain⟨a,ha,hm⟩:=H.main
 rw [hp] at hm
 obtain⟨h1,g0,z,rfl,h2,h3,h4⟩:=hm
 exact⟨h1,g0,z,ha,h2,h3,h4⟩
theorem Ph.set(H:Ph P ty Wg Ch e n Anch ok At S gs w t)(he:0<e){i0:Nat}(hsz:gs'.size=gs.size)(hge:∀y,y≠0→(i0<S.j→y≠e+i0)→gs'[y]? =gs[y]?)(hw:∀b,b≠Ch→w'.heap[b]? =w.heap[b]?)(hws:w'.heap.size=w.heap.size)
  (hc:∃s r tm,w'.heap[Ch]? =some (.chan 0 #[] S.ct.closed s r tm)) (hu:∀op∈u,Dumb op∧op.g<gs.size) (D:Nat→WK) (mt:MT) (rm:Rk) (rs:List Value) (sent:Nat→List Value)
  (hD:∀i,i<S.j→i≠i0→D i=S.D i) (hDs:∀i,i<S.j→(D i).stage=(S.D i).stage) (hsent:∀i,i<S.j→i≠i0→sent i=S.sent i) (hmt:mt=S.mt∨((mt= .rng∨mt= .prk)∧(S.mt= .rng∨S.mt= .prk)))
  (hpk:mt= .prk→S.ct.closed=false∧∀i,i<S.j→∀r,D i≠ .tree (.wait r)) (m0:∃a,gs'[0]? =some a∧MSt P ty Wg Ch n Anch ok At rm rs a (S.Ms 0) mt)
  (w0:i0<S.j→∃a,gs'[e+i0]? =some a∧WSt P ty Wg Ch (ok i0) w' (D i0) (S.dd i0) a (S.Ms (e+i0)) (sent i0)) (hrs0:((∃r s,mt= .sp r s)∨mt= .goc)→rs= []) (hperm:rs.Perm ((List.range S.j).flatMap sent)∧∀i,(sent i).length≤1):
  Ph P ty Wg Ch e n Anch ok At {S with D:=D,mt:=mt,rm:=rm,rs:=rs,sent:=sent} gs' w' (t++u):=by
 have hn:∀op∈u,op.act.touch? =none:=fun op ho=>(hu op ho).1.touch
 have hD':∀y,Deaf (t++u) y=Deaf t y:=fun y=>Go.ConcN.Deaf_still t y u fun op ho=>⟨(hu op ho).1.dis,(hu op ho).1.en⟩
 have hsafe:Safe w' (t++u) S.Ms:=H.safe.shared (B:=Ch) (fun op ho x hx=>by rw [hn op ho] at hx;cases hx) H.shc hw hws (fun op ho=> .none (hn op ho)) (fun said=>noRace_mute (H.safe.clean said) hn)
 have hmdf:mt.deaf=S.mt.deaf:=by
  rcases hmt with rfl|⟨h1,h2⟩
  ·rfl
  ·rcases h1 with rfl|rfl<;>rcases h2 with h2|h2<;>rw [h2]<;>rfl
 have hmtag:∀ct,tagOf mt ct=tagOf S.mt ct:=fun ct=>by
  rcases hmt with rfl|⟨h1,h2⟩
  ·rfl
  ·rcases h1 with rfl|rfl<;>rcases h2 with h2|h2<;>rw [h2]<;>rfl
 have hon':(S.mt= .rng∨S.mt= .prk)→S.ct.on=true:=fun h=>H.shp.mtr (h.elim .inl (fun h=> .inr (.inl h)))
 have hWne:Wg≠Ch:=Ne.symm H.ne
 refine⟨⟨H.shp.jn,H.shp.onj,fun r s h=>?_,fun h=>?_,fun h=>?_,fun h=>?_,fun h=>(hpk h).2,hrs0⟩,fun h=>(hpk h).1,by rw [hsz];exact H.size,m0,fun i hi=>?_,fun ho=>?_,fun i a h0 hi ha=>?_,hsafe,fun i hi=>H.nomem i (by rw [hsz] at hi;exact hi), ?_,hc,H.shw,H.shc,hperm, ?_⟩
 ·rcases hmt with rfl|⟨h1,_⟩
  ·exact H.shp.mtsp r s h
  ·simp only at h;rcases h1 with rfl|rfl<;>cases h
 ·rcases hmt with rfl|⟨h1,_⟩
  ·exact H.shp.mtgo h
  ·simp only at h;rcases h1 with rfl|rfl<;>cases h
 ·rcases hmt with rfl|⟨_,h2⟩
  ·exact H.shp.mtr h
  ·exact hon' h2
 ·rcases hmt with rfl|⟨h1,_⟩
  ·exact H.shp.mtw h
  ·simp only at h;rcases h1 with rfl|rfl<;>cases h
 ·show∃g,_∧WSt P ty Wg Ch (ok i) w' (D i) (S.dd i) g (S.Ms (e+i)) (sent i)
  simp only at hi
  by_cases h0:i=i0
  ·subst h0;exact w0 hi
  ·obtain⟨a,ha,hW⟩:=H.wk i hi
   refine⟨a,by rw [hge _ O (fun _=>by omega)];exact ha, ?_⟩
   rw [hD i hi h0,hsent i hi h0]
   exact hW.rely (H.safe.sat _) (hsafe.sat _) fun⟨st,sm,h⟩=>⟨st,sm,h.of_block (hw Wg hWne)⟩
 ·obtain⟨a,ha,hC⟩:=H.clo ho
  have:=H.shp.jn
  exact⟨a,by rw [hge _ O (fun h=>by omega)];exact ha,hC⟩
 ·rw [hD']
  exact H.old i a h0 hi (by rw [←hge i O (fun _=>by omega)];exact ha)
 ·obtain⟨st,sm,h1,h2⟩:=H.wg
  refine⟨st,sm,h1.of_block (hw Wg hWne), ?_⟩
  show Go.ConcN.Mode S.j (kD D) (tagOf mt S.ct) st sm
  rw [hmtag]
  exact Go.ConcN.Mode.congr (D:=kD S.D) (D':=kD D) (fun a ha=>hDs a ha) h2
 ·rw [hsz]
  exact(H.tf.still (Nat.le_refl _) hu (fun _ _ y h1 h2=>by omega)).turn rfl hmdf rfl rfl rfl rfl (fun _ _=>rfl) hDs
theorem perm_push{S2:Nat→List Value}(hi:i<j)(h:rs.Perm ((List.range j).flatMap S1))(h1:S2 i=S1 i++ [v])(h2:∀a,a≠i→S2 a=S1 a):(rs++ [v]).Perm ((List.range j).flatMap S2):=by
 induction j generalizing rs with
 |zero=>omega
 |succ j ih=>
  rw [List.range_succ,List.flatMap_append] at h⊢
  simp only [List.flatMap_cons,List.flatMap_nil,List.append_nil] at h⊢
  by_cases hij:i=j
  ·subst hij
   have e1:(List.range i).flatMap S2=(List.range i).flatMap S1:=by
    rw [List.flatMap_def,List.flatMap_def]
    congr 1
    exact List.map_congr_left fun a ha=>h2 a (by have:=List.mem_range.1 ha;omega)
   rw [e1,h1, ←List.append_assoc]
   exact h.append_right [v]
  ·rw [h2 j (Ne.symm hij)]
   have h3:=ih (rs:=(List.range j).flatMap S1) O (List.Perm.refl _)
   have h4:(rs++ [v]).Perm ((List.range j).flatMap S1++ [v]++S1 j):=by
    refine(h.append_right [v]).trans ?_
    rw [List.append_assoc,List.append_assoc]
    exact List.Perm.append_left _ List.perm_append_comm
   exact h4.trans (h3.append_right _)
theorem dumb_comm{op:MemOp}{c s r cap:Nat}(h:op.act= .send c s∨op.act= .recv c r cap∨op.act= .sendDone c s∨op.act= .recvDone c r):Dumb op:=by
 rcases h with h|h|h|h<;>exact⟨by rw [h];rfl,by rw [h];simp,by rw [h];simp,by rw [h];simp,by rw [h];simp⟩
theorem setChan_heap(w:World)(c cap:Nat)(buf:Array Value)(cl:Bool)(s r:Nat)(tm:Bool)(hc:c<w.heap.size):(∀b,b≠c→(w.setChan c cap buf cl s r tm).heap[b]? =w.heap[b]?)∧(w.setChan c cap buf cl s r tm).heap.size=w.heap.size∧(w.setChan c cap buf cl s r tm).heap[c]? =some (.chan cap buf cl s r tm):=by
 refine⟨fun b hb=>?_, ?_, ?_⟩
 ·simp [World.setChan,Array.getElem?_setIfInBounds_ne (Ne.symm hb)]
 ·simp [World.setChan]
 ·simp [World.setChan,hc]
theorem perm_push1(hi:i<j)(h:rs.Perm ((List.range j).flatMap S1)∧∀i,(S1 i).length≤1)(hs:S1 i= []):(rs++ [v]).Perm ((List.range j).flatMap (upd S1 i (S1 i++ [v])))∧∀a,(upd S1 i (S1 i++ [v]) a).length≤1:=by
 refine⟨perm_push hi h.1 (upd_same _ _ _) fun a h=>upd_ne _ _ h,fun a=>?_⟩
 by_cases ha:a=i
 ·subst ha;rw [upd_same,hs];exact Nat.le_refl _
 ·rw [upd_ne _ _ ha];exact h.2 a
theorem len_le1{S1:Nat→List Value}(h:∀i,(S1 i).length≤1):∀j,((List.range j).flatMap S1).length≤j
 |0=>by simp
 |j+1=>by
  have:=len_le1 h j
  have:=h j
  rw [List.range_succ,List.flatMap_append,List.length_append]
  simp only [List.flatMap_cons,List.flatMap_nil,List.append_nil]
  omega
theorem len_lt1{S1:Nat→List Value}(h:∀i,(S1 i).length≤1){i:Nat}(hs:S1 i= []):∀j,i<j→((List.range j).flatMap S1).length<j
 |j+1,hi=>by
  rw [List.range_succ,List.flatMap_append,List.length_append]
  simp only [List.flatMap_cons,List.flatMap_nil,List.append_nil]
  by_cases e:i=j
  ·subst e
   have:=len_le1 h i
   rw [hs];simp only [List.length_nil];omega
  ·have:=len_lt1 h hs j O
   have:=h j
   omega
theorem Ph.rs_lt(H:Ph P ty Wg Ch e n Anch ok At S gs w t)(hi:i<S.j)(hs:S.sent i= []):S.rs.length<n:=by
 have:=len_lt1 H.perm.2 hs S.j hi
 have:=H.shp.jn
 rw [H.perm.1.length_eq];omega
theorem Ph.wSend(H:Ph P ty Wg Ch e n Anch ok At S gs w t)(he:0<e)(hA:∀g M,Anch g M→g.status= .running)(hAt:∀rs g M,At rs g M→g.status= .running)(hR:∀rs g M,At rs g M→Recv P ty Wg Ch n ok J At rs g M)(hi:i<S.j)(hx:gs[e+i]? =some g) 
  (hk:S.D i= .tree (.send r)) (hd:S.dd i=0) (hT:WT P ty Wg Ch (ok i) (.send r) (S.sent i) g (S.Ms (e+i))):Nx P ty Wg Ch e n Anch ok At S gs w sl t (e+i):=by
 obtain⟨hrun,hsn,v,z,hv1,hcm,hnext⟩:=hT
 have hrl:=H.rs_lt hi hsn
 have hjn:=H.shp.jn
 have hxl:=H.x_lt hx
 have hwlt:=H.wlt
 have hncl:S.ct.closed=false:=by
  cases hcc:S.ct.closed with
  |false=>rfl
  |true=>have:=H.quit (acqd_of hcc) i hi;rw [hk] at this;simp [WK.stage] at this
 obtain⟨s,rr,tm,hch⟩:=H.ch
 rw [hncl] at hch
 have hcm':stepG P (e+i==0) g w= .comm g #[scase Ch v z] true .send w #[]:=by rw [show(e+i==0)=false by simp;omega];exact hcm w
 have hoff:∀y a,gs[y]? =some a→¬(y=0∧S.mt= .prk)→offersAt a Ch false= []:=fun y a hy hne=>by
  rcases H.kinds hA hAt hy with h|h|⟨i',r',h1,rfl,h2⟩
  ·exact offersAt_quiet (h.imp id fun h=>⟨h.1,h.2.1⟩) _ _
  ·exact absurd h hne
  ·obtain⟨g0,v0,z0,h3,_⟩:=H.parkedW h1 h2
   rw [hy] at h3;cases h3
   exact offersAt_parked_send' _ _ _ _ _ _
 have hDs:∀r',∀a,a<S.j→(updK S.D i (.tree r') a).stage=(S.D a).stage:=fun r' a _=>by
  by_cases e0:a=i
  ·subst e0;rw [updK_same,hk];rfl
  ·rw [updK_ne _ _ e0]
 by_cases hp:S.mt= .prk
 ·-- it meets goroutine 0
  obtain⟨hrm,g0,z0,hg0,hAt0,hg0r,hg0c⟩:=H.parkedM hp
  obtain⟨_,z1,hg0c',hn1,_⟩:=hR _ _ _ hAt0
  obtain⟨rm',hn1⟩:=hn1 v hrl hv1
  have hpt:partners (gs.setIfInBounds (e+i) ph) Ch false= [(0,0)]:=by
   rw [partners_one (j:=0) (g:=parked g0 #[rcase Ch z0] (.recv true)) (by rw [Array.getElem?_setIfInBounds_ne O];exact hg0) fun k y hk0 hy=>?_,offersAt_parked_recv]
   ·simp
   ·rcases getElem?_stand gs (e+i) k y hy with⟨_,rfl⟩|⟨_,hy'⟩
    ·exact offersAt_ph _ _
    ·exact hoff k y hy' fun h=>hk0 h.1
  have hst:=crowd_send_meets (P:=P) (sl:=sl) hx hcm' hch (j:=0) O hg0 hpt
  rw [finishComm_send,finishComm_recv] at hst
  obtain⟨c1,c2,c3⟩:=setChan_heap w Ch 0 #[] false (s+1) (rr+1) tm hwlt.2
  refine⟨_,_,_,_,hst,H.set (i0:=i) (u:=_) he Zi (fun y h0 h1=>?_) c1 c2 ⟨_,_,_,by rw [hncl];exact c3⟩ (fun op hop=>?_) (updK S.D i (.tree r)) .rng rm' (S.rs++ [v]) (upd S.sent i (S.sent i++ [v])) (fun a _ h=>updK_ne _ _ h) (hDs r) (fun a _ h=>upd_ne _ _ h)
   (.inr ⟨.inl rfl, .inr hp⟩) (fun h=>by cases h) ⟨_,by rw [Array.getElem?_setIfInBounds_ne O,Array.getElem?_setIfInBounds_self_of_lt O];rfl,hn1⟩ (fun _=>⟨_,by rw [Array.getElem?_setIfInBounds_self_of_lt (by simpa using hxl)], ?_⟩) (fun h=>by simp at h) (perm_push1 hi H.perm hsn), .single (mu_D ?_ ⟨i,_,O,by rw [hk];exact .tree .send,rfl⟩),rfl,rfl⟩
  ·have:=h1 hi
   rw [Array.getElem?_setIfInBounds_ne (Ne.symm this),Array.getElem?_setIfInBounds_ne (Ne.symm h0)]
  ·rw [ofEvents_eq] at hop
   simp only [Array.map_empty,Array.empty_append,List.mem_toArray,List.mem_cons,List.not_mem_nil,or_false] at hop
   rcases hop with rfl|rfl|rfl|rfl
   ·exact⟨dumb_comm (c:=Ch) (s:=s) (r:=rr) (cap:=0) (.inl rfl),hxl⟩
   ·exact⟨dumb_comm (c:=Ch) (s:=s) (r:=rr) (cap:=0) (.inr (.inl rfl)),by simp only;omega⟩
   ·exact⟨dumb_comm (c:=Ch) (s:=s) (r:=rr) (cap:=0) (.inr (.inr (.inl rfl))),hxl⟩
   ·exact⟨dumb_comm (c:=Ch) (s:=s) (r:=rr) (cap:=0) (.inr (.inr (.inr rfl))),by simp only;omega⟩
  ·rw [updK_same,upd_same,hd];exact .run hnext
  ·rw [hp];rfl
 ·-- it waits
  have hpt:partners (gs.setIfInBounds (e+i) ph) Ch false= []:=partners_nil fun k y hy=>by
   rcases getElem?_stand gs (e+i) k y hy with⟨_,rfl⟩|⟨_,hy'⟩
   ·exact offersAt_ph _ _
   ·exact hoff k y hy' fun h=>hp h.2
  have hst:=crowd_waits (P:=P) (sl:=sl) hx hcm' fun cc hcc=>by
   simp only [List.mem_toArray,List.mem_cons,List.not_mem_nil,or_false] at hcc
   subst hcc
   exact ways_send_none hch Zi hpt
  rw [ofEvents_eq] at hst
  obtain⟨a,ha,hm⟩:=H.main
  refine⟨_,_,_,_,hst,H.set (i0:=i) (u:=_) he Zi (fun y h0 h1=>?_) (fun _ _=>rfl) U H.ch (fun op hop=>by simp at hop) (updK S.D i (.tree (.wait r))) S.mt S.rm S.rs S.sent (fun a _ h=>updK_ne _ _ h) (hDs _) (fun _ _ _=>rfl) (.inl U) (fun h=>absurd h hp)
   ⟨a,by rw [Array.getElem?_setIfInBounds_ne O];exact ha,hm⟩ (fun _=>⟨_,by rw [Array.getElem?_setIfInBounds_self_of_lt hxl], ?_⟩) H.shp.rs0 H.perm, .single (mu_D rfl ⟨i,_,O,by rw [hk];exact .tree .park,rfl⟩),rfl,rfl⟩
  ·have:=h1 hi
   rw [Array.getElem?_setIfInBounds_ne (Ne.symm this)]
  ·rw [updK_same,hd];exact .park hsn hv1 hnext
theorem Ph.mRecv(H:Ph P ty Wg Ch e n Anch ok At S gs w t)(he:0<e)(hA:∀g M,Anch g M→g.status= .running)(hAt:∀rs g M,At rs g M→g.status= .running)(hR:∀rs g M,At rs g M→Recv P ty Wg Ch n ok J At rs g M)(hx:gs[0]? =some g)(hmt:S.mt= .rng)(hrm:S.rm= .stop)(hT:At S.rs g (S.Ms 0))(hncl:S.ct.closed=false):
  Nx P ty Wg Ch e n Anch ok At S gs w sl t 0:=by
 obtain⟨hrun,z,hcm,hnext,_⟩:=hR _ _ _ hT
 have hjn:=H.shp.jn
 have hxl:=H.x_lt hx
 have hwlt:=H.wlt
 have hsz:=H.size
 obtain⟨s,rr,tm,hch⟩:=H.ch
 rw [hncl] at hch
 have hcm':stepG P (0==0) g w= .comm g #[rcase Ch z] true (.recv true) w #[]:=hcm w
 have hnp:S.mt≠ .prk:=by rw [hmt];simp
 by_cases hex:∃i r,i<S.j∧S.D i= .tree (.wait r)
 ·have hall:∀j k,(j,k)∈partners (gs.setIfInBounds 0 ph) Ch true→k=0∧j≠0∧∃i r g0 v0 z0,i<S.j∧j=e+i∧S.D i= .tree (.wait r)∧gs[j]? =some (parked g0 #[scase Ch v0 z0] .send):=by
   intro j k hjk
   obtain⟨y,hy,hk⟩:=mem_partners.1 hjk
   rcases getElem?_stand gs 0 j y hy with⟨_,rfl⟩|⟨hj0,hy'⟩
   ·rw [offersAt_ph] at hk;cases hk
   ·rcases H.kinds hA hAt hy' with h|h|⟨i',r',h1,rfl,h2⟩
    ·rw [offersAt_quiet (h.imp id fun h=>⟨h.1,h.2.1⟩)] at hk;cases hk
    ·exact absurd h.1 hj0
    ·obtain⟨g0,v0,z0,h3,_⟩:=H.parkedW h1 h2
     rw [hy'] at h3;cases h3
     rw [offersAt_parked_send] at hk
     simp only [if_true,List.mem_cons,List.not_mem_nil,or_false] at hk
     exact⟨hk,hj0,i',r',g0,v0,z0,h1,rfl,h2,hy'⟩
  have hne:partners (gs.setIfInBounds 0 ph) Ch true≠ []:=by
   obtain⟨i,r,hi,hk⟩:=hex
   obtain⟨g0,v0,z0,h3,_⟩:=H.parkedW hi hk
   intro h0
   have:(e+i,0)∈partners (gs.setIfInBounds 0 ph) Ch true:=mem_partners.2 ⟨_,by rw [Array.getElem?_setIfInBounds_ne O];exact h3,by rw [offersAt_parked_send];simp⟩
   rw [h0] at this;cases this
  obtain⟨jj,gj,vj,zj,shj,d,hj0,hgj,hst⟩:=crowd_recv_meets_some (P:=P) (sl:=sl) hx hcm' hch hne fun j k hjk=>by
   obtain⟨h1,h2,i,r,g0,v0,z0,_,_,_,h3⟩:=hall j k hjk
   exact⟨h1,h2,g0,v0,z0,_,h3⟩
  have hoj:offersAt (parked gj #[scase Ch vj zj] shj) Ch true= [0]:=by rw [offersAt_parked_send];simp
  obtain⟨_,_,i,r,g0,v0,z0,hi,rfl,hk,h3⟩:=hall jj 0 (mem_partners.2 ⟨_,by rw [Array.getElem?_setIfInBounds_ne (Ne.symm hj0)];exact hgj,by rw [hoj];simp⟩)
  obtain⟨g1,v1,z1,h4,hsn,hv1,hWT,hd⟩:=H.parkedW hi hk
  rw [hgj] at h4
  have h5:=Option.some.inj h4
  have hfin:gj.finishComm P #[scase Ch vj zj] shj 0 undef false=Go.Conc.served g1 undef∧vj=v1:=by
   have e1:=congrArg Goroutine.offers h5
   simp only [parked,Option.some.injEq,Prod.mk.injEq] at e1
   obtain⟨e2,e3⟩:=e1
   have e4:scase Ch vj zj=scase Ch v1 z1:=by simpa using e2
   have e5:vj=v1:=by simp only [scase,CommCase.mk.injEq,Option.some.injEq] at e4;exact e4.2.1
   refine⟨?_,e5⟩
   have e6:=finishComm_parked P gj #[scase Ch vj zj] #[scase Ch vj zj] shj shj 0 undef false
   have e7:=finishComm_parked P g1 #[scase Ch vj zj] #[scase Ch v1 z1] shj .send 0 undef false
   rw [←e6,h5,e7,e3,finishComm_send]
  obtain⟨hf1,rfl⟩:=hfin
  rw [hf1,finishComm_recv] at hst
  obtain⟨rm',hn1⟩:=hnext vj (H.rs_lt hi hsn) hv1
  obtain⟨c1,c2,c3⟩:=setChan_heap (w.at d) Ch 0 #[] false (s+1) (rr+1) tm hwlt.2
  refine⟨_,_,_,_,hst,H.set (i0:=i) (u:=_) he Zi (fun y h0 h1=>?_) c1 c2 ⟨_,_,_,by rw [hncl];exact c3⟩ (fun op hop=>?_) (updK S.D i (.tree r)) .rng rm' (S.rs++ [vj]) (upd S.sent i (S.sent i++ [vj])) (fun a _ h=>updK_ne _ _ h) (fun a _=>?_) (fun a _ h=>upd_ne _ _ h)
   (.inl hmt.symm) (fun h=>by cases h) ⟨_,by rw [Array.getElem?_setIfInBounds_self_of_lt (by simpa using hxl)];rfl,hn1⟩ (fun _=>⟨_,by rw [Array.getElem?_setIfInBounds_ne O,Array.getElem?_setIfInBounds_self_of_lt (H.x_lt hgj)], ?_⟩) (fun h=>by simp at h) (perm_push1 hi H.perm hsn), .single (mu_D ?_ ⟨i,_,O,by rw [hk];exact .tree .wait,rfl⟩),rfl,rfl⟩
  ·have:=h1 hi
   rw [Array.getElem?_setIfInBounds_ne (Ne.symm h0),Array.getElem?_setIfInBounds_ne (Ne.symm this)]
  ·rw [ofEvents_eq] at hop
   simp only [Array.map_empty,Array.empty_append,List.mem_toArray,List.mem_cons,List.not_mem_nil,or_false] at hop
   have hjl:=H.x_lt hgj
   rcases hop with rfl|rfl|rfl|rfl
   ·exact⟨dumb_comm (c:=Ch) (s:=s) (r:=rr) (cap:=0) (.inl rfl),hjl⟩
   ·exact⟨dumb_comm (c:=Ch) (s:=s) (r:=rr) (cap:=0) (.inr (.inl rfl)),hxl⟩
   ·exact⟨dumb_comm (c:=Ch) (s:=s) (r:=rr) (cap:=0) (.inr (.inr (.inl rfl))),hjl⟩
   ·exact⟨dumb_comm (c:=Ch) (s:=s) (r:=rr) (cap:=0) (.inr (.inr (.inr rfl))),hxl⟩
  ·by_cases e0:a=i
   ·subst e0;rw [updK_same,hk];rfl
   ·rw [updK_ne _ _ e0]
  ·rw [updK_same,upd_same,hd];exact .run hWT
  ·rw [hmt]
 ·-- it waits
  have hpt:partners (gs.setIfInBounds 0 ph) Ch true= []:=partners_nil fun k y hy=>by
   rcases getElem?_stand gs 0 k y hy with⟨_,rfl⟩|⟨hk0,hy'⟩
   ·exact offersAt_ph _ _
   ·rcases H.kinds hA hAt hy' with h|h|⟨i',r',h1,rfl,h2⟩
    ·exact offersAt_quiet (h.imp id fun h=>⟨h.1,h.2.1⟩) _ _
    ·exact absurd h.2 hnp
    ·exact absurd ⟨i',r',h1,h2⟩ hex
  have hst:=crowd_waits (P:=P) (sl:=sl) hx hcm' fun cc hcc=>by
   simp only [List.mem_toArray,List.mem_cons,List.not_mem_nil,or_false] at hcc
   subst hcc
   exact ways_recv_none hch hpt
  rw [ofEvents_eq] at hst
  refine⟨_,_,_,_,hst,H.set (i0:=S.j) (u:=_) he Zi (fun y h0 _=>?_) (fun _ _=>rfl) U H.ch (fun op hop=>by simp at hop) S.D .prk .stop S.rs S.sent (fun _ _ _=>rfl) (fun _ _=>rfl) (fun _ _ _=>rfl) (.inr ⟨.inr rfl, .inl hmt⟩) (fun _=>⟨hncl,fun i hi r h=>hex ⟨i,r,hi,h⟩⟩)
   ⟨_,by rw [Array.getElem?_setIfInBounds_self_of_lt hxl],rfl,g,z,rfl,hT,hrun,hcm⟩ (fun h=>absurd h (Nat.lt_irrefl _)) (fun h=>by simp at h) H.perm, .single ?_,rfl,rfl⟩
  ·rw [Array.getElem?_setIfInBounds_ne (Ne.symm h0)]
  ·unfold muOf
   rw [hmt,hrm]
   refine Prod.Lex.right _ (Prod.Lex.right _ (Prod.Lex.right _ (Prod.Lex.right _ (Prod.Lex.right _ (Prod.Lex.right _ ?_)))))
   show 0+(match S.ct with| .w3=>1|_=>0)<1+(match S.ct with| .w3=>1|_=>0)
   omega
end
end Go.Lg
namespace Go.Lg
open Go Go.Conc
open Go.ConcR (KK WgAt stA smA rd wr mk Payload Bk)
open Go.ConcN (RW WgLive WSit CTag RelBy Vc sumTo upd upd_ne upd_same WD cnt OpenSt pend)
variable [Payload]
section
variable {P:Program}{ty:TypeId}{Wg Ch e n:Nat}{Anch:Goroutine→Mem→Prop}{ok:Nat→List Value→RO→Prop}{At:List Value→Goroutine→Mem→Prop}{J:Goroutine→Mem→Prop}
 {S S':St} {gs gs':Array Goroutine} {w w':World} {sl:Option (Nat×Nat)} {t u:Trace} {x:Nat} {g g':Goroutine} {es:Array Event} {M':Mem}
theorem Ph.worker(H:Ph P ty Wg Ch e n Anch ok At S gs w t)(he:0<e)(hn:n<2147483648)(hA:∀g M,Anch g M→g.status= .running)(hAt:∀rs g M,At rs g M→g.status= .running)(hR:∀rs g M,At rs g M→Recv P ty Wg Ch n ok J At rs g M){i:Nat}(hi:i<S.j)(hx:gs[e+i]? =some g)(hs:g.status= .running):
  Nx P ty Wg Ch e n Anch ok At S gs w sl t (e+i):=by
 have hjn:=H.shp.jn
 obtain⟨a,ha,hw⟩:=H.wk i hi
 rw [hx] at ha;cases ha
 generalize hk:S.D i=k at hw
 generalize hd:S.dd i=d at hw
 cases hw with
 | @run r _ _ _ h=>
  rcases h.move (H.safe.sat (e+i)) with⟨M',hG,hT,hr⟩|⟨hrun,g',w',es,M',r',hgo,hG,hT,hlt⟩|⟨M',r',hG,hT,hr⟩
  ·obtain⟨H1,hm1⟩:=H.wTurn he hi hx hk hd hG hT hr
   refine Nx.turned ?_ hm1
   obtain⟨hok,C,v,cs,m,hown,hW⟩:=hT
   have hW':=hW w hG.sat H.live
   refine H1.wLate (C:=C) (cs:=cs) (v:=v) (s:=7) (m:=m) he hn hA hAt hi hx hs ?_ ?_ O ?_ ?_ (fun s' m' _=>?_)
   ·show(setM S.Ms (e+i) M' (e+i)).own=_
    rw [setM_same];exact hown
   ·show ok i (S.sent i) (setM S.Ms (e+i) M' (e+i)).ro
    rw [setM_same];exact hok
   ·show(updK S.D i (.tree .fin) i).stage=7
    rw [updK_same];rfl
   ·show WSit P ty Wg C cs.size NoL NoL 0 1 v 7 m (S.dd i) g w
    rw [hd];exact hW'
   ·show WkLt _ (updK S.D i (.tree .fin) i)
    rw [updK_same];exact .leave
  ·obtain⟨ct,hc1,HP⟩:=H.own he hA hAt hx hG S.rm S.rc (updK S.D i (.tree r')) (fun _=>rfl) (fun i' _ h=>updK_ne _ _ O)
    (fun a ha=>by
     by_cases e0:a=i
     ·subst e0;rw [updK_same,hk];rfl
     ·rw [updK_ne _ _ e0])
    (fun _=>rfl)
    (fun h a ha r0=>by
     by_cases e0:a=i
     ·subst e0;rw [updK_same];intro e1;cases e1;exact hT
     ·rw [updK_ne _ _ e0];exact H.shp.nomeet h a ha r0)
    (fun h=>by omega)
    (fun a ha h=>by
     obtain rfl:a=i:=by omega
     rw [updK_same,hd];exact .run hT)
    (fun h=>by omega) (.inr O)
    (fun a ha h=>by
     obtain rfl:a=i:=by omega
     rw [hk];simp [WK.stage])
    (fun h=>by omega)
   exact⟨_,_,_,_,runT_crowd_go hx (by rw [show(e+i==0)=false by simp;omega];exact hgo),HP, .single (mu_D rfl ⟨i,_,O,by rw [hk];exact .tree hlt,rfl⟩),hG.os,hG.out⟩
  ·obtain⟨H1,hm1⟩:=H.wTurn he hi hx hk hd hG hT hr
   refine Nx.turned ?_ hm1
   refine H1.wSend he hA hAt hR hi hx (updK_same _ _ _) hd ?_
   show WT P ty Wg Ch (ok i) (.send r') (S.sent i) g (setM S.Ms (e+i) M' (e+i))
   rw [setM_same];exact hT
 |park h=>simp [parked] at hs
 |late h1 h2 h3 h4=>
  refine H.wLate he hn hA hAt hi hx hs h2 h1 h3 (by rw [hk];rfl) (by rw [hd];exact h4) (fun s' m' h=>?_)
  rw [hk]
  rcases h with h|⟨rfl,h⟩
  ·exact .stage h
  ·exact .fuel h
end
end Go.Lg
namespace Go.Lg
open Go Go.Conc
open Go.ConcR (KK WgAt stA smA rd wr Payload Bk)
open Go.ConcN (RW WgLive WSit CTag RelBy Vc sumTo upd upd_ne upd_same WD cnt OpenSt pend)
variable [Payload]
section
variable {P:Program}{ty:TypeId}{Wg Ch e n:Nat}{Anch:Goroutine→Mem→Prop}{ok:Nat→List Value→RO→Prop}{At:List Value→Goroutine→Mem→Prop}{J:Goroutine→Mem→Prop}
 {S S':St} {gs gs':Array Goroutine} {w w':World} {sl:Option (Nat×Nat)} {t u:Trace} {x:Nat} {g g':Goroutine} {es:Array Event} {M':Mem}
theorem wev1{Wg:Nat}{s:Bool}{ev:Event}(h:WEv Wg s ev):∀e∈ #[ev],WEv Wg s e:=fun e he=>by
 simp only [List.mem_toArray,List.mem_cons,List.not_mem_nil,or_false] at he;subst he;exact h
theorem Ph.close(H:Ph P ty Wg Ch e n Anch ok At S gs w t)(he:0<e)(hA:∀g M,Anch g M→g.status= .running)(hAt:∀rs g M,At rs g M→g.status= .running)(hx:gs[e+n]? =some g)(hct:S.ct= .cl)(hst:AtCl P Ch g M'):Nx P ty Wg Ch e n Anch ok At S gs w sl t (e+n):=by
 obtain⟨hs,hmw,g',hg',hgo,q,hq⟩:=hst
 obtain⟨s,rr,tm,hch⟩:=H.ch
 rw [hct] at hch
 have hgo:=hgo w s rr tm hch
 have hon:S.ct.on=true:=by rw [hct];rfl
 have hjn:=H.shp.onj hon
 have hwlt:=H.wlt
 have hac:S.ct.acqd=true:=by rw [hct];rfl
 have hquit:=H.quit hac
 generalize hw':({w with heap:=w.heap.setIfInBounds Ch (.chan 0 #[] true s rr tm) }:World)=w' at hgo
 have c1:∀b,b≠Ch→w'.heap[b]? =w.heap[b]? :=fun b hb=>by subst hw';exact Array.getElem?_setIfInBounds_ne (Ne.symm hb)
 have c2:w'.heap.size=w.heap.size:=by subst hw';simp
 have c3:w'.heap[Ch]? =some (.chan 0 #[] true s rr tm):=by subst hw';simp [hwlt.2]
 have hes:∀ev∈(#[⟨.obj Ch,false,true⟩,⟨.obj Ch,true,true⟩]:Array Event),(∀τ,(MemAct.ofEvent ev).touch? =some τ→blockOf τ.loc=some Ch∧τ.kind≠ .plain)∧ev.loc= .obj Ch:=fun ev hev=>by
  simp only [List.mem_toArray,List.mem_cons,List.not_mem_nil,or_false] at hev
  rcases hev with rfl|rfl
  ·exact⟨fun τ h=>by simp only [MemAct.ofEvent,MemAct.touch?,Option.some.injEq] at h;subst h;exact⟨rfl,by simp⟩,rfl⟩
  ·exact⟨fun τ h=>(nomatch h),rfl⟩
 have hops:∀op∈MemOp.ofEvents (e+n) g.frame.fn g.frame.place #[⟨.obj Ch,false,true⟩,⟨.obj Ch,true,true⟩],op.g=e+n∧∀τ,op.act.touch? =some τ→blockOf τ.loc=some Ch∧τ.kind≠ .plain:=fun op hop=>by
  obtain⟨ev,hev,rfl⟩:=Go.Conc.mem_ofEvents hop;exact⟨rfl,(hes ev hev).1⟩
 have hsafe:Safe w' (t++MemOp.ofEvents (e+n) g.frame.fn g.frame.place #[⟨.obj Ch,false,true⟩,⟨.obj Ch,true,true⟩]) S.Ms:=by
  refine H.safe.shared (B:=Ch) (fun op ho x hx=>(hops op ho).2 x hx) H.shc c1 c2 (fun op ho x hx b hb=>by rw [((hops op ho).2 x hx).1] at hb;cases hb;exact hwlt.2) (fun said=>noRace_append (H.safe.clean said) (fun op ho=>(hops op ho).1) fun k a ha op hop b hb hc=>?_)
  exact H.tf.qch (by rw [hct];rfl) k a ha (by rw [hc.1];exact((hops op hop).2 b hb).1) _ (.inr ⟨O,H.x_lt hx⟩)
 have hnm:∀r s,S.mt≠ .sp r s:=fun r s h=>by have:=(H.shp.mtsp r s h).2.2;rw [this] at hct;cases hct
 have hng:S.mt≠ .goc:=fun h=>by have:=(H.shp.mtgo h).2;rw [this] at hct;cases hct
 have hmd:Go.ConcN.Mode S.j (kD S.D) (CTag.ret) 0 0:= .fin trivial hquit
 have hwg:WgAt ty Wg w' 0 0:=by
  obtain⟨st,sm,h1,h2⟩:=H.wg
  rw [H.tag hon,hct] at h2
  obtain⟨_,rfl,rfl⟩:=h2.fin_inv trivial
  exact h1.of_block (c1 Wg (Ne.symm H.ne))
 have e1:MemOp.ofEvents (e+n) g.frame.fn g.frame.place #[⟨.obj Ch,false,true⟩,⟨.obj Ch,true,true⟩]= #[{g:=e+n,fn:=g.frame.fn,pos:=g.frame.place,act:= .access ⟨.obj Ch,false,true⟩ },{g:=e+n,fn:=g.frame.fn,pos:=g.frame.place,act:= .close Ch}]:=by simp [MemOp.ofEvents,MemAct.ofEvent]
 have hdC:Deaf t (e+n)=0:=by rw [H.tf.deafC hon,hct];rfl
 have hcls:∃pc,(t++MemOp.ofEvents (e+n) g.frame.fn g.frame.place #[⟨.obj Ch,false,true⟩,⟨.obj Ch,true,true⟩]).act? pc=some (.close Ch)∧(t++MemOp.ofEvents (e+n) g.frame.fn g.frame.place #[⟨.obj Ch,false,true⟩,⟨.obj Ch,true,true⟩]).g? pc=some (e+n)∧(t++MemOp.ofEvents (e+n) g.frame.fn g.frame.place #[⟨.obj Ch,false,true⟩,⟨.obj Ch,true,true⟩]).heard pc∧(t++MemOp.ofEvents (e+n) g.frame.fn g.frame.place #[⟨.obj Ch,false,true⟩,⟨.obj Ch,true,true⟩]).size=pc+1:=by
  rw [e1]
  generalize hX:({g:=e+n,fn:=g.frame.fn,pos:=g.frame.place,act:= .access ⟨.obj Ch,false,true⟩ }:MemOp)=X
  generalize hY:({g:=e+n,fn:=g.frame.fn,pos:=g.frame.place,act:= .close Ch}:MemOp)=Y
  have e2:t++ #[X,Y]=(t++ #[X])++ #[Y]:=by rw [Array.append_assoc];rfl
  have hd1:Deaf (t++ #[X]) (e+n)=0:=by
   rw [←hdC]
   exact Go.ConcN.Deaf_still t (e+n) _ fun op hop=>by
    simp only [List.mem_toArray,List.mem_cons,List.not_mem_nil,or_false] at hop;subst hop;subst hX;exact⟨by simp,by simp⟩
  rw [e2]
  have hy:((t++ #[X])++ #[Y])[(t++ #[X]).size]? =some Y:=by rw [Array.getElem?_append_right (Nat.le_refl _)];simp
  have hYg:Y.g=e+n∧Y.act= .close Ch:=by subst hY;exact⟨rfl,rfl⟩
  exact⟨(t++ #[X]).size,by rw [act?_of hy,hYg.2],by rw [Trace.g?,hy];simp [hYg.1],⟨e+n,by rw [Trace.g?,hy];simp [hYg.1],by rw [deaf_old (Nat.le_refl _)];exact hd1⟩,by rw [Array.size_append];rfl⟩
 obtain⟨mt,ct,hmt,_,_,hct',HP⟩:=H.go (S':={S with ct:= .gone 0,rc:= .stop,qc:=q}) (w':=w') (es:= #[⟨.obj Ch,false,true⟩,⟨.obj Ch,true,true⟩]) (g':=g') he hA hAt hx rfl rfl rfl (by rw [hon];rfl) (fun _=>⟨rfl,rfl⟩) (fun _ _ _=>⟨rfl,rfl⟩) (fun h=>absurd rfl h) (fun _ _=>rfl) (fun _ _=>rfl) (fun h=>by omega)
  (fun i _ h=>by omega) (fun _=>hq) (fun h1 h2=>by omega) hsafe
  ⟨0,0,hwg,fun ct hc _=>by
   rcases hc with rfl|⟨h,_⟩
   ·rw [H.tag hon];exact hmd
   ·cases h⟩ ⟨s,rr,tm,c3⟩ (fun _=>hquit)
  ⟨H.shp.jn,fun _=>hjn,fun r s h=>absurd h (hnm r s),fun h=>absurd h hng,fun _=>rfl,fun _=>rfl,H.shp.nomeet,H.shp.rs0⟩
  (fun h=>by omega) (fun _ _=>⟨hmw,hg'⟩) ⟨H.shw _,H.shc _⟩
  (H.tf.go he (H.x_lt hx) rfl (by rw [hon];rfl) H.size H.shp.onj H.shp.jn (fun _=>rfl) (fun _ _ _=>rfl) (fun h=>absurd rfl h) (fun h=>by omega) (fun _ _ h=>by omega) (fun _ _=>by rw [hct];rfl)
   (fun ev hev τ hτ hb=>by rw [((hes ev hev).1 τ hτ).1] at hb;exact absurd (Option.some.inj hb) H.ne) (fun ev hev=>by rw [(hes ev hev).2];simp) (fun i _ _ h=>by omega) (fun _ _ h=> .inl h)
   (fun _=> .inl ⟨hac,fun i hi=>by rw [hquit i O];omega⟩) (fun _=> .inr ⟨rfl,hcls⟩) (fun _ h=>by omega) (fun h=>by cases h))
 refine⟨_,_,_,_,runT_crowd_go hx (by rw [show(e+n==0)=false by simp;omega];exact hgo),HP, .single (mu_phi (mt_back hmt).2 U ?_),by subst hw';exact⟨rfl,rfl⟩⟩
 rw [hct' rfl,hct]
 exact Nat.zero_lt_one
theorem Ph.closer(H:Ph P ty Wg Ch e n Anch ok At S gs w t)(he:0<e)(hn:n<2147483648)(hA:∀g M,Anch g M→g.status= .running)(hAn:∀g M,Anch g M→AtW1 P ty Wg Ch Anch g M)(hAt:∀rs g M,At rs g M→g.status= .running)(hon:S.ct.on=true)(hx:gs[e+n]? =some g)(hs:g.status= .running):
  Nx P ty Wg Ch e n Anch ok At S gs w sl t (e+n):=by
 have hjn:=H.shp.onj hon
 have hVj:=Go.ConcN.Vc_le S.j (kD S.D)
 obtain⟨st,sm,hwg,hmode⟩:=H.wg
 rw [H.tag hon] at hmode
 obtain⟨a,ha,hC⟩:=H.clo hon
 rw [hx] at ha;cases ha
 cases hct:S.ct with
 |off=>rw [hct] at hon;cases hon
 |blk=>rw [hct] at hC;obtain⟨_,g0,rfl,_⟩:=hC;cases hs
 |gone d=>
  rw [hct] at hC hmode
  cases hq:S.qc with
  |zero=>rw [hq] at hC;rw [hC.1] at hs;cases hs
  |succ k=>
   rw [hq] at hC
   rcases hC with⟨hf,_⟩|⟨_,g',es,hm,hstp,hq'⟩
   ·rw [hf] at hs;cases hs
   ·refine H.cBook (s:=false) he hA hAt hx (hstp w) hon (Aside.refl Wg w) (fun ev hev=> .mute (hm ev hev)) (.gone (deafBehind d es)) S.rc k hq' U (by rw [hct];rfl) hwg hmode (by rw [hct];rfl) (fun _=> .inl (by rw [hct];rfl)) (fun _ ev hev=>⟨touch_mute (hm ev hev),fun hl=>?_⟩) (mu_q U U (by rw [hct];rfl) U U (by show sumTo e S.q+k<sumTo e S.q+S.qc;omega))
    have:=hm ev hev
    obtain⟨l,_,_⟩:=ev
    simp only at hl;subst hl;simp [Event.mute] at this
 |kd=>
  rcases H.c1 (sl:=sl) (Stop:=AtKd P ty Wg Anch) he hA hAt hx hon (fun rk g M=>by rw [hct];rfl) (by rw [hct];rfl) with h|⟨M',H1,⟨_,g',hgo,rc',hT⟩,hmu⟩
  ·exact h
  ·refine Nx.turned ?_ hmu
   rw [hct] at hmode
   exact H1.cBook (s:=true) he hA hAt hx (hgo w) hon (Aside.refl Wg w) (wev1 .disable) .anch rc' S.qc (by show T (WgLive ty Wg) P false Anch rc' g' (setM S.Ms (e+n) M' (e+n));rw [setM_same];exact hT) rfl (by rw [hct];rfl) hwg (hmode.reopen trivial trivial rfl (by simp [CT.tag])) (by rw [hct];rfl) (fun h=>by cases h) (fun h=>by rw [hct] at h;cases h)
    (mu_phi rfl rfl (by rw [hct];simp only [CT.phi];omega))
 |anch=>
  rcases H.c1 (sl:=sl) (Stop:=Anch) he hA hAt hx hon (fun rk g M=>by rw [hct];rfl) (by rw [hct];rfl) with h|⟨M',H1,hA1,hmu⟩
  ·exact h
  ·refine Nx.turned ?_ hmu
   obtain⟨_,hall⟩:=hAn _ _ hA1
   rw [hct] at hmode
   obtain⟨ho,rfl,rfl,_⟩:=hmode.open_inv trivial
   obtain⟨g',hgo,h0,h1⟩:=hall (Vc S.j (kD S.D)) O
   have hgo:=hgo w hwg
   by_cases hv:Vc S.j (kD S.D)=0
   ·obtain⟨rc',hT⟩:=h0 hv
    have hq:Go.ConcN.AllQuit S.j (kD S.D):=fun i hi=>by
     have:=Go.ConcN.le_sumTo (f:=fun x=>cnt (kD S.D x)) hi
     have h2:sumTo S.j (fun x=>cnt (kD S.D x))=0:=hv
     have h3:cnt (kD S.D i)=0:=O
     have h4:=ho i hi
     simp only [cnt] at h3
     split at h3<;>omega
    have hwg0:WgAt ty Wg w 0 0:=by
     have e0:((Vc S.j (kD S.D)+pend (CT.tag .anch):Nat):Int)*KK=0:=by rw [hv];simp [CT.tag,pend]
     rw [e0] at hwg;exact hwg
    exact H1.cBook (s:=true) he hA hAt hx hgo hon (Aside.refl Wg w) (wev1 (.bk (.inr (.inr ⟨_,_,rfl,rfl⟩)))) .ke rc' S.qc (by show T (WgLive ty Wg) P false _ rc' g' (setM S.Ms (e+n) M' (e+n));rw [setM_same];exact hT) rfl (by rw [hct];rfl) hwg0 (.fin trivial hq) (by rw [hct];rfl) (fun h=>by cases h) (fun h=>by rw [hct] at h;cases h)
     (mu_phi rfl rfl (by rw [hct];simp only [CT.phi];omega))
   ·obtain⟨rc',hT⟩:=h1 hv
    exact H1.cBook (s:=true) he hA hAt hx hgo hon (Aside.refl Wg w) (wev1 (.bk (.inr (.inr ⟨_,_,rfl,rfl⟩)))) (.w2 (Vc S.j (kD S.D))) rc' S.qc (by show T (WgLive ty Wg) P false _ rc' g' (setM S.Ms (e+n) M' (e+n));rw [setM_same];exact hT) rfl (by rw [hct];rfl) hwg (hmode.reopen trivial trivial rfl (fun vs e=>by cases e;omega)) (by rw [hct];rfl) (fun h=>by cases h) (fun h=>by rw [hct] at h;cases h)
     (mu_phi rfl rfl (by rw [hct];simp only [CT.phi];omega))
 |w2 vs=>
  rcases H.c1 (sl:=sl) (Stop:=AtW2 P ty Wg Ch Anch vs) he hA hAt hx hon (fun rk g M=>by rw [hct];rfl) (by rw [hct];rfl) with h|⟨M',H1,⟨_,hhit,hmiss⟩,hmu⟩
  ·exact h
  ·refine Nx.turned ?_ hmu
   rw [hct] at hmode
   obtain⟨ho,rfl,rfl,hw2⟩:=hmode.open_inv trivial
   obtain⟨hle,h1⟩:=hw2 vs rfl
   by_cases hv:Vc S.j (kD S.D)=vs
   ·obtain⟨g',hgo,rc',hT⟩:=hhit
    have hwg2:WgAt ty Wg w (vs*KK) 0:=by simpa [pend,CT.tag,hv] using hwg
    have hm2:Go.ConcN.Mode S.j (kD S.D) (CT.tag .wr) (vs*KK+1) 0:=by rw [←hv];exact .reg trivial ho O
    exact H1.cBook (s:=true) he hA hAt hx (hgo w hwg2) hon (Go.Conc.aside_setCell w (stA Wg) _) (fun ev hev=> .bk (bk2 Wg ev hev)) .wr rc' S.qc (by show T (WgLive ty Wg) P false _ rc' g' (setM S.Ms (e+n) M' (e+n));rw [setM_same];exact hT) rfl (by rw [hct];rfl) (hwg2.setSt _) hm2 (by rw [hct];rfl) (fun h=>by cases h) (fun h=>by rw [hct] at h;cases h)
     (mu_phi rfl rfl (by rw [hct];simp only [CT.phi];omega))
   ·obtain⟨g',hgo,rc',hT⟩:=hmiss (Vc S.j (kD S.D)) O hv
    have hwg2:WgAt ty Wg w ((Vc S.j (kD S.D):Nat)*KK) 0:=by simpa [pend,CT.tag] using hwg
    exact H1.cBook (s:=true) he hA hAt hx (hgo w hwg2) hon (Aside.refl Wg w) (wev1 (.bk (.inr (.inr ⟨_,_,rfl,rfl⟩)))) .anch rc' S.qc (by show T (WgLive ty Wg) P false _ rc' g' (setM S.Ms (e+n) M' (e+n));rw [setM_same];exact hT) rfl (by rw [hct];rfl) hwg (hmode.reopen trivial trivial rfl (by simp [CT.tag])) (by rw [hct];rfl) (fun h=>by cases h) (fun h=>by rw [hct] at h;cases h)
     (mu_phi rfl rfl (by rw [hct];simp only [CT.phi];omega))
 |wr=>
  rcases H.c1 (sl:=sl) (Stop:=AtWr P ty Wg Ch) he hA hAt hx hon (fun rk g M=>by rw [hct];rfl) (by rw [hct];rfl) with h|⟨M',H1,⟨_,g',hgo,rc',hT⟩,hmu⟩
  ·exact h
  ·refine Nx.turned ?_ hmu
   rw [hct] at hmode
   exact H1.cBook (s:=true) he hA hAt hx (hgo w) hon (Aside.refl Wg w) (wev1 .write) .w3 rc' S.qc (by show T (WgLive ty Wg) P false _ rc' g' (setM S.Ms (e+n) M' (e+n));rw [setM_same];exact hT) rfl (by rw [hct];rfl) hwg hmode (by rw [hct];rfl) (fun h=>by cases h) (fun h=>by rw [hct] at h;cases h)
    (mu_phi rfl rfl (by rw [hct];simp only [CT.phi];omega))
 |w3=>
  rcases H.c1 (sl:=sl) (Stop:=AtW3 P ty Wg Ch) he hA hAt hx hon (fun rk g M=>by rw [hct];rfl) (by rw [hct];rfl) with h|⟨M',H1,hst3,hmu⟩
  ·exact h
  ·refine Nx.turned ?_ hmu
   rw [hct] at hmode
   obtain⟨_,hoff,hblk,g',htake,rc',hT⟩:=id hst3
   have block:∀ {st:Int},WgAt ty Wg w st 0→Go.ConcN.Mode S.j (kD S.D) (CT.tag .blk) st 0→Nx P ty Wg Ch e n Anch ok At {S with rm:=S.rm,rc:= .stop,D:=S.D,Ms:=setM S.Ms (e+n) M'} gs w sl t (e+n):=fun hwg hmode=>by
    refine H1.cBook (s:=true) (es:= #[]) he hA hAt hx (hblk w _ hwg) hon (Aside.refl Wg w) Zi .blk .stop S.qc ⟨rfl,g,rfl,by show AtW3 P ty Wg Ch g (setM S.Ms (e+n) M' (e+n));rw [setM_same];exact hst3⟩ U (by rw [hct];rfl) hwg hmode (by rw [hct];rfl) (fun h=>by cases h) (fun h=>by rw [hct] at h;cases h) ?_
    unfold muOf
    rw [hct]
    exact Prod.Lex.right _ (Prod.Lex.right _ (Prod.Lex.right _ (Prod.Lex.right _ (Prod.Lex.right _ (Prod.Lex.right _ (Nat.lt_succ_self _))))))
   cases hmode with
   |opn h1 _ _=>exact h1.elim
   |reg h1 h2 h3=>exact block hwg (.reg trivial h2 h3)
   |last L h1 h2 h3 h4=>exact block hwg (.last L trivial h2 h3 h4)
   |sema h2=>
    exact H1.cBook (s:=true) he hA hAt hx (htake w hwg) hon (Go.Conc.aside_setCell w (smA Wg) _) (fun ev hev=> .bk (Go.ConcN.bk_sem ev hev)) .w4 rc' S.qc (by show T (WgLive ty Wg) P false _ rc' g' (setM S.Ms (e+n) M' (e+n));rw [setM_same];exact hT) rfl (by rw [hct];rfl) (hwg.setSm 0) (.fin trivial h2) (by rw [hct];rfl) (fun h=>by cases h) (fun h=>by rw [hct] at h;cases h)
     (mu_phi rfl rfl (by rw [hct];simp only [CT.phi];omega))
   |fin h1 _=>exact h1.elim
 |w4=>
  rcases H.c1 (sl:=sl) (Stop:=AtW4 P ty Wg Ch) he hA hAt hx hon (fun rk g M=>by rw [hct];rfl) (by rw [hct];rfl) with h|⟨M',H1,⟨_,g',hgo,rc',hT⟩,hmu⟩
  ·exact h
  ·refine Nx.turned ?_ hmu
   rw [hct] at hmode
   obtain⟨hq,rfl,rfl⟩:=hmode.fin_inv trivial
   exact H1.cBook (s:=true) he hA hAt hx (hgo w hwg) hon (Aside.refl Wg w) (wev1 (.bk (.inr (.inr ⟨_,_,rfl,rfl⟩)))) .ke rc' S.qc (by show T (WgLive ty Wg) P false _ rc' g' (setM S.Ms (e+n) M' (e+n));rw [setM_same];exact hT) rfl (by rw [hct];rfl) hwg (.fin trivial hq) (by rw [hct];rfl) (fun h=>by cases h) (fun h=>by rw [hct] at h;cases h)
    (mu_phi rfl rfl (by rw [hct];simp only [CT.phi];omega))
 |ke=>
  rcases H.c1 (sl:=sl) (Stop:=AtKe P ty Wg Ch) he hA hAt hx hon (fun rk g M=>by rw [hct];rfl) (by rw [hct];rfl) with h|⟨M',H1,⟨_,g',hgo,rc',hT⟩,hmu⟩
  ·exact h
  ·refine Nx.turned ?_ hmu
   rw [hct] at hmode
   obtain⟨hq,rfl,rfl⟩:=hmode.fin_inv trivial
   exact H1.cBook (s:=true) he hA hAt hx (hgo w) hon (Aside.refl Wg w) (wev1 .enable) .aq rc' S.qc (by show T (WgLive ty Wg) P false _ rc' g' (setM S.Ms (e+n) M' (e+n));rw [setM_same];exact hT) rfl (by rw [hct];rfl) hwg (.fin trivial hq) (by rw [hct];rfl) (fun h=>by cases h) (fun h=>by rw [hct] at h;cases h)
    (mu_phi rfl rfl (by rw [hct];simp only [CT.phi];omega))
 |aq=>
  rcases H.c1 (sl:=sl) (Stop:=AtAq P ty Wg Ch) he hA hAt hx hon (fun rk g M=>by rw [hct];rfl) (by rw [hct];rfl) with h|⟨M',H1,⟨_,g',hgo,rc',hT⟩,hmu⟩
  ·exact h
  ·refine Nx.turned ?_ hmu
   rw [hct] at hmode
   obtain⟨hq,rfl,rfl⟩:=hmode.fin_inv trivial
   exact H1.cBook (s:=true) he hA hAt hx (hgo w) hon (Aside.refl Wg w) (wev1 .acquire) .cl rc' S.qc (by show T (WgLive ty Wg) P false _ rc' g' (setM S.Ms (e+n) M' (e+n));rw [setM_same];exact hT) rfl (by rw [hct];rfl) hwg (.fin trivial hq) (by rw [hct];rfl) (fun h=> .inr ⟨hct,rfl⟩) (fun h=>by rw [hct] at h;cases h)
    (mu_phi rfl rfl (by rw [hct];simp only [CT.phi];omega))
 |cl=>
  rcases H.c1 (sl:=sl) (Stop:=AtCl P Ch) he hA hAt hx hon (fun rk g M=>by rw [hct];rfl) (by rw [hct];rfl) with h|⟨M',H1,hst,hmu⟩
  ·exact h
  ·exact Nx.turned (H1.close he hA hAt hx hct hst) hmu
end
end Go.Lg
namespace Go.Lg
open Go Go.Conc
open Go.ConcR (KK WgAt stA smA rd wr Payload Bk)
open Go.ConcN (RW WgLive WSit CTag RelBy Vc sumTo upd upd_ne upd_same WD cnt OpenSt pend)
variable {b:Nat}
noncomputable def joinRO(w:World)(Ms:Nat→Mem)(X:Nat→Prop):RO:=fun b=>by
 classical exact if∃i,X i∧((Ms i).ro b).isSome=true then w.heap[b]? else none
section
variable {w:World}{t u:Trace}{Ms:Nat→Mem}{X:Nat→Prop}
theorem joinRO_le(S:Safe w t Ms){i:Nat}(h:X i):(Ms i).ro.le (joinRO w Ms X):=fun b o hb=>by
 unfold joinRO
 rw [if_pos ⟨i,h,by rw [hb];rfl⟩]
 exact(S.sat i).ro b o hb
theorem joinRO_some(h:(joinRO w Ms X b).isSome=true):∃i,X i∧((Ms i).ro b).isSome=true:=by
 unfold joinRO at h
 split at h
 ·assumption
 ·cases h
theorem Safe.learn(S:Safe w t Ms)(hn:∀op∈u,op.act.touch? =none)(hk:∀i,X i→∀b,((Ms i).ro b).isSome=true→∀k x,touchAt t k=some x→blockOf x.loc=some b→x.write=true→Knows (t++u) 0 k)(h0:X 0):Safe w (t++u) (onlyM ⟨joinRO w Ms X,(Ms 0).own⟩):=by
 have hS:=S.still hn
 have hne:∀j,j≠0→onlyM ⟨joinRO w Ms X,(Ms 0).own⟩ j=noMem:=fun j hj=>by unfold onlyM;rw [setM_ne _ _ hj]
 have h00:onlyM ⟨joinRO w Ms X,(Ms 0).own⟩ 0=⟨joinRO w Ms X,(Ms 0).own⟩:=by unfold onlyM;rw [setM_same]
 have hap:∀b∈(Ms 0).ids,joinRO w Ms X b=none:=fun b hb=>by
  cases hj:joinRO w Ms X b with
  |none=>rfl
  |some o=>
   obtain⟨i,_,hi⟩:=joinRO_some (w:=w) (Ms:=Ms) (X:=X) (b:=b) (by rw [hj];rfl)
   by_cases e:i=0
   ·subst e;rw [(S.sat 0).apart b hb] at hi;cases hi
   ·rw [(S.apart 0 i (Ne.symm e) b hb).2] at hi;cases hi
 refine⟨fun j=>?_,fun i j hij b hb=>?_,fun j=>?_,hS.clean,hS.seen,fun k x hx hp b hb i=>?_⟩
 ·by_cases e:j=0
  ·subst e
   rw [h00]
   refine⟨fun b o hb=>?_,(S.sat 0).own,(S.sat 0).nodup,hap⟩
   simp only [joinRO] at hb
   split at hb
   ·exact hb
   ·cases hb
  ·rw [hne j e];exact⟨by simp [noMem],by simp [noMem],by simp [noMem,Mem.ids],by simp [noMem,Mem.ids]⟩
 ·by_cases e:i=0
  ·subst e;rw [hne j (Ne.symm hij)];exact⟨by simp [noMem,Mem.ids],rfl⟩
  ·rw [hne i e] at hb;simp [noMem,Mem.ids] at hb
 ·by_cases e:j=0
  ·subst e
   rw [h00]
   refine⟨(hS.kn 0).own,fun b hb k x hx hbx hw=>?_⟩
   obtain⟨i,hi,hi2⟩:=joinRO_some hb
   have hk0:Knows (t++u) 0 k:=by
    rcases touchAt_app hx with h1|⟨op,hop,_,hox⟩
    ·exact hk i hi b hi2 k x h1 hbx hw
    ·rw [hn op hop] at hox;cases hox
   exact⟨hk0, .inr hk0⟩
  ·rw [hne j e];exact⟨by simp [noMem,Mem.ids],by simp [noMem]⟩
 ·by_cases e:i=0
  ·subst e
   rw [h00]
   refine⟨(hS.quiet k x hx hp b hb 0).1, ?_⟩
   show joinRO w Ms X b=none
   cases hj:joinRO w Ms X b with
   |none=>rfl
   |some o=>
    obtain⟨i,_,hi⟩:=joinRO_some (w:=w) (Ms:=Ms) (X:=X) (b:=b) (by rw [hj];rfl)
    rw [(hS.quiet k x hx hp b hb i).2] at hi;cases hi
  ·rw [hne i e];exact⟨by simp [noMem,Mem.ids],rfl⟩
end
variable [Payload]
section
variable {P:Program}{ty:TypeId}{Wg Ch e n:Nat}{Anch:Goroutine→Mem→Prop}{ok:Nat→List Value→RO→Prop}{At:List Value→Goroutine→Mem→Prop}{J:Goroutine→Mem→Prop}
 {S S':St} {gs gs':Array Goroutine} {w w':World} {sl:Option (Nat×Nat)} {t u:Trace} {x:Nat} {g g':Goroutine} {es:Array Event} {M':Mem}
def WK.fuel:WK→Nat
 | .tree _=>0
 | .late _ m=>m
theorem counts_of_plain{t:Trace}{k:Nat}{x:Touch}(h:touchAt t k=some x)(hp:x.kind= .plain)(hb:blockOf x.loc=some b):t.counts k:=by
 refine⟨x,h, ?_, .inl (by rw [hp];simp)⟩
 cases hl:x.loc<;>rw [hl] at hb<;>first|rfl|cases hb
theorem Ph.before_close(H:Ph P ty Wg Ch e n Anch ok At S gs w t)(hcl:S.ct.closed=true):∃pc,t.act? pc=some (.close Ch)∧t.heard pc∧(∀k i,e≤i→i≤e+n→t.g? k=some i→t.counts k→Before t k pc):=by
 have hac:=acqd_of hcl
 have hon:=on_of_acqd hac
 have hj:=H.shp.onj hon
 have hq:=H.quit hac
 obtain⟨pc,p1,p2,p3,p4,p5⟩:=H.tf.cls hcl
 obtain⟨qa,a1,a2,a3,a4⟩:=H.tf.acq hac
 refine⟨pc,p1,p3,fun k i hi hi2 hk hc=>?_⟩
 by_cases hin:i=e+n
 ·subst hin
  have:=p4 k hk hc
  rcases Nat.lt_or_eq_of_le this with h|h
  ·exact .inr (.single (.inl ⟨h,_,hk,p2⟩))
  ·exact .inl h
 ·obtain⟨i,rfl⟩:∃i',i=e+i':=⟨i-e,O⟩
  obtain⟨r,hr,hrq⟩:=a4 i O
  have hle:k≤r:=Nat.le_of_not_lt fun hlt=>hr.after k hlt hk hc
  have b1:Before t k r:=by
   rcases Nat.lt_or_eq_of_le hle with h|h
   ·exact .inr (.single (.inl ⟨h,_,hk,hr.g⟩))
   ·exact .inl h
  have b2:Before t r qa:= .inr (.single (.inr ⟨.marked hrq (.inr hr.act) a1 (fun k hk _=>H.tf.norel r k _ hr.g (Nat.le_add_right _ _) hk),hr.heard,a3⟩))
  have hqp:=p5 qa a1 a2
  have hqn:qa≠pc:=fun e0=>by subst e0;rw [a1] at p1;cases p1
  exact b1.trans (b2.trans (.inr (.single (.inl ⟨O,_,a2,p2⟩))))
theorem Ph.exit(H:Ph P ty Wg Ch e n Anch ok At S gs w t)(he:0<e)(hA:∀g M,Anch g M→g.status= .running)(hAt:∀rs g M,At rs g M→g.status= .running)(hok:∀i s ro ro',ro.le ro'→ok i s ro→ok i s ro')(hcl:S.ct.closed=true)(hmt:S.mt= .rng∨S.mt= .wok)(hx:gs[0]? =some g){g0:Goroutine}{z:Value}
  (hcm:stepG P true g w= .comm g0 #[rcase Ch z] true (.recv true) w #[]) (hJ:∀ro',(S.Ms 0).ro.le ro'→AllSent n ok S.rs ro'→J (Go.Conc.served g0 (.tuple #[z, .bool false])) ⟨ro',(S.Ms 0).own⟩):
  ∃gs' g' ops q' M',runT P (crowd gs w sl) 0=(.next (crowd gs' w sl),ops)∧gs'[0]? =some g'∧Lone P gs' w (t++ops) q' M'∧J g' M':=by
 have hac:=acqd_of hcl
 have hon:=on_of_acqd hac
 have hj:=H.shp.onj hon
 have hq:=H.quit hac
 have hsz:=H.size
 rw [hon] at hsz
 simp only [if_true] at hsz
 obtain⟨s,r,tm,hch⟩:=H.ch
 rw [hcl] at hch
 obtain⟨pc,p1,p3,p4⟩:=H.before_close hcl
 have hnp:S.mt≠ .prk:=by rcases hmt with h|h<;>rw [h]<;>simp
 have hd0:Deaf t 0=0:=by have:=H.tf.deaf0;rcases hmt with h|h<;>rw [h] at this<;>exact this
 have hpt:partners (gs.setIfInBounds 0 ph) Ch true= []:=partners_nil fun k y hy=>by
  rcases getElem?_stand gs 0 k y hy with⟨_,rfl⟩|⟨hk0,hy'⟩
  ·exact offersAt_ph _ _
  ·rcases H.kinds hA hAt hy' with h|h|⟨i',r',h1,rfl,h2⟩
   ·exact offersAt_quiet (h.imp id fun h=>⟨h.1,h.2.1⟩) _ _
   ·exact absurd h.2 hnp
   ·have:=hq i' h1;rw [h2] at this;simp [WK.stage] at this
 have hst:=crowd_recv_closed (P:=P) (sl:=sl) (i:=0) hx (show stepG P (0==0) g w=_ from hcm) hch hpt
 rw [finishComm_recv] at hst
 generalize hZ:({g:=0,fn:=g0.frame.fn,pos:=g0.frame.place,act:= .recvClosed Ch}:MemOp)=Z at hst
 have hZg:Z.g=0∧Z.act= .recvClosed Ch:=by subst hZ;exact⟨rfl,rfl⟩
 have e1:MemOp.ofEvents 0 g.frame.fn g.frame.place #[]++ #[Z]= #[Z]:=by rw [ofEvents_eq];simp
 rw [e1] at hst
 have hn:∀op∈(#[Z]:Array MemOp),op.act.touch? =none:=fun op hop=>by
  simp only [List.mem_toArray,List.mem_cons,List.not_mem_nil,or_false] at hop;subst hop;rw [hZg.2];rfl
 have hg0:∀op∈(#[Z]:Array MemOp),op.g=0:=fun op hop=>by
  simp only [List.mem_toArray,List.mem_cons,List.not_mem_nil,or_false] at hop;subst hop;exact hZg.1
 have hDd:∀y,Deaf (t++ #[Z]) y=Deaf t y:=fun y=>Go.ConcN.Deaf_still t y _ fun op hop=>by
  simp only [List.mem_toArray,List.mem_cons,List.not_mem_nil,or_false] at hop;subst hop;rw [hZg.2];exact⟨by simp,by simp⟩
 have hZp:(t++ #[Z])[t.size]? =some Z:=by rw [Array.getElem?_append_right (Nat.le_refl _)];simp
 have hpl:=lt_of_act? p1
 have hedge:HappensBefore (t++ #[Z]) pc t.size:= .single (.inr ⟨.closed (c:=Ch) (by rw [act?_old hpl];exact p1) (by rw [act?_of hZp,hZg.2]),(heard_old hpl).2 p3,⟨0,by simp [Trace.g?,hZg.1],by rw [deaf_old (Nat.le_refl _)];exact hd0⟩⟩)
 have hknow:∀k i,e≤i→i≤e+n→t.g? k=some i→t.counts k→HappensBefore (t++ #[Z]) k t.size:=fun k i h1 h2 h3 h4=>((p4 k i h1 h2 h3 h4).app _).hb hedge
 have hkn0:∀k,HappensBefore (t++ #[Z]) k t.size→Knows (t++ #[Z]) 0 k:=fun k h=>⟨t.size,Z,hZp,hZg.1, .inr h⟩
 let X:Nat→Prop:=fun i=>i=0∨(e≤i∧i<e+n)
 have hsafe:Safe w (t++ #[Z]) (onlyM ⟨joinRO w S.Ms X,(S.Ms 0).own⟩):=by
  refine H.safe.learn hn (fun i hi b hb k x hx hbx hw=>?_) (.inl U)
  rcases hi with rfl|⟨h1,h2⟩
  ·exact((H.safe.kn 0).ro b hb k x hx hbx hw).1.app _
  ·rcases((H.safe.kn i).ro b hb k x hx hbx hw).2 with h3|h3
   ·refine hkn0 k (hknow k i h1 O h3 (counts_of_plain hx ?_ hbx))
    by_cases hp:x.kind= .plain
    ·exact hp
    ·rw [(H.safe.quiet k x hx hp b hbx i).2] at hb;cases hb
   ·exact h3.app _
 have hxl:=H.x_lt hx
 refine⟨_,_,_,fun i=>if i<e then S.q i else if i<e+n then(S.D (i-e)).fuel else S.qc,_,hst,(by rw [Array.getElem?_setIfInBounds_self_of_lt hxl];rfl),⟨⟨fun i a hi ha=>?_,fun i hi=>?_⟩,hsafe, ?_,(by rw [hDd];exact hd0),fun k g hk=>?_⟩,hJ _ (joinRO_le H.safe (.inl U)) ⟨S.sent,by rw [←hj];exact H.perm.1,fun i hi=>?_⟩⟩
 ·rw [Array.getElem?_setIfInBounds_ne O] at ha
  have hil:i<gs.size:=H.x_lt ha
  rw [hDd]
  by_cases h1:i<e
  ·simp only [h1,if_true]
   exact H.old i a hi h1 ha
  ·by_cases h2:i<e+n
   ·simp only [h1,h2,if_true,if_false]
    obtain⟨i,rfl⟩:∃i',i=e+i':=⟨i-e,O⟩
    rw [show e+i-e=i by omega]
    obtain⟨a',ha',hw⟩:=H.wk i O
    rw [ha] at ha';cases ha'
    have h3:=hq i O
    have h4:=H.tf.deafW i O
    generalize S.D i=k at hw h3
    generalize S.dd i=d at hw h4
    cases hw with
    |run h=>simp [WK.stage] at h3
    |park h=>simp [WK.stage] at h3
    |late _ _ _ h=>rw [h4];exact h.quits h3
   ·simp only [h1,h2,if_false]
    obtain rfl:i=e+n:=by omega
    obtain⟨a',ha',hc⟩:=H.clo hon
    rw [ha] at ha';cases ha'
    rw [H.tf.deafC hon]
    cases hct:S.ct<;>rw [hct] at hcl hc<;>first|exact hc|cases hcl
 ·rw [hDd];exact H.tf.above i (by simpa using hi)
 ·intro k g hk hne hc
  have hkl:k<t.size:=by
   rcases newg hk with⟨_,h⟩|⟨_,op,hop,hog⟩
   ·exact h
   ·exact absurd ((hg0 op hop).symm.trans hog).symm hne
  rw [g?_old hkl] at hk
  have hc':=(counts_old hkl).1 hc
  by_cases h1:g<e
  ·obtain⟨q,y,hy,hyg,hb⟩:=(H.tf.oldk k g hk O h1 hc').app #[Z]
   refine⟨q,by rw [Trace.g?,hy];simp [hyg], ?_⟩
   rcases hb with rfl|hb
   ·exfalso
    obtain⟨op,ho,hog⟩:=Option.map_eq_some_iff.1 hk
    rw [getElem?_append_old hkl,ho] at hy
    cases hy
    exact hne (hog.symm.trans hyg)
   ·exact hb
  ·have:=H.tf.gsb k g hk
   exact⟨t.size,by rw [Trace.g?,hZp];simp [hZg.1],hknow k g O O hk hc'⟩
 ·rw [Array.size_setIfInBounds]
  rcases g?_new hk with h|⟨op,hop,h⟩
  ·exact H.tf.gsb _ _ h
  ·have:=hg0 op hop;omega
 ·obtain⟨a,ha,hw⟩:=H.wk i O
  have h3:=hq i O
  have hle:(S.Ms (e+i)).ro.le (joinRO w S.Ms X):=joinRO_le H.safe (.inr ⟨O,O⟩)
  generalize S.D i=k at hw h3
  generalize S.dd i=d at hw
  cases hw with
  |run h=>simp [WK.stage] at h3
  |park h=>simp [WK.stage] at h3
  |late h _ _ _=>exact hok _ _ _ _ hle h
end
end Go.Lg
