/-
  Part 3 of what all proofs of this seat share: laws of the model that the walks use, and what functions of the program reckon. Conditions: the premises that each theorem states.
-/
import Derived.Test.YtfohpddpboaejaaGreatDoorKB
import Derived.ChangeArms
import Derived.Test.YtfohpddpboaejaaGreatDoorProg
import Derived.Sort.LotA
import Derived.Sort.LotB
import Derived.Sort.LotC
import Derived.Sort.LotD3
import Derived.Sort.LotD4
set_option maxRecDepth 100000
set_option maxHeartbeats 400000
set_option linter.all false
set_option linter.unusedVariables false
set_option linter.unusedSimpArgs false
set_option linter.unusedSectionVars false
namespace Go.Lg
open Go Go.Conc
abbrev KV:=List (List Int×Value)
variable {j m r:Nat}{et kt t:TypeId}{kd:TypeDesc}{kv:KV}{v z:Value}{x y:Operand}{key:List Int}{own':List (Nat×Obj)}
def entry_(x:(List Int×Value)×Nat):MapEntry:={key:= .agg (ints x.1.1).toArray,val:=x.1.2,born:=x.2}
def mapO(kv:KV):Obj:= .map (kv.zipIdx.map entry_).toArray kv.length
def getK:KV→List Int→Option (Nat×Value)
 | [],_=>none
 |(x,v)::l,k=>if k=x then some (0,v) else(getK l k).map fun r=>(r.1+1,r.2)
def setAt(kv:KV)(j:Nat)(v:Value):KV:=kv.modify j fun p=>(p.1,v)
theorem getK_at:∀ {kv:KV} {k:List Int} {i:Nat} {v:Value},getK kv k=some (i,v)→kv[i]? =some (k,v)
 |(x,w)::l,k,i,v,h=>by
  simp only [getK] at h
  split at h
  ·rename_i e;subst e;cases h;rfl
  ·obtain⟨⟨j,u⟩,h1,h2⟩:=Option.map_eq_some_iff.1 h
   simp only [Prod.mk.injEq] at h2
   obtain⟨rfl,rfl⟩:=h2
   simpa using getK_at h1
theorem CheckT.array{P:Program}{d len:Nat}{e:TypeId}{g:Bool}(hu:∀w,Sem.run P (Go.underlying t) w= .ok (.array len e) w)(hz:∀w,Sem.run P (Go.sizeOf e) w= .ok m w)(hag:∀w,Sem.run P (Go.isAgg e) w= .ok g w)(h1:g=false→m=1)(he:CheckT P d e m g):CheckT P (d+1) t (len*m) true:=fun a ha em M K hk=>by
 show Sm P M (Instr.checkKey em _ _ (.agg (ints a).toArray)) K
 unfold Instr.checkKey
 refine Sm.bind (Sm.underlying hu ?_)
 simp only
 simp only [Std.Legacy.Range.forIn_eq_forIn_range',Std.Legacy.Range.size,Nat.sub_zero,Nat.add_sub_cancel,Nat.div_one]
 refine Sm.bind (Sm.forU _ (fun i hm s M K hk=>?_) _ _ (Sm.pure hk))
 have hi:i<len:=by
  obtain⟨j,hj,rfl⟩:=List.mem_range'.1 hm;omega
 have hle:i*m+m≤len*m:=by
  have:(i+1)*m≤len*m:=Nat.mul_le_mul_right m O
  rw [Nat.add_mul] at this;omega
 refine Sm.bind (Sm.sizeOf hz (Sm.bind (Sm.partIv hag hz O h1 (Sm.bind (he _ Zo _ _ _ (Sm.pure hk))))))
theorem Sm.findKey_kv{P:Program}{M:Mem}{t n:Nat}{k:List Int}{K:Option (Nat×Value)→Mem→Prop}(hu:∀w,Sem.run P (Go.underlying t) w= .ok kd w)(hs:∀a b,Instr.sameNow kd (.agg a) (.agg b)=none)(hq:IntT P 10000 t n true)(hk:k.length=n)(hks:∀x∈kv,x.1.length=n)
  (h:K (getK kv k) M):Sm P M (Instr.findKey t (.agg (ints k).toArray) (kv.zipIdx.map entry_).toArray.toList) K:=by
 unfold Instr.findKey
 refine Sm.bind (Sm.underlying hu ?_)
 rw [List.toList_toArray]
 have ask:∀ (l:KV) (j i:Nat) (K:Option (Nat×Value)→Mem→Prop),(∀x∈l,x.1.length=n)→K ((getK l k).map fun r=>(r.1+i,r.2)) M→Sm P M (Instr.findAsking t (.agg (ints k).toArray) ((l.zipIdx j).map entry_) i) K:=by
  intro l
  induction l with
  |nil=>intro j i K _ h;exact Sm.pure (by simpa [getK] using h)
  |cons x l ih=>
   intro j i K hl h
   simp only [List.zipIdx_cons,List.map_cons,Instr.findAsking]
   unfold Op.equal
   refine Sm.bind (hq k x.1 hk (hl x List.mem_cons_self) _ _ ?_)
   by_cases e:k=x.1
   ·rw [if_pos (by simpa using e)]
    refine Sm.pure ?_
    simp only [getK,e,if_true,Option.map_some,Nat.zero_add] at h
    exact h
   ·rw [if_neg (by simpa using e)]
    refine ih (j+1) (i+1) K (fun y hy=>hl y (List.mem_cons_of_mem _ hy)) ?_
    simp only [getK,e,if_false,Option.map_map] at h
    have e2:((fun r:Nat×Value=>(r.1+i,r.2)) ∘fun r:Nat×Value=>(r.1+1,r.2))=fun r:Nat×Value=>(r.1+(i+1),r.2):=by
     funext r;simp;omega
    rw [e2] at h;exact h
 cases kv with
 |nil=>exact Sm.pure h
 |cons x l=>
  have e0:Instr.findNow kd (.agg (ints k).toArray) ((((x::l:KV).zipIdx).map entry_)) 0=none:=by
   simp only [List.zipIdx_cons,List.map_cons,Instr.findNow,entry_,hs]
  rw [e0]
  refine ask (x::l) 0 0 K hks ?_
  have e2:(fun r:Nat×Value=>(r.1+0,r.2))=id:=by funext r;simp
  rw [e2,Option.map_id];exact h
theorem sameBits_ints(n:Nat)(a:List Int):Instr.sameBits (n+1) (.agg (ints a).toArray) (.agg (ints a).toArray)=true:=by
 simp only [Instr.sameBits,beq_self_eq_true,Bool.true_and,List.all_eq_true]
 rintro⟨x,y⟩ hxy
 obtain⟨i,hi⟩:=List.getElem?_of_mem hxy
 rw [List.getElem?_zip_eq_some] at hi
 have:x=y:=by rw [hi.1] at hi;exact Option.some.inj hi.2
 subst this
 have hx:=List.mem_of_getElem? hi.1
 simp only [ints,List.mem_map] at hx
 obtain⟨z,_,rfl⟩:=hx
 cases n<;>simp [Instr.sameBits]
theorem mapO_push(kv:KV)(k:List Int)(v:Value):(.map ((kv.zipIdx.map entry_).toArray.push {key:= .agg (ints k).toArray,val:=v,born:=kv.length}) (kv.length+1):Obj)=mapO (kv++ [(k,v)]):=by
 simp [mapO,List.zipIdx_append,entry_]
theorem entries_get{i:Nat}{k:List Int}(h:kv[i]? =some (k,v)):(kv.zipIdx.map entry_).toArray[i]? =some (entry_ ((k,v),i)):=by
 simp [List.getElem?_zipIdx,h]
theorem mapO_modify{i:Nat}{k:List Int}{v':Value}(h:kv[i]? =some (k,v))(f:MapEntry→MapEntry)(hf:f (entry_ ((k,v),i))=entry_ ((k,v'),i)):(.map ((kv.zipIdx.map entry_).toArray.modify i f) kv.length:Obj)=mapO (setAt kv i v'):=by
 unfold mapO setAt
 congr 1
 ·apply Array.ext'
  rw [Array.toList_modify,List.toList_toArray,List.toList_toArray]
  apply List.ext_getElem?
  intro j
  rw [List.getElem?_modify]
  simp only [List.getElem?_map,List.getElem?_zipIdx,List.getElem?_modify,Nat.zero_add]
  by_cases e:i=j
  ·subst e;simp [h,hf]
  ·simp [e]
 ·simp
section
variable {P:Program}{main:Bool}{J:Goroutine→Mem→Prop}{b:Frame}(C:Ctx P main J b){cs:List Frame}{n:Nat}{ds:List Deferred}{σ:Slots}{ro:RO}{own:List (Nat×Obj)}{k:List Item}{ops:Array Oper}{i:Nat}{rest:List Nat}
 {d:Nat} {dst:Option Nat} {ty:TypeId} {pos:String} {af:Array Edge} {g:Option (Nat×Bool)}
include C
theorem R.makeMapO(ho:ops[i]? =some ⟨some d, .makeMap t none,ty,pos,af,g⟩)(hg:wantedS ops σ ⟨some d, .makeMap t none,ty,pos,af,g⟩=some true)
  (h:∀p,R J b cs n ops rest k ds ((d, .map (some p))::σ) ⟨ro,(p,mapO [])::own⟩):R J b cs n ops (i::rest) k ds σ ⟨ro,own⟩:=
 R.op C ho hg rfl fun a ha=>by
  unfold execOp
  refine ex_v ?_
  show Sm P _ (Instr.makeMap t none) _
  unfold Instr.makeMap
  exact Sm.bind (Sm.newObj fun p _ _=>Sm.pure (h p))
theorem R.lookupO(ho:ops[i]? =some ⟨some d, .lookup t x y true,ty,pos,af,g⟩)(hg:wantedS ops σ ⟨some d, .lookup t x y true,ty,pos,af,g⟩=some true)
  (hx:ev σ x=some (.map (some r))) (hy:ev σ y=some (.agg (ints key).toArray)) (hu:∀w,Sem.run P (Go.underlying t) w= .ok (.map kt et) w) (hk:∀w,Sem.run P (Go.underlying kt) w= .ok kd w) (hs:∀a b,Instr.sameNow kd (.agg a) (.agg b)=none) (hz:∀w,Sem.run P (Go.zeroValue et) w= .ok z w)
  (hq:IntT P 10000 kt m true) (hc:CheckT P 10000 kt m true) (hkl:key.length=m) (hks:∀x∈kv,x.1.length=m) (hm:(r,mapO kv)∈own)
  (h:R J b cs n ops rest k ds ((d, .tuple (match getK kv key with|some (_,v)=> #[v, .bool true]|none=> #[z, .bool false]))::σ) ⟨ro,own⟩):R J b cs n ops (i::rest) k ds σ ⟨ro,own⟩:=
 R.op C ho hg rfl fun a ha=>by
  unfold execOp
  simp only [ha.ev hx,ha.ev hy]
  refine ex_v ?_
  unfold Instr.lookup
  refine Sm.bind (Sm.underlying hu ?_)
  simp only
  refine Sm.bind (Sm.getObj_own hm U U ?_)
  simp only [mapO]
  refine Sm.bind (Sm.pure (Sm.bind (hc key hkl _ _ _ (Sm.bind (Sm.findKey_kv hk hs hq hkl hks ?_)))))
  cases hgk:getK kv key with
  |some r=>rw [hgk] at h;exact Sm.bind (Sm.pure (Sm.pure h))
  |none=>rw [hgk] at h;exact Sm.bind (Sm.zeroValue hz (Sm.bind (Sm.pure (Sm.pure h))))
theorem R.lookupV(ho:ops[i]? =some ⟨some d, .lookup t x y false,ty,pos,af,g⟩)(hg:wantedS ops σ ⟨some d, .lookup t x y false,ty,pos,af,g⟩=some true)
  (hx:ev σ x=some (.map (some r))) (hy:ev σ y=some (.agg (ints key).toArray)) (hu:∀w,Sem.run P (Go.underlying t) w= .ok (.map kt et) w) (hk:∀w,Sem.run P (Go.underlying kt) w= .ok kd w) (hs:∀a b,Instr.sameNow kd (.agg a) (.agg b)=none) (hz:∀w,Sem.run P (Go.zeroValue et) w= .ok z w)
  (hq:IntT P 10000 kt m true) (hc:CheckT P 10000 kt m true) (hkl:key.length=m) (hks:∀x∈kv,x.1.length=m) (hm:(r,mapO kv)∈own) (hv:(match getK kv key with|some (_,v)=>v|none=>z)=v)
  (h:R J b cs n ops rest k ds ((d,v)::σ) ⟨ro,own⟩):R J b cs n ops (i::rest) k ds σ ⟨ro,own⟩:=
 R.op C ho hg rfl fun a ha=>by
  unfold execOp
  simp only [ha.ev hx,ha.ev hy]
  refine ex_v ?_
  unfold Instr.lookup
  refine Sm.bind (Sm.underlying hu ?_)
  simp only
  refine Sm.bind (Sm.getObj_own hm U U ?_)
  simp only [mapO]
  refine Sm.bind (Sm.pure (Sm.bind (hc key hkl _ _ _ (Sm.bind (Sm.findKey_kv hk hs hq hkl hks ?_)))))
  subst hv
  cases hgk:getK kv key with
  |some r=>rw [hgk] at h;exact Sm.bind (Sm.pure (Sm.pure h))
  |none=>rw [hgk] at h;exact Sm.bind (Sm.zeroValue hz (Sm.bind (Sm.pure (Sm.pure h))))
theorem R.lookupHit(ho:ops[i]? =some ⟨some d, .lookup t x y true,ty,pos,af,g⟩)(hg:wantedS ops σ ⟨some d, .lookup t x y true,ty,pos,af,g⟩=some true)
  (hx:ev σ x=some (.map (some r))) (hy:ev σ y=some (.agg (ints key).toArray)) (hu:∀w,Sem.run P (Go.underlying t) w= .ok (.map kt et) w) (hk:∀w,Sem.run P (Go.underlying kt) w= .ok kd w) (hs:∀a b,Instr.sameNow kd (.agg a) (.agg b)=none) (hz:∀w,Sem.run P (Go.zeroValue et) w= .ok z w)
  (hq:IntT P 10000 kt m true) (hc:CheckT P 10000 kt m true) (hkl:key.length=m) (hks:∀x∈kv,x.1.length=m) (hf:getK kv key=some (j,v)) (hm:(r,mapO kv)∈own)
  (h:R J b cs n ops rest k ds ((d, .tuple #[v, .bool true])::σ) ⟨ro,own⟩):R J b cs n ops (i::rest) k ds σ ⟨ro,own⟩:=
 R.lookupO C ho hg hx hy hu hk hs hz hq hc hkl hks hm (by rw [hf];exact h)
theorem R.lookupMiss(ho:ops[i]? =some ⟨some d, .lookup t x y true,ty,pos,af,g⟩)(hg:wantedS ops σ ⟨some d, .lookup t x y true,ty,pos,af,g⟩=some true)
  (hx:ev σ x=some (.map (some r))) (hy:ev σ y=some (.agg (ints key).toArray)) (hu:∀w,Sem.run P (Go.underlying t) w= .ok (.map kt et) w) (hk:∀w,Sem.run P (Go.underlying kt) w= .ok kd w) (hs:∀a b,Instr.sameNow kd (.agg a) (.agg b)=none) (hz:∀w,Sem.run P (Go.zeroValue et) w= .ok z w)
  (hq:IntT P 10000 kt m true) (hc:CheckT P 10000 kt m true) (hkl:key.length=m) (hks:∀x∈kv,x.1.length=m) (hf:getK kv key=none) (hm:(r,mapO kv)∈own)
  (h:R J b cs n ops rest k ds ((d, .tuple #[z, .bool false])::σ) ⟨ro,own⟩):R J b cs n ops (i::rest) k ds σ ⟨ro,own⟩:=
 R.lookupO C ho hg hx hy hu hk hs hz hq hc hkl hks hm (by rw [hf];exact h)
theorem R.enterO{z:Operand}(ho:ops[i]? =some ⟨none, .mapUpdate t x y z,ty,pos,af,g⟩)(hg:wantedS ops σ ⟨none, .mapUpdate t x y z,ty,pos,af,g⟩=some true)
  (hx:ev σ x=some (.map (some r))) (hy:ev σ y=some (.agg (ints key).toArray)) (hz:ev σ z=some v) (hu:∀w,Sem.run P (Go.underlying t) w= .ok (.map kt et) w) (hk:∀w,Sem.run P (Go.underlying kt) w= .ok kd w) (hs:∀a b,Instr.sameNow kd (.agg a) (.agg b)=none)
  (hq:IntT P 10000 kt m true) (hc:CheckT P 10000 kt m true) (hkl:key.length=m) (hks:∀x∈kv,x.1.length=m) (hn:getK kv key=none) (hup:Upd own r (mapO kv) (mapO (kv++ [(key,v)])) own')
  (h:R J b cs n ops rest k ds σ ⟨ro,own'⟩):R J b cs n ops (i::rest) k ds σ ⟨ro,own⟩:=
 R.op C ho hg rfl fun a ha=>by
  unfold execOp
  simp only [ha.ev hx,ha.ev hy,ha.ev hz]
  refine ex_u ?_
  show Sm P _ (Instr.mapUpdate t (.map (some r)) (.agg (ints key).toArray) v) _
  unfold Instr.mapUpdate
  refine Sm.bind (Sm.underlying hu ?_)
  simp only
  refine Sm.bind (Sm.getObj_own hup.mem U U ?_)
  simp only [mapO]
  refine Sm.bind (hc key hkl _ _ _ (Sm.bind (Sm.findKey_kv hk hs hq hkl hks ?_)))
  rw [hn]
  simp only
  rw [mapO_push]
  exact Sm.setObj_own hup rfl rfl h
theorem R.entryNew(ho:ops[i]? =some ⟨some d, .mapEntry t x y,ty,pos,af,g⟩)(hg:wantedS ops σ ⟨some d, .mapEntry t x y,ty,pos,af,g⟩=some true)
  (hx:ev σ x=some (.map (some r))) (hy:ev σ y=some (.agg (ints key).toArray)) (hu:∀w,Sem.run P (Go.underlying t) w= .ok (.map kt et) w) (hk:∀w,Sem.run P (Go.underlying kt) w= .ok kd w) (hs:∀a b,Instr.sameNow kd (.agg a) (.agg b)=none) (hz:∀w,Sem.run P (Go.zeroValue et) w= .ok z w)
  (hq:IntT P 10000 kt m true) (hc:CheckT P 10000 kt m true) (hkl:key.length=m) (hks:∀x∈kv,x.1.length=m) (hn:getK kv key=none) (hup:Upd own r (mapO kv) (mapO (kv++ [(key,z)])) own')
  (h:R J b cs n ops rest k ds ((d, .tuple #[z, .int .i64 (kv.length:Int)])::σ) ⟨ro,own'⟩):R J b cs n ops (i::rest) k ds σ ⟨ro,own⟩:=
 R.op C ho hg rfl fun a ha=>by
  unfold execOp
  simp only [ha.ev hx,ha.ev hy]
  refine ex_v ?_
  unfold Instr.mapEntry
  refine Sm.bind (Sm.underlying hu ?_)
  simp only
  refine Sm.bind (Sm.getObj_own hup.mem U U ?_)
  simp only [mapO]
  refine Sm.bind (hc key hkl _ _ _ (Sm.bind (Sm.findKey_kv hk hs hq hkl hks ?_)))
  rw [hn]
  refine Sm.bind (Sm.zeroValue hz ?_)
  rw [mapO_push]
  exact Sm.bind (Sm.setObj_own hup rfl rfl (Sm.pure h))
theorem R.entryOld(ho:ops[i]? =some ⟨some d, .mapEntry t x y,ty,pos,af,g⟩)(hg:wantedS ops σ ⟨some d, .mapEntry t x y,ty,pos,af,g⟩=some true)
  (hx:ev σ x=some (.map (some r))) (hy:ev σ y=some (.agg (ints key).toArray)) (hu:∀w,Sem.run P (Go.underlying t) w= .ok (.map kt et) w) (hk:∀w,Sem.run P (Go.underlying kt) w= .ok kd w) (hs:∀a b,Instr.sameNow kd (.agg a) (.agg b)=none)
  (hq:IntT P 10000 kt m true) (hc:CheckT P 10000 kt m true) (hkl:key.length=m) (hks:∀x∈kv,x.1.length=m) (hn:getK kv key=some (j,v)) (hup:Upd own r (mapO kv) (mapO (setAt kv j v)) own')
  (h:R J b cs n ops rest k ds ((d, .tuple #[v, .int .i64 (j:Int)])::σ) ⟨ro,own'⟩):R J b cs n ops (i::rest) k ds σ ⟨ro,own⟩:=
 R.op C ho hg rfl fun a ha=>by
  have hj:=getK_at hn
  unfold execOp
  simp only [ha.ev hx,ha.ev hy]
  refine ex_v ?_
  unfold Instr.mapEntry
  refine Sm.bind (Sm.underlying hu ?_)
  simp only
  refine Sm.bind (Sm.getObj_own hup.mem U U ?_)
  simp only [mapO]
  refine Sm.bind (hc key hkl _ _ _ (Sm.bind (Sm.findKey_kv hk hs hq hkl hks ?_)))
  rw [hn]
  simp only [entries_get hj,Option.map_some,Option.getD_some]
  unfold Instr.keyThatStays
  refine Sm.bind ?_
  rw [if_pos (by exact sameBits_ints 9999 key)]
  refine Sm.pure ?_
  rw [mapO_modify (v':=v) hj _ rfl]
  exact Sm.bind (Sm.setObj_own hup rfl rfl (Sm.pure h))
theorem R.entryPut{z:Operand}{w:Value}(ho:ops[i]? =some ⟨none, .entryStore t x y z,ty,pos,af,g⟩)(hg:wantedS ops σ ⟨none, .entryStore t x y z,ty,pos,af,g⟩=some true)
  (hx:ev σ x=some (.map (some r))) (hy:ev σ y=some (.int .i64 (j:Int))) (hz:ev σ z=some v) (hj:kv[j]? =some (key,w)) (hup:Upd own r (mapO kv) (mapO (setAt kv j v)) own')
  (h:R J b cs n ops rest k ds σ ⟨ro,own'⟩):R J b cs n ops (i::rest) k ds σ ⟨ro,own⟩:=
 R.op C ho hg rfl fun a ha=>by
  unfold execOp
  simp only [ha.ev hx,ha.ev hy,ha.ev hz]
  refine ex_u ?_
  show Sm P _ (Instr.entryStore t (.map (some r)) (.int .i64 (j:Int)) v) _
  unfold Instr.entryStore
  refine Sm.bind (Sm.getObj_own hup.mem U U ?_)
  simp only [mapO]
  unfold asInt
  refine Sm.bind (Sm.pure ?_)
  have e:(kv.zipIdx.map entry_).toArray.findIdx? (fun e:MapEntry=>((e.born:Int)==(j:Int)))=some j:=by
   rw [List.findIdx?_toArray]
   rw [List.findIdx?_eq_some_iff_getElem]
   have hjl:j<kv.length:=(List.getElem?_eq_some_iff.1 hj).1
   refine⟨by simpa using hjl,by simp [entry_],fun m hm=>by simp [entry_];omega⟩
  rw [e]
  simp only
  rw [mapO_modify (v':=v) hj _ rfl]
  exact Sm.setObj_own hup rfl rfl h
end
end Go.Lg
namespace Go.Lg
open Go Go.Conc
variable {kv:KV}{seen:List Nat}{x:Operand}{q r:Nat}
def iterO(r c:Nat)(seen:List Nat):Obj:= .mapIter (some r) c seen.toArray c
theorem left_mem{e:MapEntry}(h:e∈((kv.zipIdx.map entry_).toArray.filter fun e=> !seen.toArray.contains e.born)):∃j key v,kv[j]? =some (key,v)∧j∉seen∧e=entry_ ((key,v),j):=by
 rw [Array.mem_filter] at h
 obtain⟨h1,h2⟩:=h
 rw [List.mem_toArray,List.mem_map] at h1
 obtain⟨⟨⟨key,v⟩,j⟩,h3,rfl⟩:=h1
 rw [List.mk_mem_zipIdx_iff_getElem?] at h3
 refine⟨j,key,v,h3, ?_,rfl⟩
 simpa [entry_] using h2
theorem left_nil(h:((kv.zipIdx.map entry_).toArray.filter fun e=> !seen.toArray.contains e.born)= #[]):∀j,j<kv.length→j∈seen:=by
 intro j hj
 refine Classical.byContradiction fun hn=>?_
 have hk:kv[j]? =some kv[j]:=List.getElem?_eq_getElem hj
 have:entry_ (kv[j],j)∈((kv.zipIdx.map entry_).toArray.filter fun e=> !seen.toArray.contains e.born):=by
  rw [Array.mem_filter]
  refine⟨?_,by simpa [entry_] using hn⟩
  rw [List.mem_toArray,List.mem_map]
  exact⟨(kv[j],j),by rw [List.mk_mem_zipIdx_iff_getElem?];exact hk,rfl⟩
 rw [h] at this
 simp at this
theorem cut_lt{n k:Nat}(h0:0<n)(h:((Question.mapNext n).forced=true∧k=0)∨((Question.mapNext n).forced=false∧∃t,k=(Question.mapNext n).cut t)):k<n:=by
 rcases h with⟨_,rfl⟩|⟨_,t,rfl⟩
 ·exact h0
 ·exact Nat.mod_lt _ h0
section
variable {P:Program}{main:Bool}{J:Goroutine→Mem→Prop}{b:Frame}(C:Ctx P main J b){cs:List Frame}{n:Nat}{ds:List Deferred}{σ:Slots}{ro:RO}{own:List (Nat×Obj)}{k:List Item}{ops:Array Oper}{i:Nat}{rest:List Nat}
 {d:Nat} {ty:TypeId} {pos:String} {af:Array Edge} {g:Option (Nat×Bool)}
include C
theorem R.rangeO{t kt et:TypeId}(ho:ops[i]? =some ⟨some d, .range t x,ty,pos,af,g⟩)(hg:wantedS ops σ ⟨some d, .range t x,ty,pos,af,g⟩=some true)(hx:ev σ x=some (.map (some r)))
  (hu:∀w,Sem.run P (Go.underlying t) w= .ok (.map kt et) w) (hm:(r,mapO kv)∈own) (h:∀p,R J b cs n ops rest k ds ((d, .pointer (some ⟨p,0,none⟩))::σ) ⟨ro,(p,iterO r kv.length [])::own⟩):R J b cs n ops (i::rest) k ds σ ⟨ro,own⟩:=
 R.op C ho hg rfl fun a ha=>by
  unfold execOp
  simp only [ha.ev hx]
  refine ex_v ?_
  unfold Instr.range
  refine Sm.bind (Sm.underlying hu ?_)
  simp only
  refine Sm.bind (Sm.getObj_own hm U U ?_)
  simp only [mapO]
  exact Sm.bind (Sm.pure (Sm.bind (Sm.newObj fun p _ _=>Sm.pure (h p))))
theorem R.nextO{own':Nat→List (Nat×Obj)}(ho:ops[i]? =some ⟨some d, .next x false,ty,pos,af,g⟩)(hg:wantedS ops σ ⟨some d, .next x false,ty,pos,af,g⟩=some true)(hx:ev σ x=some (.pointer (some ⟨q,0,none⟩)))
  (hm:(r,mapO kv)∈own) (hup:∀j,Upd own q (iterO r kv.length seen) (iterO r kv.length (seen++ [j])) (own' j))
  (h1:(∀j,j<kv.length→j∈seen)→R J b cs n ops rest k ds ((d, .tuple #[.bool false])::σ) ⟨ro,own⟩)
  (h2:∀j key v,kv[j]? =some (key,v)→j∉seen→R J b cs n ops rest k ds ((d, .tuple #[.bool true, .agg (ints key).toArray,v])::σ) ⟨ro,own' j⟩):R J b cs n ops (i::rest) k ds σ ⟨ro,own⟩:=
 R.op C ho hg rfl fun a ha=>by
  unfold execOp
  simp only [ha.ev hx]
  refine ex_v ?_
  unfold Instr.next
  simp only
  refine Sm.bind (Sm.getObj_own (hup 0).mem U U ?_)
  simp only [iterO]
  refine Sm.bind (Sm.getObj_own hm U U ?_)
  simp only [mapO]
  have hall:(!(seen.toArray.isEmpty) && !((kv.zipIdx.map entry_).toArray.isEmpty) && (kv.zipIdx.map entry_).toArray.all fun e=>decide (e.born≥kv.length))=false:=by
   cases kv with
   |nil=>simp
   |cons x l=>simp [entry_]
  have hold:((kv.zipIdx.map entry_).toArray.filter fun e=> !seen.toArray.contains e.born).filter (fun e=>decide (e.born<kv.length))=(kv.zipIdx.map entry_).toArray.filter fun e=> !seen.toArray.contains e.born:=by
   rw [Array.filter_eq_self]
   intro e he
   obtain⟨j,key,v,h1,_,rfl⟩:=left_mem he
   exact decide_eq_true (List.getElem?_eq_some_iff.1 h1).1
  have hnew:((kv.zipIdx.map entry_).toArray.filter fun e=> !seen.toArray.contains e.born).filter (fun e=>decide (e.born≥kv.length))= #[]:=by
   rw [Array.filter_eq_empty_iff]
   intro e he
   obtain⟨j,key,v,h1,_,rfl⟩:=left_mem he
   have:=(List.getElem?_eq_some_iff.1 h1).1
   simp [entry_];omega
  rw [if_neg (by rw [hall];simp)]
  rw [hold,hnew]
  generalize hL:((kv.zipIdx.map entry_).toArray.filter fun e=> !seen.toArray.contains e.born)=L
  have hmem:∀e∈L,∃j key v,kv[j]? =some (key,v)∧j∉seen∧e=entry_ ((key,v),j):=fun e he=>left_mem (by rw [hL];exact he)
  have hnil:L= #[]→∀j,j<kv.length→j∈seen:=fun e=>left_nil (by rw [hL];exact e)
  clear hL hold hnew hall
  refine Sm.bind (Sm.choose fun m hm'=>?_)
  have hlt:m<((if L.isEmpty then #[none] else #[])++(L++ #[]).map some).size:=cut_lt (by
   cases hL:L.isEmpty with
   |true=>simp;omega
   |false=>
    have:L.size≠0:=by simpa [Array.isEmpty] using hL
    simp;omega) hm'
  rw [Array.getElem?_eq_getElem hlt]
  cases hx':((if L.isEmpty then #[none] else #[])++(L++ #[]).map some)[m] with
  |none=>
   have hmm:=Array.getElem_mem hlt
   rw [hx',Array.mem_append] at hmm
   have hLe:L.isEmpty=true:=by
    cases hL:L.isEmpty with
    |true=>rfl
    |false=>
     rw [hL] at hmm
     rcases hmm with h|h<;>simp at h
   exact Sm.pure (h1 (hnil (by simpa using hLe)))
  |some e=>
   have hmm:=Array.getElem_mem hlt
   rw [hx',Array.mem_append] at hmm
   have he:e∈L:=by
    rcases hmm with h|h
    ·split at h<;>simp at h
    ·simpa using h
   obtain⟨j,key,v,h3,h4,rfl⟩:=hmem e he
   have hset:(Obj.mapIter (some r) kv.length (seen.toArray.push j) kv.length)=iterO r kv.length (seen++ [j]):=by simp [iterO]
   simp only [entry_]
   rw [hset]
   exact Sm.bind (Sm.setObj_own (hup j) rfl rfl (Sm.pure (h2 j key v h3 h4)))
theorem R.entryO{j:Nat}{key:List Int}{v:Value}(ho:ops[i]? =some ⟨some d, .entry x,ty,pos,af,g⟩)(hg:wantedS ops σ ⟨some d, .entry x,ty,pos,af,g⟩=some true)(hx:ev σ x=some (.pointer (some ⟨q,0,none⟩)))
  (hm:(r,mapO kv)∈own) (hi:(q,iterO r kv.length (seen++ [j]))∈own) (hj:kv[j]? =some (key,v))
  (h:R J b cs n ops rest k ds ((d, .tuple #[.agg (ints key).toArray,v])::σ) ⟨ro,own⟩):R J b cs n ops (i::rest) k ds σ ⟨ro,own⟩:=
 R.op C ho hg rfl fun a ha=>by
  unfold execOp
  simp only [ha.ev hx]
  refine ex_v ?_
  unfold Instr.entry
  simp only
  refine Sm.bind (Sm.getObj_own hi U U ?_)
  simp only [iterO]
  have hb:(seen++ [j]).toArray.back? =some j:=by simp
  rw [hb]
  simp only
  refine Sm.bind (Sm.getObj_own hm U U ?_)
  simp only [mapO]
  have hc:(kv.length !=kv.length)=false:=by simp
  simp only [hc,Bool.false_eq_true,if_false]
  have hf:(kv.zipIdx.map entry_).toArray.find? (fun e:MapEntry=>e.born==j)=some (entry_ ((key,v),j)):=by
   rw [List.find?_toArray,List.find?_eq_some_iff_getElem]
   have hjl:j<kv.length:=(List.getElem?_eq_some_iff.1 hj).1
   have hje:kv[j]=(key,v):=(List.getElem?_eq_some_iff.1 hj).2
   refine⟨by simp [entry_],j,by simpa using hjl,by simp [hje],fun m hm=>by simp [entry_];omega⟩
  rw [hf]
  exact Sm.pure h
end
end Go.Lg
namespace Go.Lg
open Go Go.Conc
def IterW(P:Program)(J:Goroutine→Mem→Prop)(fv:Value)(items:List (List Value))(ro:RO)(W:RO→List (Nat×Obj)→Prop):Prop:=
 ∀ (yv:Value) (I:Nat→RO→List (Nat×Obj)→Prop) (E:RO→List (Nat×Obj)→Prop),fnV yv→(∀k r r' q,r.le r'→I k r q→I k r' q)→
  (∀k (hk:k<items.length) ro1 p1,ro.le ro1→I k ro1 p1→CallV P J yv items[k] ro1 p1 fun v ro' p'=>(v= .bool true∧I (k+1) ro' p')∨(v= .bool false∧E ro' p'))→
  ∀ro0 p0 w0,ro.le ro0→I 0 ro0 p0→W ro0 w0→CallV P J fv [yv] ro0 (p0++w0) fun v ro' p=>v= .tuple #[]∧∃p' w',p=p'++w'∧W ro' w'∧(I items.length ro' p'∨E ro' p')
section
variable {P:Program}{main:Bool}{J:Goroutine→Mem→Prop}{b:Frame}(C:Ctx P main J b){cs:List Frame}{n:Nat}{ds:List Deferred}{σ:Slots}{ro:RO}{own:List (Nat×Obj)}{k:List Item}
include C
theorem X.rangeFuncW{W:RO→List (Nat×Obj)→Prop}{w0:List (Nat×Obj)}{f:Operand}{ps:List Nat}{assign body:Code}{fv:Value}{items:List (List Value)}{ro0:RO}(I:Nat→RO→List (Nat×Obj)→Prop)(Q:Code→RO→List (Nat×Obj)→Prop)
  (hro:b.roundOf=none) (hf:ev σ f=some fv) (hit:IterW P J fv items ro0 W) (hW0:W ro w0) (hle:ro0.le ro) (hps:allLt n ps=true) (hlen:∀x∈items,x.length=ps.length) (h0:I 0 ro own) (hmono:∀k r r' q,r.le r'→I k r q→I k r' q)
  (hbody:∀kk (hk:kk<items.length) (l:Nat) (cs:List Frame) (H H1:List (Nat×Obj)) ro1 q,ro0.le ro1→I kk ro1 q→Ctx P main J (rf b.fn l)→
   (∀σ' ro' q',X J (rf b.fn l) cs n [.code body] [] σ' ⟨ro',q'++H1⟩→X J (rf b.fn l) cs n [.beginRound, .code body] [] σ' ⟨ro',q'++H⟩)→
   (∀σ' ro' q',ro1.le ro'→I (kk+1) ro' q'→X J (rf b.fn l) cs n [] [] σ' ⟨ro',q'++H1⟩)→
   (∀σ' x k' ro' q',ro1.le ro'→jumps x k'→Q x ro' q'→X J (rf b.fn l) cs n (.code x::k') [] σ' ⟨ro',q'++H1⟩)→
   X J (rf b.fn l) cs n [.code assign, .beginRound, .code body] [] (roundSlots ps items[kk] σ) ⟨ro1,q++H⟩)
  (hdone:∀r ro' q' z',ro.le ro'→W ro' z'→I items.length ro' q'→X J b cs n k (⟨.collected r, #[]⟩::ds) σ ⟨ro',(r, .deferred (some []))::(q'++z')⟩)
  (hjump:∀r x ro' q' z',ro.le ro'→W ro' z'→Q x ro' q'→X J b cs n (.code x::k) (⟨.collected r, #[]⟩::ds) σ ⟨ro',(r, .deferred (some []))::(q'++z')⟩):
  X J b cs n (.code (.rangeFunc f ps.toArray assign body)::k) ds σ ⟨ro,own++w0⟩:=fun a ha=>by
 have hend:∀ (l r:Nat) (L:Loop) (ro':RO) (q' z':List (Nat×Obj)),ro.le ro'→W ro' z'→L.state≠ .busy→(L.pending=none∧I items.length ro' q'∨∃x,L.pending=some x∧Q x ro' q')→
   J (G {fr b ⟨a.tmps,⟨.collected r, #[]⟩::ds⟩ (.endRangeFunc l::k) with mode:= .run} cs) ⟨ro',q'++(l, .loop L)::(r, .deferred (some []))::z'⟩:=by
  intro l r L ro' q' z' hl hz' hst hq
  refine C.1.step _ _ U fun w hs=>?_
  have hu:=upd_end q' l (.loop L) (.loop {L with state:= .exhausted}) ((r, .deferred (some []))::z')
  have hsm:Sm P ⟨ro',q'++(l, .loop L)::(r, .deferred (some []))::z'⟩ (Instr.endLoop l) fun x M'=>x=L.pending∧M'=⟨ro',q'++(l, .loop {L with state:= .exhausted})::(r, .deferred (some []))::z'⟩:=by
   unfold Instr.endLoop Instr.getLoop
   refine Sm.bind (Sm.bind (Sm.getObj_own hu.mem U U (Sm.pure ?_)))
   have hb:(L.state==LoopState.busy)=false:=by simpa using hst
   simp only [hb,Bool.false_eq_true,if_false]
   exact Sm.bind (Sm.setObj_own hu rfl rfl (Sm.pure ⟨rfl,rfl⟩))
  obtain⟨x,w',es,M',h1,h2,h3,h4⟩:=hsm w #[] hs
  subst h3;subst h4
  rw [Array.empty_append] at h1
  refine⟨G (fr b ⟨a.tmps,⟨.collected r, #[]⟩::ds⟩ ((L.pending.map Item.code).toList++k)) cs,w',seen P b.fn es,_, ?_,{h2 with evs:=fun e he=>h2.evs e (mem_seen he) }, ?_⟩
  ·simp only [G,stepG,stepG.exec,fr]
   rw [h1]
   simp [GStep.after]
  ·have hh:Holds n (⟨.collected r, #[]⟩::ds) σ ⟨a.tmps,⟨.collected r, #[]⟩::ds⟩:=⟨ha.size,rfl,ha.slots⟩
   have hw:Weak ⟨ro',q'++(l, .loop {L with state:= .exhausted})::(r, .deferred (some []))::z'⟩ ⟨ro',(r, .deferred (some []))::(q'++z')⟩:=by
    refine Weak.trans (Weak.sub (own':=q'++(r, .deferred (some []))::z') ?_) (Weak.perm List.perm_middle)
    exact List.Sublist.append_left (List.Sublist.cons _ (List.Sublist.refl _)) q'
   rcases hq with⟨e,hi⟩|⟨x,e,hi⟩
   ·have:=X.weak C.1 hw (hdone r ro' q' z' hl hz' hi) _ hh
    have e2:(L.pending.map Item.code).toList++k=k:=by rw [e];rfl
    rw [e2];exact this
   ·have:=X.weak C.1 hw (hjump r x ro' q' z' hl hz' hi) _ hh
    have e2:(L.pending.map Item.code).toList++k= .code x::k:=by rw [e];rfl
    rw [e2];exact this
 have hround:∀ (l r:Nat) (kk:Nat) (hk:kk<items.length) ro1 q,ro0.le ro1→ro.le ro1→I kk ro1 q→∀ (L:Loop),L.state= .ready→L.pending=none→L.fn=b.fn→L.tmps=a.tmps→L.params=ps.toArray→L.assign=assign→L.body=body→
   CallV P J (.func (.yield l) #[] #[]) items[kk] ro1 (q++ [(l, .loop L),(r, .deferred (some []))]) fun v ro' p'=>
    (v= .bool true∧∃q',ro.le ro'∧p'=q'++ [(l, .loop L),(r, .deferred (some []))]∧I (kk+1) ro' q')∨
    (v= .bool false∧∃q' x,ro.le ro'∧p'=q'++ [(l, .loop {L with state:= .done,pending:=some x}),(r, .deferred (some []))]∧Q x ro' q'):=by
  intro l r kk hk ro1 q hle1 hle2 hI L hst hpe hfn htm hpa has hbo c cs1 tail hret
  refine⟨L,by simp, ?_, ?_⟩
  ·rw [hpa];simpa using hlen _ (List.getElem_mem hk)
  have hC:Ctx P main J (rf b.fn l):=⟨C.1,by simp [rf]⟩
  have hX:=hbody kk hk l (c::cs1) ([(l, .loop L),(r, .deferred (some []))]++tail) ([(l, .loop {L with state:= .busy}),(r, .deferred (some []))]++tail) ro1 q hle1 hI hC
   (fun σ' ro' q' h=>X.beginRound hC rfl hst (upd_end q' l _ _ _) h)
   (fun σ' ro' q' hl hi=>X.roundDone hC rfl rfl (upd_end q' l _ _ _) (by
    have:=hret (.bool true) ro' (q'++ [(l, .loop L),(r, .deferred (some []))]) hl (.inl ⟨rfl,q',RO.le_trans hle2 hl,rfl,hi⟩)
    have e:({L with state:= .busy}:Loop)={L with state:= .busy}:=rfl
    have e2:({ ({L with state:= .busy}:Loop) with state:= .ready,pending:=none}:Loop)=L:=by cases L;simp only at hst hpe;subst hst;subst hpe;rfl
    rw [e2]
    simpa [List.append_assoc] using this))
   (fun σ' x k' ro' q' hl hx hq=>X.roundJump hC rfl rfl hx (upd_end q' l _ _ _) (by
    have:=hret (.bool false) ro' (q'++ [(l, .loop {L with state:= .done,pending:=some x}),(r, .deferred (some []))]) hl (.inr ⟨rfl,q',x,RO.le_trans hle2 hl,rfl,hq⟩)
    simpa [List.append_assoc] using this))
  have hh:=round_holds ps items[kk] (σ:=σ) (a:=⟨a.tmps, []⟩) (ds:= []) ⟨ha.size,rfl,ha.slots⟩ hps
  have:=hX _ hh
  have e3:Frame.round l L.fn ((L.params.zip ((#[]:Array Value).toList++items[kk]).toArray).foldl (fun tmps (t,a)=>tmps.setIfInBounds t a) L.tmps) L.assign L.body .normal=
    fr (rf b.fn l) ⟨(ps.zip items[kk]).foldl (fun tmps (x:Nat×Value)=>tmps.setIfInBounds x.1 x.2) a.tmps, []⟩ [.code assign, .beginRound, .code body]:=by
   rw [hfn,htm,hpa,has,hbo]
   simp only [Frame.round,fr,rf,List.nil_append]
   congr 1
   simp
  rw [e3]
  simpa [List.append_assoc] using this
 refine C.1.step _ _ U fun w hs=>?_
 let L0:Nat→Loop:=fun r=>{state:= .ready,pending:=none,fn:=b.fn,tmps:=a.tmps,params:=ps.toArray,assign:=assign,body:=body,defers:=r}
 have hsm:Sm P ⟨ro,own++w0⟩ (Instr.enterLoop b.fn a.tmps ps.toArray assign body none) fun x M'=>∃r,x.2= [⟨.collected r, #[]⟩]∧M'=⟨ro,(x.1, .loop (L0 r))::(r, .deferred (some []))::(own++w0)⟩:=by
  have e:Instr.enterLoop b.fn a.tmps ps.toArray assign body none=((newObj (.deferred (some [])))>>=fun r=>(newObj (.loop (L0 r)))>>=fun l=>(pure (l, [⟨.collected r, #[]⟩]):Sem (Nat×List Deferred))):=rfl
  rw [e]
  exact Sm.bind (Sm.newObj fun r _ _=>Sm.bind (Sm.newObj fun l _ _=>Sm.pure ⟨r,rfl,rfl⟩))
 obtain⟨⟨l,mark⟩,w₁,es₁,M₁,h1,h2,r,h3,h4⟩:=hsm w #[] hs
 simp only at h3 h4
 subst h3;subst h4
 rw [Array.empty_append] at h1
 have hwk:Weak ⟨ro,(l, .loop (L0 r))::(r, .deferred (some []))::(own++w0)⟩ ⟨ro,(own++ [(l, .loop (L0 r)),(r, .deferred (some []))])++w0⟩:=Weak.perm (by
  have:([(l,Obj.loop (L0 r)),(r, .deferred (some []))]++own).Perm (own++ [(l, .loop (L0 r)),(r, .deferred (some []))]):=List.perm_append_comm
  simpa using this.append_right w0)
 have h2':=h2.trans (hwk w₁ h2.sat)
 rw [Array.append_empty] at h2'
 have hcall:=hit (.func (.yield l) #[] #[]) (fun kk ro' p'=>∃q',ro.le ro'∧p'=q'++ [(l, .loop (L0 r)),(r, .deferred (some []))]∧I kk ro' q')
  (fun ro' p'=>∃q' x,ro.le ro'∧p'=q'++ [(l, .loop {L0 r with state:= .done,pending:=some x}),(r, .deferred (some []))]∧Q x ro' q')
  ⟨_,_,_,rfl⟩ (fun k r1 r2 q1 hl ⟨q,h1,h2,h3⟩=>⟨q,RO.le_trans h1 hl,h2,hmono k r1 r2 q hl h3⟩) (fun kk hk ro1 p1 hle1 ⟨q,hl,e,hi⟩=>by subst e;exact hround l r kk hk ro1 q hle1 hl hi (L0 r) rfl rfl rfl rfl rfl rfl rfl)
  ro (own++ [(l, .loop (L0 r)),(r, .deferred (some []))]) w0 hle ⟨own,RO.le_refl _,rfl,h0⟩ hW0
 let fr1:Frame:=fr b ⟨a.tmps,⟨.collected r, #[]⟩::a.defers⟩ (.inRangeFunc l::k)
 have hent:=hcall fr1 cs [] (fun v ro' p' hl hp=>by
  rw [List.append_nil]
  obtain⟨_,p',z',e0,hz',hp⟩:=hp
  subst e0
  have hfin:fr1.finish v={fr b ⟨a.tmps,⟨.collected r, #[]⟩::ds⟩ (.endRangeFunc l::k) with mode:= .run}:=by
   simp [fr1,Frame.finish,fr,ha.defers]
  rw [hfin]
  rcases hp with⟨q',hl',e,hi⟩|⟨q',x,hl',e,hi⟩
  ·subst e;simpa using hend l r _ ro' q' z' hl' hz' (by simp [L0]) (.inl ⟨rfl,hi⟩)
  ·subst e;simpa using hend l r _ ro' q' z' hl' hz' Zi (.inr ⟨x,rfl,hi⟩))
 rw [List.append_nil] at hent
 have hk':(b.kind==CallKind.early)=false:=by simpa using C.kind
 have hev:fr1.eval f=fv:=by
  have:fr1.eval f=a.eval f:=by cases f<;>rfl
  rw [this];exact ha.ev hf
 have hstep:stepG P main (G (fr b a (.code (.rangeFunc f ps.toArray assign body)::k)) cs) w=
   GStep.after (seen P b.fn es₁) (stepG.apply P true fr1 cs none (do let d←resolve fr1.eval {callee:= .value f,args:= #[.const (.func (.yield l) #[] #[])],argTypes:= #[] } 0;invoke d.target d.args) w₁):=by
  simp only [G,stepG,stepG.exec,fr,hro]
  rw [h1]
  simp only [fr1,fr,hro,List.cons_append,List.nil_append]
 unfold Entry at hent
 split at hent
 ·rename_i f' first cap
  have hsm2:Sm P ⟨ro,(own++ [(l, .loop (L0 r)),(r, .deferred (some []))])++w0⟩ (do let d←resolve fr1.eval {callee:= .value f,args:= #[.const (.func (.yield l) #[] #[])],argTypes:= #[] } 0;invoke d.target d.args) fun x M'=>
    x= .enter f' (first.toList++ [Value.func (.yield l) #[] #[]]++cap.toList).toArray∧M'=⟨ro,(own++ [(l, .loop (L0 r)),(r, .deferred (some []))])++w0⟩:=by
   refine Sm.bind ?_
   unfold resolve
   simp only [hev]
   unfold Deferred.ofValue
   refine Sm.pure ?_
   unfold invoke
   refine Sm.callFunc hent.1 ⟨?_,rfl⟩
   congr 1
   apply Array.ext'
   simp [Frame.eval]
  obtain⟨x,w₂,es₂,M₂,k1,k2,k3,k4⟩:=hsm2 w₁ #[] h2'.sat
  subst k3;subst k4
  rw [Array.empty_append] at k1
  have hg:=h2'.trans k2
  refine⟨_,w₂,seen P b.fn es₁++seen P b.fn es₂,_, ?_,{hg with evs:=fun e he=>hg.evs e (by
   rcases Array.mem_append.1 he with h|h
   ·exact Array.mem_append.2 (.inl (mem_seen h))
   ·exact Array.mem_append.2 (.inr (mem_seen h))) },hent.2⟩
  rw [hstep]
  simp only [stepG.apply,if_true]
  rw [k1]
  simp only [fr1,fr_kind,fr_fn,fr_todo,hk',GStep.after]
  simp [G]
 ·rename_i l' first cap
  obtain⟨r',hr',hlen',hj⟩:=hent
  have hsm2:Sm P ⟨ro,(own++ [(l, .loop (L0 r)),(r, .deferred (some []))])++w0⟩ (do let d←resolve fr1.eval {callee:= .value f,args:= #[.const (.func (.yield l) #[] #[])],argTypes:= #[] } 0;invoke d.target d.args) fun x M'=>
    x= .round l' r'.fn ((r'.params.zip (first.toList++ [Value.func (.yield l) #[] #[]]).toArray).foldl (fun tmps (t,a)=>tmps.setIfInBounds t a) r'.tmps) r'.assign r'.body∧M'=⟨ro,(own++ [(l, .loop (L0 r)),(r, .deferred (some []))])++w0⟩:=by
   refine Sm.bind ?_
   unfold resolve
   simp only [hev]
   unfold Deferred.ofValue
   refine Sm.pure ?_
   unfold invoke
   show Sm P _ (Instr.yield l' _) _
   unfold Instr.yield Instr.getLoop
   refine Sm.bind (Sm.bind (Sm.getObj_own hr' U U (Sm.pure ?_)))
   have e:(first++Array.map fr1.eval #[.const (.func (.yield l) #[] #[])])=(first.toList++ [Value.func (.yield l) #[] #[]]).toArray:=by
    apply Array.ext'
    simp [Frame.eval]
   rw [e]
   have hs':(first.toList++ [Value.func (.yield l) #[] #[]]).toArray.size=r'.params.size:=by rw [←hlen'];simp
   simp only [hs',ne_eq,not_true_eq_false,if_false]
   exact Sm.pure ⟨rfl,rfl⟩
  obtain⟨x,w₂,es₂,M₂,k1,k2,k3,k4⟩:=hsm2 w₁ #[] h2'.sat
  subst k3;subst k4
  rw [Array.empty_append] at k1
  have hg:=h2'.trans k2
  refine⟨_,w₂,seen P b.fn es₁++seen P b.fn es₂,_, ?_,{hg with evs:=fun e he=>hg.evs e (by
   rcases Array.mem_append.1 he with h|h
   ·exact Array.mem_append.2 (.inl (mem_seen h))
   ·exact Array.mem_append.2 (.inr (mem_seen h))) },hj⟩
  rw [hstep]
  simp only [stepG.apply,if_true]
  rw [k1]
  simp only [fr1,fr_kind,fr_fn,hk',GStep.after]
  simp [G]
 ·exact hent.elim
end
end Go.Lg
namespace Go.Lg
open Go
variable {fuel n:Nat}{cs l:List Value}{a:Addr}{t:TypeId}
abbrev roOf(W:World):RO:=fun b=>W.heap[b]?
theorem Sub.of_get{off:Nat}{out:List Value}(hn:off+n≤l.length)(ho:out.length=n)(h:∀i,i<n→l[off+i]? =out[i]?):Sub off n l out:=by
 have e:out=(l.drop off).take n:=by
  refine List.ext_getElem? fun i=>?_
  by_cases hi:i<n
  ·rw [←h i hi,List.getElem?_take_of_lt hi,List.getElem?_drop]
  ·rw [List.getElem?_eq_none O,List.getElem?_eq_none Zo]
 rw [e];exact Sub.of hn
theorem cell_block{W:World}{v:Value}(h:W.cell? a=some v):a.spot=none∧∃l t fq,W.heap[a.block]? =some (.cells l t fq)∧l[a.off]? =some v:=by
 unfold World.cell? at h
 split at h
 ·rename_i c t fq hc
  split at h
  ·cases h
  ·rename_i hs
   exact⟨by simpa using hs,c,t,fq,hc,h⟩
 ·cases h
theorem cells_get{W:World}{base:Nat}(h:W.cells? base a n=some l):l.length=n∧∀i,i<n→W.cell? (a.add i)=l[i]? :=by
 unfold World.cells? at h
 split at h
 ·refine⟨by simpa using mapM_some_length h,fun i hi=>mapM_some_get h i i (by simp [hi])⟩
 ·cases h
theorem add_add(a:Addr)(i j:Nat):(a.add i).add j=a.add (i+j):=by
 by_cases h1:i=0<;>by_cases h2:j=0<;>simp [Addr.add,h1,h2]<;>omega
theorem add_none(h:a.spot=none)(i:Nat):a.add i=⟨a.block,a.off+i,none⟩:=by
 obtain⟨b,o,s⟩:=a
 subst h
 by_cases h1:i=0<;>simp [Addr.add,h1]
section
variable {H:Type}{enc0:TypeId×Value→H}{P:Program}{W:World}{base:Nat}{sp:Nat→Bool}{held:Bool}
theorem ls_of_trod{α:Type}{enc:α→List Value}{k:Nat}{e:TypeId}{x:DataW H×List MemPlace}(ht:P.underlying t=some (.slice e))(hc:P.cellsOf e=k)(hk:0<k)(hlen:∀x,(enc x).length=k)
  (hel:∀n cs z,DataW.trod enc0 P W base sp held n e cs=some z→∃y,cs=enc y) (h:DataW.trod enc0 P W base sp held fuel t cs=some x):∃v xs,cs= [v]∧Ls enc k (roOf W) v xs:=by
 subst hc
 rcases DataW.trod_slice ht h with⟨rfl,_⟩|⟨a,len,cap,elems,rest,n,_,rfl,_,hb,hl,_,hlen2,hel2,_⟩
 ·exact⟨_, [],rfl, .nil⟩
 ·have one:∀i,i<len→∃y:α,W.cells? base (a.add (i*P.cellsOf e)) (P.cellsOf e)=some (enc y):=fun i hi=>by
   have h1:=hel2 i hi
   rw [List.getElem?_eq_getElem O] at h1
   obtain⟨l,h2,h3⟩:=Option.bind_eq_some_iff.1 h1
   obtain⟨y,rfl⟩:=hel _ _ _ h3
   exact⟨y,h2⟩
  have all:∀m,m≤len→∃ys:List α,ys.length=m∧∀j,j<m*P.cellsOf e→W.cell? (a.add j)=(ys.flatMap enc)[j]? :=by
   intro m
   induction m with
   |zero=>exact fun _=>⟨[],rfl,fun j hj=>by omega⟩
   |succ m ih=>
    intro hm
    obtain⟨ys,h1,h2⟩:=ih O
    obtain⟨y,hy⟩:=one m O
    refine⟨ys++ [y],by simp [h1],fun j hj=>?_⟩
    have hfl:(ys.flatMap enc).length=m*P.cellsOf e:=by rw [flatMap_len hlen,h1]
    rw [List.flatMap_append]
    by_cases hjm:j<m*P.cellsOf e
    ·rw [List.getElem?_append_left O];exact h2 j hjm
    ·rw [List.getElem?_append_right O,hfl]
     have:=(cells_get hy).2 (j-m*P.cellsOf e) (by rw [Nat.succ_mul] at hj;omega)
     simp only [List.flatMap_cons,List.flatMap_nil,List.append_nil]
     rw [←this,add_add]
     congr 2
     omega
  obtain⟨ys,h1,h2⟩:=all len (Nat.le_refl _)
  refine⟨_,ys,rfl,some a,cap,by rw [h1], ?_⟩
  by_cases h0:len=0
  ·exact .inl (List.eq_nil_of_length_eq_zero O)
  ·right
   have hfl:(ys.flatMap enc).length=len*P.cellsOf e:=by rw [flatMap_len hlen,h1]
   have hpos:0<len*P.cellsOf e:=Nat.mul_pos O hk
   have hlast:=h2 (len*P.cellsOf e-1) O
   rw [List.getElem?_eq_getElem O] at hlast
   have hfirst:=h2 0 hpos
   rw [List.getElem?_eq_getElem O] at hfirst
   have hs:a.spot=none:=(cell_block hfirst).1
   rw [add_none hs] at hlast
   obtain⟨_,l,t',fq,hh,hl2⟩:=cell_block hlast
   refine⟨a.block,a.off,l.toList,t',fq,by obtain⟨ab,ao,az⟩:=a;subst hs;rfl,by rw [Array.toArray_toList];exact hh, ?_⟩
   rw [h1]
   have hlt:a.off+(len*P.cellsOf e-1)<l.size:=(Array.getElem?_eq_some_iff.1 hl2).1
   refine Sub.of_get Zo hfl fun i hi=>?_
   have:=h2 i hi
   rw [add_none hs] at this
   unfold World.cell? at this
   simp only at this
   rw [hh] at this
   simpa using this
theorem int_of_trod{k:IntKind}{x:DataW H×List MemPlace}(ht:P.underlying t=some (.int k))(h:DataW.trod enc0 P W base sp held fuel t cs=some x):∃n,cs= [.int k n]∧(Lit.int k n).wf=true:=by
 cases fuel with
 |zero=>simp [DataW.trod] at h
 |succ n=>
  unfold DataW.trod at h
  rw [ht] at h
  split at h<;>simp_all
theorem bool_of_trod{x:DataW H×List MemPlace}(ht:P.underlying t=some .bool)(h:DataW.trod enc0 P W base sp held fuel t cs=some x):∃b,cs= [.bool b]:=by
 cases fuel with
 |zero=>simp [DataW.trod] at h
 |succ n=>
  unfold DataW.trod at h
  rw [ht] at h
  split at h<;>simp_all
end
end Go.Lg
namespace Go.Lg
open Go Go.Conc
variable {e t:TypeId}{x y:Operand}{M:Mem}{v z:Value}{cells:List Value}{kk:Nat}
theorem R.neBool{P:Program}{main:Bool}{J:Goroutine→Mem→Prop}{b:Frame}(C:Ctx P main J b){cs:List Frame}{n:Nat}{ds:List Deferred}{σ:Slots}{k:List Item}{ops:Array Oper}{i:Nat}{rest:List Nat}{d:Nat}{ty:TypeId}{pos:String}{af:Array Edge}{g:Option (Nat×Bool)}
  {t':TypeId} {p q:Bool} (ho:ops[i]? =some ⟨some d, .binOp .neq t x y t',ty,pos,af,g⟩) (hg:wantedS ops σ ⟨some d, .binOp .neq t x y t',ty,pos,af,g⟩=some true)
  (hx:ev σ x=some (.bool p)) (hy:ev σ y=some (.bool q)) (hu:∀w,Sem.run P (Go.underlying t) w= .ok .bool w)
  (h:R J b cs n ops rest k ds ((d, .bool (!(p==q)))::σ) M):R J b cs n ops (i::rest) k ds σ M:=
 R.v C ho hg rfl (fun a ha K hk=>by
  unfold execOp
  simp only [ha.ev hx,ha.ev hy]
  refine ex_v (Sm.bind ?_)
  unfold eqGuard
  refine Sm.pure ?_
  show Sm P M (binOp .neq t (.bool p) (.bool q)) _
  unfold binOp
  simp only
  refine Sm.bind ?_
  unfold Op.equal Op.equalIn
  refine Sm.bind (Sm.underlying hu ?_)
  exact Sm.pure (Sm.pure hk)) h
def capOk(v:Value):Prop:= ∃bs len cap,v= .slice bs len cap∧len≤cap
theorem Buf.capOk{k:Nat}{tail own:List (Nat×Obj)}(h:Buf e k tail v cells own):capOk v:=by
 cases h with
 |nil=>exact⟨_,_,_,rfl,Nat.le_refl _⟩
 |blk c1 c2 c3=>exact⟨_,_,_,rfl,c3⟩
theorem X.afterI{J:Goroutine→Mem→Prop}{b:Frame}{cs:List Frame}{n:Nat}{ds:List Deferred}{σ:Slots}{k:List Item}{it:Item}{ι:Type}(Ex:ι→Prop)(σe:ι→Slots)(Me:ι→Mem)(hk:∀s,Ex s→X J b cs n k ds (σe s) (Me s))
  (h:(∀s,Ex s→X J b cs n k ds (σe s) (Me s))→X J b cs n (it::k) ds σ M):X J b cs n (it::k) ds σ M:=h hk
theorem Upd.app{own own':List (Nat×Obj)}{p:Nat}{o o':Obj}(A:List (Nat×Obj))(h:Upd own p o o' own'):Upd (A++own) p o o' (A++own'):=by
 induction A with
 |nil=>exact h
 |cons x A ih=>exact .there ih
theorem ones_flat{α:Type}{enc:α→List Value}(h:∀x,ones (enc x)=true)(l:List α):ones (l.flatMap enc)=true:=by
 have app:∀a c:List Value,ones a=true→ones c=true→ones (a++c)=true:=by
  intro a c
  induction a with
  |nil=>intro _ h;exact h
  |cons x a ih=>intro h1 h2;simp only [List.cons_append,ones,Bool.and_eq_true] at h1⊢;exact⟨h1.1,ih h1.2 h2⟩
 induction l with
 |nil=>rfl
 |cons x l ih=>rw [List.flatMap_cons];exact app _ _ (h x) ih
section
variable {P:Program}{main:Bool}{J:Goroutine→Mem→Prop}{b:Frame}(C:Ctx P main J b){cs:List Frame}{n:Nat}{ds:List Deferred}{σ:Slots}{ro:RO}{own:List (Nat×Obj)}{k:List Item}{ops:Array Oper}{i:Nat}{rest:List Nat}
variable {d:Nat}{ty:TypeId}{pos:String}{af:Array Edge}{g:Option (Nat×Bool)}
include C in
theorem R.appendH{st xt:TypeId}{ti:TypeInfo}{m:Nat}{xe:TypeDesc}{w:Value}{xs:List Value}{own0 H:List (Nat×Obj)}(ho:ops[i]? =some ⟨some d, .call ⟨.builtin .append, #[x,y], #[st,xt]⟩,ty,pos,af,g⟩)
  (hg:wantedS ops σ ⟨some d, .call ⟨.builtin .append, #[x,y], #[st,xt]⟩,ty,pos,af,g⟩=some true) (hx:ev σ x=some v) (hy:ev σ y=some w) (hu:∀w,Sem.run P (Go.underlying st) w= .ok (.slice e) w) (hux:∀w,Sem.run P (Go.underlying xt) w= .ok xe w)
  (hxe:∀q,xe≠ .int q) (hi:P.info? e=some ti) (hks:ti.size=kk) (hz:ti.zero=some z) (hzc:z.cells.size=kk) (hby:0<ti.bytes∧ti.bytes≤1000) (hkp:0<kk) (hb:Buf e kk [] v cells own0) (hr:Rd ⟨ro,own⟩ kk w m xs) (h1:ones xs=true) (hsz:cells.length+xs.length≤1000000000) (hM:own=own0++H)
  (h:∀v' own',Buf e kk [] v' (cells++xs) own'→R J b cs n ops rest k ds ((d,v')::σ) ⟨ro,own'++H⟩):R J b cs n ops (i::rest) k ds σ ⟨ro,own⟩:=by
 subst hM
 refine R.append C ho hg hx hy hu hux hxe hi hks hz hzc hby hkp (hb.app H) hr h1 hsz fun v' own' hb'=>?_
 obtain⟨own1,rfl,hb1⟩:=Buf.unapp (tail:= []) (H:=H) hb'
 exact h v' own1 hb1
end
theorem len0(n:Nat):(((n:Int)==0))=(n==0):=by rw [Bool.eq_iff_iff];simp
section
variable {P:Program}{main:Bool}{J:Goroutine→Mem→Prop}{b:Frame}(C:Ctx P main J b){cs:List Frame}{n:Nat}{ds:List Deferred}{σ:Slots}{k:List Item}{ops:Array Oper}{i:Nat}{rest:List Nat}
 {d:Nat} {ty:TypeId} {pos:String} {af:Array Edge} {g:Option (Nat×Bool)}
include C
theorem R.buildA{len:Nat}{zl out vs:List Value}{parts:List (Nat×Operand)}(ho:ops[i]? =some ⟨some d, .build t parts.toArray,ty,pos,af,g⟩)(hg:wantedS ops σ ⟨some d, .build t parts.toArray,ty,pos,af,g⟩=some true)
  (hp:pvals σ parts=some (numbered 0 vs)) (hz:∀w,Sem.run P (Go.zeroValue t) w= .ok z w) (hzl:z.cells=zl.toArray) (hu:∀w,Sem.run P (Go.underlying t) w= .ok (.array len e) w) (hs:∀w,Sem.run P (Go.sizeOf e) w= .ok kk w) (hl:zl.length=vs.length*kk) (hc:Cat kk vs out)
  (h:R J b cs n ops rest k ds ((d, .agg out.toArray)::σ) M):R J b cs n ops (i::rest) k ds σ M:=
 R.v C ho hg rfl (fun a ha K hk=>by
  unfold execOp
  have e:(parts.toArray.map fun(x:Nat×Operand)=>(x.1,a.eval x.2))=(numbered 0 vs).toArray:=by rw [List.map_toArray,ha.pvals hp]
  refine ex_v ?_
  show Sm P M (Instr.build t (parts.toArray.map fun(x:Nat×Operand)=>(x.1,a.eval x.2))) _
  rw [e]
  unfold Instr.build
  refine Sm.bind (Sm.zeroValue hz (Sm.bind (Sm.underlying hu ?_)))
  simp only
  refine Sm.bind (Sm.sizeOf hs ?_)
  have hf:=fill_cat hc 0 [] zl Zi hl
  rw [List.nil_append,List.nil_append] at hf
  rw [hzl,hf]
  exact Sm.pure hk) h
end
end Go.Lg
namespace Go.Lg.B
open Go Go.Conc Go.Lg Go.Proofs Go.Proofs.Tryz
variable {s:List UInt8}{sp:List Value}{i:Nat}{l ss:List (List UInt8)}{v:Value}{pre:List (Nat×Obj)}
theorem bys_at(h:i<s.length):(bys s++sp)[0+((i:Int)).toNat*1]? =some (.int .u8 ((s[i].toNat:Nat):Int)):=by
 rw [Int.toNat_natCast,Nat.zero_add,Nat.mul_one,List.getElem?_append_left (by simpa [bys] using h)]
 simp [bys,h]
def findS(s:List UInt8)(l:List (List UInt8)):Int:=if s∈l then(l.findIdx (· ==s):Int) else -1
theorem findS_hit(h:i<l.length)(he:s=l[i])(hb:s∉l.take i):findS s l=i:=by
 have hm:s∈l:=by rw [he];exact List.getElem_mem h
 rw [findS,if_pos hm]
 congr 1
 rw [List.findIdx_eq h]
 refine⟨by simp [he],fun j hj=>?_⟩
 have:l[j]≠s:=fun e=>hb (by rw [←e,List.mem_take_iff_getElem];exact⟨j,O,rfl⟩)
 simpa using this
theorem findS_miss(hb:s∉l):findS s l= -1:=by rw [findS,if_neg hb]
theorem findS_in:decide (0≤findS s l)=decide (s∈l):=by
 unfold findS
 split
 ·rename_i h;simp [h]
 ·rename_i h;simp [h]
def encS(s:List UInt8):List Value:= [strV s]
theorem encS_map(l:List (List UInt8)):l.flatMap encS=l.map strV:=by
 induction l with
 |nil=>rfl
 |cons x l ih=>simp [encS,ih]
theorem encS_at(h:i<l.length):(l.flatMap encS++sp)[0+((i:Int)).toNat*1]? =some (strV l[i]):=by
 rw [Int.toNat_natCast,Nat.zero_add,Nat.mul_one]
 rw [encS_map,List.getElem?_append_left (by simpa using h)]
 simp [h]
theorem bufSrc{e:TypeId}{cells:List Value}(h:Buf e 1 [] v cells pre):∃bs cap,v= .slice bs cells.length cap∧(cells= []∨∃p spare,bs=some ⟨p,0,none⟩∧pre= [(p, .cells (cells++spare).toArray e (0,0))]):=by
 cases h with
 |nil=>exact⟨_,_,rfl, .inl rfl⟩
 |blk h1 h2 h3=>exact⟨_,_,by rw [h1,Nat.mul_one], .inr ⟨_,_,rfl,rfl⟩⟩
variable {main:Bool}{J:Goroutine→Mem→Prop}(hJ:Closed prog main J)
include hJ
theorem between_c(n l m:Int)(ro:RO):CallP prog J (fnv 210) [.int .i64 n, .int .i64 l, .int .i64 m] ro (.bool (between n l m)):=by
 refine EP 15 hJ func210 W fun c cs tail hret C=>Xo W W<|Xm W W<|Ro W<|Ri Z b_leq<|Ro W<|R.fix (t:=10) U (fun q1=>?_) (fun q1=>?_)
 ·refine Oo W W<|Ri Z b_leq<|Pp Z<|Hq W func210 hret ?_
  first|(simp_all [between,retVal];done)|(simp_all [between,retVal];omega)
 ·refine Rp W<|Rp W<|Rp W<|Pf Z<|Hq W func210 hret ?_
  first|(simp_all [between,retVal];done)|(simp_all [between,retVal];omega)
theorem isReach_c(x:Rc)(l m:Int)(ro:RO):CallP prog J (fnv 225) [x.val, .int .i64 l, .int .i64 m] ro (.bool (isReach x l m)):=by
 refine EP 24 hJ func225 W fun c cs tail hret C=>Xu W<|Bx Z fun p3=>Ae W<|Xm W W<|Rv 0 W A45 U B3<|Rj W G3 V U<|Ri Z b_leq<|Ro W<|R.fix (t:=11) U (fun q1=>?_) (fun q1=>?_)
 ·refine Rv 0 W A45 U B3<|Rj W G3 V U<|Rv 1 W A45 U B3<|Rj W G3 V U<|Ri Z b_leq<|Pp Z<|Ro W<|R.fix (t:=18) U (fun q2=>?_) (fun q2=>?_)
  ·refine Rv 1 W A45 U B3<|Rj W G3 V U<|Ro W<|Ri Z b_leq<|Pp Z<|Hq W func225 hret ?_
   first|(simp_all [isReach,retVal];done)|(simp_all [isReach,retVal];omega)
  ·refine Rp W<|Rp W<|Rp W<|Rp W<|Pf Z<|Hq W func225 hret ?_
   first|(simp_all [isReach,retVal];done)|(simp_all [isReach,retVal];omega)
 ·refine Rp W<|Rp W<|Rp W<|Rp W<|Rp W<|Pf Z<|Ro W<|Rp W<|Rp W<|Rp W<|Rp W<|Pf Z<|Hq W func225 hret ?_
  first|(simp_all [isReach,retVal];done)|(simp_all [isReach,retVal];omega)
theorem isNarrow_c(x:Rc)(l:Int)(ro:RO)(hx: -1000000≤l)(hl:l≤1000000):CallP prog J (fnv 389) [x.val, .int .i64 l] ro (.bool (isNarrow x l)):=by
 refine EP 16 hJ func389 W fun c cs tail hret C=>Xu W<|Bx Z fun p2=>Ae W<|Xu W<|Rq W G45 B45 V Tk2<|Ro W<|Cp Z (isReach_c hJ _ _ _ _)<|Ro W<|R.fix (t:=8) U (fun g1=>?_) (fun g1=>?_)
 ·have hr:l≤x.lo∧x.lo≤x.hi∧x.hi≤99:=by simp [isReach] at g1;omega
  refine Rv 1 W A45 U B3<|Rj W G3 V U<|Rv 0 W A45 U B3<|Rj W G3 V U<|Ri Z (b_sub O O)<|Ri Z b_lss<|Pp Z<|Hq W func389 hret ?_
  simp [isNarrow,g1,retVal]
 ·refine Rp W<|Rp W<|Rp W<|Rp W<|Rp W<|Rp W<|Pf Z<|Hq W func389 hret ?_
  simp [isNarrow,g1,retVal]
theorem there_c(n m:Int)(ro:RO)(h1:0≤m)(h2:m≤1000000000):CallP prog J (fnv 133) [.int .i64 n, .int .i64 m] ro (.int .i64 (there n m)):=by
 refine EP 10 hJ func133 W fun c cs tail hret C=>Xo W W<|Xx W<|Oo W W<|Ri Z (b_sub O O)<|Cp Z (between_c hJ _ _ _ _)<|Rh Y<|Zc U (fun q1=>?_) (fun q1=>?_)
 ·refine Xu W<|Hq W func133 hret ?_
  simp_all [there,retVal]
 ·refine Xz<|Xu W<|Hq W func133 hret ?_
  simp_all [there,retVal]
theorem load_c(n:Int)(ro:RO):CallP prog J (fnv 134) [.int .i64 n] ro (.int .i64 (loadH n)):=by
 refine EP 6 hJ func134 W fun c cs tail hret C=>Xo W W<|Xx W<|Ro W<|Cp Z (between_c hJ _ _ _ _)<|Rh Y<|Zc U (fun q1=>?_) (fun q1=>?_)
 ·refine Xu W<|Hq W func134 hret ?_
  simp_all [loadH,retVal]
 ·refine Xz<|Xu W<|Hq W func134 hret ?_
  simp_all [loadH,retVal]
theorem isLabel_c(s:List UInt8)(hs:s.length≤1000000)(ro:RO):CallP prog J (fnv 390) [strV s] ro (.bool (isLabel s)):=by
 refine EP 31 hJ func390 W fun c cs tail hret C=>Xo W W<|Xx W<|Ro W<|R.toBytes C U U U A9 A470 A5 fun p6 cap sp fq hcap=>Rt W A470<|Ro W<|Rz<|Xb<|X.loopI (ι:=Nat) C.1 (fun i=>i≤s.length∧labGo 0 s=labGo i (s.drop i)) (fun i=> [(0,strV s),(6, .slice (some ⟨p6,0,none⟩) s.length cap),(7, .int .i64 (s.length:Int)),(8, .int .i64 (i:Int))])
  (fun _=>⟨ro,(p6, .cells (bys s++sp).toArray 5 fq)::tail⟩) (fun i=>s.length-i) 0 ⟨Nat.zero_le _,by simp⟩ rfl ⟨U,U,U,U,trivial⟩ fun i hi hnext=>?_
 obtain⟨hi,hinv⟩:=hi
 refine Xu W<|Ri Z b_lss<|Rz<|Xv<|Xj U (fun hlt=>?_) (fun hlt=>?_)
 ·have hi':i<s.length:=O
  have hc:s[i].toNat<256:=UInt8.toNat_lt _
  have hd:s.drop i=s[i]::s.drop (i+1):=List.drop_eq_getElem_cons hi'
  rw [hd] at hinv
  simp only [labGo] at hinv
  refine Xz<|Xv<|Xb<|Xm W W<|Ry Y A470 sizeOf5<|R.loadOne C U U U isAgg5 V (bys_at hi')<|Rg Y<|Ae W<|Xm W W<|R.convInt C U U U A5 A3 (wrap64 O O)<|Cp Z (between_c hJ _ _ _ _)<|Rh Y<|Ro W<|R.fix (t:=17) U (fun g1=>?_) (fun g1=>?_)
  ·have e1:isLet s[i]=false:=by simpa [isLet] using g1
   refine Ro W<|Ri Z b_eql<|Ro W<|R.fix (t:=20) U (fun g2=>?_) (fun g2=>?_)
   ·have e2:(i==0)=true:=by simpa using g2
    refine Rp W<|Rp W<|Rp W<|Rp W<|Pp Z<|Pp Z<|Zc U (fun _=>?_) (fun h=>nomatch h)
    refine Xu W<|Hq W func390 hret ?_
    simp only [e1,e2,Bool.not_false,Bool.true_or,Bool.and_self,if_true] at hinv
    simp [isLabel,hinv,retVal]
   ·have e2:¬i=0:=by simpa using g2
    refine Ro W<|R.convInt C U U U A5 A3 (wrap64 O O)<|Cp Z (between_c hJ _ _ _ _)<|Rh Y<|Pf Z<|Pp Z<|Zc U (fun g3=>?_) (fun g3=>?_)
    ·have e3:isDig s[i]=false:=by simpa [isDig] using g3
     refine Xu W<|Hq W func390 hret ?_
     simp only [e1,e3,Bool.not_false,Bool.or_true,Bool.and_self,if_true] at hinv
     simp [isLabel,hinv,retVal]
    ·have e3:isDig s[i]=true:=by simpa [isDig] using g3
     refine Xz<|Xi<|Xg W<|Rb Y<|Ro W<|Rz<|X.weaken ?_ (hnext (i+1) ⟨hi', ?_⟩ O)
     ·exact⟨rfl,rfl,rfl,by simp [look],trivial⟩
     ·rw [hinv];simp [e2,e3]
  ·have e1:isLet s[i]=true:=by simpa [isLet] using g1
   refine Rp W<|Rp W<|Rp W<|Rp W<|Rp W<|Rp W<|Rp W<|Rp W<|Pf Z<|Zc U (fun h=>nomatch h) (fun _=>?_)
   refine Xz<|Xi<|Xg W<|Rb Y<|Ro W<|Rz<|X.weaken ?_ (hnext (i+1) ⟨hi', ?_⟩ O)
   ·exact⟨rfl,rfl,rfl,by simp [look],trivial⟩
   ·rw [hinv];simp [e1]
 ·obtain rfl:i=s.length:=by omega
  rw [List.drop_length] at hinv
  simp only [labGo] at hinv
  refine Xe U<|Xm W W<|R.sLen C U U U A9<|Cp Z (between_c hJ _ _ _ _)<|Hq W func390 hret ?_
  simp [isLabel,hinv,retVal]
theorem indexS_c(s:List UInt8)(hb:Buf 9 1 [] v (ss.flatMap encS) pre)(hn:ss.length≤1000000)(ro:RO):
  CallV prog J (fnv 392) [v,strV s] ro pre (fun w ro' pre'=>w= .int .i64 (findS s ss)∧ro'=ro∧pre'=pre):=by
 obtain⟨bs,cap,rfl,hsrc⟩:=bufSrc hb
 have hfl:(ss.flatMap encS).length=ss.length:=by simp [encS_map]
 rw [hfl] at hb⊢
 refine CallV.intro (first:= []) (vs:= [_,_]) (cap:= []) hJ Kr fun c cs tail hret=>enter_X (n:=19) func392 U U (Nl U) ?_
 have C:Ctx prog main J (bf 392 .normal):=⟨hJ,by decide⟩
 refine Xo W W<|Xx W<|Ro W<|Rt W A475<|Ro W<|Rz<|Xb<|X.loopI (ι:=Nat) C.1 (fun i=>i≤ss.length∧s∉ss.take i) (fun i=> [(0, .slice bs ss.length cap),(1,strV s),(7, .int .i64 (ss.length:Int)),(8, .int .i64 (i:Int))])
  (fun _=>⟨ro,pre++tail⟩) (fun i=>ss.length-i) 0 ⟨Nat.zero_le _,by simp⟩ rfl ⟨U,U,U,U,trivial⟩ fun i hi hnext=>?_
 obtain⟨hi,hinv⟩:=hi
 refine Xu W<|Ri Z b_lss<|Rz<|Xv<|Xj U (fun hlt=>?_) (fun hlt=>?_)
 ·have hi':i<ss.length:=O
  rcases hsrc with h0|⟨p,spare,rfl,rfl⟩
  ·rw [h0] at hfl;simp at hfl;omega
  ·have _:=hi'
   refine Xz<|Xv<|Xb<|Xm W W<|Ae W<|Xm W W<|Oo W W<|Ry Y A475 B9<|R.loadOne C U U U G9 V (encS_at hi')<|R.str C U U U U b_seql<|Zc U (fun g1=>?_) (fun g1=>?_)
   ·have e1:s=ss[i]:=by simpa using g1
    refine Xm W W<|Ae W<|Xw func392<|hret _ _ _ _ (RO.le_refl _) ⟨?_,rfl,rfl⟩ Vs
    rw [findS_hit hi' e1 hinv];rfl
   ·have e1:¬s=ss[i]:=by simpa using g1
    refine Xz<|Xi<|Xg W<|Rb Y<|Ro W<|Rz<|X.weaken ?_ (hnext (i+1) ⟨hi', ?_⟩ O)
    ·exact⟨rfl,rfl,rfl,by simp [look],trivial⟩
    ·show s∉ss.take (i+1)
     rw [List.take_succ_eq_append_getElem hi',List.mem_append,List.mem_singleton]
     exact fun h=>h.elim hinv e1
 ·obtain rfl:i=ss.length:=by omega
  rw [List.take_length] at hinv
  refine Xe U<|Xo W W<|Xw func392<|hret _ _ _ _ (RO.le_refl _) ⟨?_,rfl,rfl⟩ Vs
  rw [findS_miss hinv];rfl
theorem containsS_c(s:List UInt8)(hb:Buf 9 1 [] v (ss.flatMap encS) pre)(hn:ss.length≤1000000)(ro:RO):
  CallV prog J (fnv 391) [v,strV s] ro pre (fun w ro' pre'=>w= .bool (decide (s∈ss))∧ro'=ro∧pre'=pre):=by
 refine CallV.intro (first:= []) (vs:= [_,_]) (cap:= []) hJ Kr fun c cs tail hret=>enter_X (n:=9) func391 U U (Nl U) ?_
 have C:Ctx prog main J (bf 391 .normal):=⟨hJ,by decide⟩
 refine Xo W W<|Xm W W<|Ro W<|R.call C U U U U U (indexS_c hJ s hb hn ro) fun w ro1 pre1 hl1 hp1=>?_
 obtain⟨rfl,rfl,rfl⟩:=hp1
 refine Ri Z b_geq<|Ae W<|Xw func391<|hret _ _ _ _ (RO.le_refl _) ⟨?_,rfl,rfl⟩ Vs
 rw [findS_in];rfl
theorem name_c(s:List UInt8)(hs:s.length≤1000000)(hb:Buf 9 1 [] v (ss.flatMap encS) pre)(hn:ss.length≤1000000)(ro:RO):
  CallV prog J (fnv 388) [strV s,v] ro pre (fun w ro' pre'=>w= .int .i64 (nameH s ss)∧ro'=ro∧pre'=pre):=by
 refine CallV.intro (first:= []) (vs:= [_,_]) (cap:= []) hJ Kr fun c cs tail hret=>enter_X (n:=13) func388 U U (Nl U) ?_
 have C:Ctx prog main J (bf 388 .normal):=⟨hJ,by decide⟩
 refine Xo W W<|Xv<|Xb<|Xm W W<|Cp Z (isLabel_c hJ _ (by assumption) _)<|Rh Y<|Ae W<|Xc U (fun g1=>?_) (fun g1=>?_)
 ·refine Xo W W<|Xw func388<|hret _ _ _ _ (RO.le_refl _) ⟨?_,rfl,rfl⟩ Vs
  simp at g1;simp [nameH,g1,retVal]
 ·simp only [Bool.not_eq_false'] at g1
  refine Xm W W<|Ro W<|R.call C U U U U U (containsS_c hJ s hb hn ro) fun w ro1 pre1 hl1 hp1=>?_
  obtain⟨rfl,rfl,rfl⟩:=hp1
  refine Ae W<|Xc U (fun g2=>?_) (fun g2=>?_)
  ·refine Xo W W<|Xw func388<|hret _ _ _ _ (RO.le_refl _) ⟨?_,rfl,rfl⟩ Vs
   simp at g2;simp [nameH,g1,g2,retVal]
  ·refine Xz<|Xi<|Xo W W<|Xw func388<|hret _ _ _ _ (RO.le_refl _) ⟨?_,rfl,rfl⟩ Vs
   simp at g2;simp [nameH,g1,g2,retVal]
end Go.Lg.B
set_option maxRecDepth 100000
namespace Go.Lg.B
open Go Go.Conc Go.Lg Go.Proofs Go.Proofs.Tryz
variable {i:Nat}{ro ro':RO}{v:Value}{L:List (List Int)}{b:Bk}{α:Type}
def ic(n:Int):List Value:= [.int .i64 n]
theorem ic_len(n:Int):(ic n).length=1:=rfl
abbrev LsI(ro:RO)(v:Value)(xs:List Int):Prop:=Ls ic 1 ro v xs
theorem flat_len(l:List Int):(l.flatMap ic).length=l.length:=by simp [flatMap_len ic_len]
theorem ic_ints(l:List Int):l.flatMap ic=ints l:=by
 induction l with
 |nil=>rfl
 |cons x l ih=>simp [ic,ints,ih]
theorem ic_at{l:List Int}{off:Nat}{ll:List Value}(hsub:∀i (hi:i<l.length),Sub (off+i*1) 1 ll (ic l[i]))(hi:i<l.length):ll[off+i*1]? =some (.int .i64 l[i]):=by
 have:=(hsub i hi).get 0 O
 simpa [ic] using this
def LsG(ro:RO)(v:Value)(L:List (List Int)):Prop:= ∃zs:List (Value×List Int),Ls (fun z:Value×List Int=> [z.1]) 1 ro v zs∧zs.map (·.2)=L∧∀z∈zs,LsI ro z.1 z.2∧capOk z.1
theorem LsG.mono(h:LsG ro v L)(hl:ro.le ro'):LsG ro' v L:=let⟨zs,h1,h2,h3⟩:=h;⟨zs,h1.mono hl,h2,fun z hz=>⟨(h3 z hz).1.mono hl,(h3 z hz).2⟩⟩
theorem LsG.form(h:LsG ro v L):∃base cap,v= .slice base L.length cap:=by
 obtain⟨zs,h1,rfl,_⟩:=h
 rw [List.length_map];exact h1.form
theorem LsG.at(h:LsG ro v L)(hp:0<L.length):∃p off cap,∃l:List Value,∃t fq,v= .slice (some ⟨p,off,none⟩) L.length cap∧ro p=some (.cells l.toArray t fq)∧∀i (hi:i<L.length),∃base c,l[off+i*1]? =some (.slice base L[i].length c)∧L[i].length≤c∧LsI ro (.slice base L[i].length c) L[i]:=by
 obtain⟨zs,h1,hL,h3⟩:=h
 have hlen:L.length=zs.length:=by rw [←hL,List.length_map]
 obtain⟨p,off,cap,l,t,fq,e,h4,h5⟩:=h1.at (fun _=>rfl) O
 refine⟨p,off,cap,l,t,fq,by rw [hlen];exact e,h4,fun i hi=>?_⟩
 have hz:i<zs.length:=O
 have hLi:L[i]=zs[i].2:=by simp [←hL]
 have h6:=(h5 i hz).get 0 O
 obtain⟨h7,bs,len,c,h8,h9⟩:=h3 _ (List.getElem_mem hz)
 obtain⟨b2,c2,h10⟩:=h7.form
 rw [h8] at h10;cases h10
 rw [hLi]
 exact⟨bs,c,by rw [←h8];simpa using h6,h9,by rw [←h8];exact h7⟩
def BkP(ro:RO)(b:Bk)(vp vg vc vt:Value):Prop:=Ls Pt.cells 4 ro vp b.ps∧LsG ro vg b.gs∧Ls Pc.cells 3 ro vc b.cs∧Ls Ts.cells 3 ro vt b.ts
theorem BkP.mono{vp vg vc vt:Value}(h:BkP ro b vp vg vc vt)(hl:ro.le ro'):BkP ro' b vp vg vc vt:=⟨h.1.mono hl,h.2.1.mono hl,h.2.2.1.mono hl,h.2.2.2.mono hl⟩
def BkV(ro:RO)(v:Value)(b:Bk):Prop:= ∃vp vg vc vt,v= .agg [.int .i64 b.w,vp,vg,vc,vt].toArray∧BkP ro b vp vg vc vt
theorem BkV.mono(h:BkV ro v b)(hl:ro.le ro'):BkV ro' v b:=let⟨vp,vg,vc,vt,e,h1⟩:=h;⟨vp,vg,vc,vt,e,h1.mono hl⟩
structure Bk.short(b:Bk):Prop where
 ps:b.ps.length≤1000∧∀p∈b.ps,p.nm.length≤1000
 gs:b.gs.length≤1000∧∀g∈b.gs,g.length≤1000
 cs:b.cs.length≤1000∧∀p∈b.cs,p.nm.length≤1000
 ts:b.ts.length≤1000
def Env(ro:RO):Prop:= ∃t fq,ro 4=some (.cells [fnv 384,fnv 385,fnv 345,fnv 386,fnv 387].toArray t fq)
theorem Env.mono(h:Env ro)(hl:ro.le ro'):Env ro':=let⟨t,fq,e⟩:=h;⟨t,fq,hl _ _ e⟩
def Pt.name(p:Pt):List UInt8:=p.nm
theorem map_take{β:Type}{f:α→β}{l:List α}(h:i<l.length):(l.take (i+1)).map f=(l.take i).map f++ [f l[i]]:=by
 rw [List.take_succ_eq_append_getElem h,List.map_append];rfl
theorem flat_len9{l:List (List UInt8)}{n:Nat}(h:l.length≤n):(l.flatMap encS).length≤n:=by rw [encS_map,List.length_map];exact h
theorem flat_take{f:α→List UInt8}{l:List α}(h:i<l.length):((l.take (i+1)).map f).flatMap encS=((l.take i).map f).flatMap encS++ [strV (f l[i])]:=by
 rw [List.take_succ_eq_append_getElem h,List.map_append,List.flatMap_append];rfl
variable {main:Bool}{J:Goroutine→Mem→Prop}(hJ:Closed prog main J)
include hJ
theorem winch_c(hv:BkV ro v b):CallP prog J (fnv 384) [v] ro (.int .i64 b.winchH):=by
 obtain⟨vp,vg,vc,vt,rfl,hv⟩:=hv
 refine EP 8 hJ func384 W fun c cs tail hret C=>Xu W<|Bx Z fun p1=>Ae W<|Xx W<|Rv 0 W A222 U B27<|Rv 0 W A27 U B3<|Rj W G3 V U<|Cp Z (between_c hJ _ _ _ _)<|Rh Y<|Zc U (fun q1=>?_) (fun q1=>?_)
 ·refine Xu W<|Hq W func384 hret ?_
  simp_all [Bk.winchH,retVal]
 ·refine Xz<|Xu W<|Hq W func384 hret ?_
  simp_all [Bk.winchH,retVal]
theorem parts_c(hv:BkV ro v b)(hs:b.short):CallP prog J (fnv 385) [v] ro (.int .i64 b.partsH):=by
 obtain⟨vp,vg,vc,vt,rfl,hp,hg,hc,ht⟩:=hv
 obtain⟨pb,pc,rfl⟩:=hp.form
 have hsl:=hs.ps
 refine EP 44 hJ func385 W fun c cs tail hret C=>Xu W<|Bx Z fun p1=>Ae W<|Xx W<|Rv 0 W A222 U B27<|Rv 1 W A27 U B22<|Rj W G22 V U<|Rt W A22<|Cp Z (between_c hJ _ _ _ _)<|Rh Y<|Zc U (fun hn=>?_) (fun hn=>?_)
 ·refine Xu W<|Hq W func385 hret ?_
  simp_all [Bk.partsH,retVal]
 ·refine Xz<|Xo W W<|Xx W<|Rv 0 W A222 U B27<|Rv 1 W A27 U B22<|Rj W G22 V U<|Rt W A22<|Ro W<|Rz<|Xb<|X.loopI (ι:=Nat×Value×List (Nat×Obj)) C.1 (fun s=>s.1≤b.ps.length∧partsGo [] b.ps=partsGo ((b.ps.take s.1).map Pt.nm) (b.ps.drop s.1)∧Buf 9 1 [] s.2.1 (((b.ps.take s.1).map Pt.nm).flatMap encS) s.2.2)
   (fun s=> [(3,s.2.1),(15, .slice pb b.ps.length pc),(16, .int .i64 (b.ps.length:Int)),(17, .int .i64 (s.1:Int)),(1, .pointer (some ⟨p1,0,none⟩))])
   (fun s=>⟨ro,s.2.2++(p1, .cells [.int .i64 b.w, .slice pb b.ps.length pc,vg,vc,vt].toArray 222 (0,0))::tail⟩) (fun s=>b.ps.length-s.1) (0, .slice none 0 0, []) ⟨Nat.zero_le _,by simp, .nil⟩ rfl ⟨U,U,U,U,U,trivial⟩ fun s hi hnext=>?_
  obtain⟨i,vn,pre⟩:=s
  obtain⟨hi,hr,hb⟩:=hi
  simp only at hi hr hb hnext⊢
  refine Xu W<|Ri Z b_lss<|Rz<|Xv<|Xj U (fun hlt=>?_) (fun hlt=>?_)
  ·have hi':i<b.ps.length:=O
   obtain⟨p,off,cap,l,t,fq,hsl',hrop,hsub⟩:=hp.at Pt.len O
   cases hsl'
   have hnm:=hsl.2 _ (List.getElem_mem hi')
   have hft:=flat_take (f:=Pt.nm) hi'
   rw [List.drop_eq_getElem_cons hi'] at hr
   have hsi:=hsub i hi'
   have hmt:=map_take (f:=Pt.nm) hi'
   generalize b.ps[i]=q at hnm hr hsi hft hmt
   simp only [partsGo] at hr
   have hn0:((b.ps.take i).map Pt.nm).length≤1000:=by simp;omega
   have hn1:((b.ps.take i).map Pt.nm).length≤1000000:=O
   have hn2:=flat_len9 hn0
   refine Xz<|Xv<|Xb<|Xu W<|Ry Y A22 B169<|La Y isAgg169 B169 hrop hsi<|Al W K169 U fun p5=>Rs Z B169 Y (by repeat (first|exact Uh|apply Ut|apply Upd.app)) Ph4<|Rz<|Xx W<|Rv 0 W A169 U B9<|R.loadOne C U U U G9 Vm U<|Ro W<|R.perm C.1 List.perm_middle.symm<|R.call C U U U U U (name_c hJ q.nm O hb hn1 ro) fun w ro1 pre1 hl1 hp1=>?_
   obtain⟨rfl,hro,hpre⟩:=hp1
   subst hro
   subst hpre
   refine Ae W<|Xm W W<|Ri Z b_neq<|Zc U (fun h1=>?_) (fun h1=>?_)
   ·have h1:nameH q.nm ((b.ps.take i).map Pt.nm)≠0:=by simpa using h1
    refine Xm W W<|Ae W<|Xw func385<|hret _ _ ?_ (by repeat (first|exact List.Sublist.refl _|apply List.Sublist.cons|apply List.sublist_append_of_sublist_right))
    rw [if_pos h1] at hr
    simp at hn
    simp [Bk.partsH,hn,hr,retVal]
   ·have h1:nameH q.nm ((b.ps.take i).map Pt.nm)=0:=by simpa using h1
    rw [if_neg (fun h=>h h1)] at hr
    refine Xz<|Xx W<|Rv 1 W A169 U B3<|R.loadOne C U U U G3 Vm U<|Cp Z (between_c hJ _ _ _ _)<|Rh Y<|Ro W<|R.fix (t:=32) U (fun h2=>?_) (fun h2=>?_)
    ·refine Rp W<|Rp W<|Rp W<|Rp W<|Pp Z<|Zc U (fun _=>?_) (fun h=>nomatch h)
     refine Xo W W<|Xw func385<|hret _ _ ?_ (by repeat (first|exact List.Sublist.refl _|apply List.Sublist.cons|apply List.sublist_append_of_sublist_right))
     simp at h2 hn
     simp [h2] at hr
     simp [Bk.partsH,hn,hr,retVal]
    ·simp at h2
     refine Rv 2 W A169 U B45<|R.loadAgg C U U U G45 B45 Vm (.skip (.skip Tk2))<|Cp Z (isNarrow_c hJ _ _ _ O O)<|Rh Y<|Pf Z<|Zc U (fun h3=>?_) (fun h3=>?_)
     ·refine Xo W W<|Xw func385<|hret _ _ ?_ (by repeat (first|exact List.Sublist.refl _|apply List.Sublist.cons|apply List.sublist_append_of_sublist_right))
      simp at h3 hn
      simp [h2,h3] at hr
      simp [Bk.partsH,hn,hr,retVal]
     ·simp at h3
      refine Xz<|Xg W<|Ro W<|Rv 0 W A169 U B9<|R.loadOne C U U U G9 Vm U<|R.buildSlice C (vs:=_) U U (show pvals _ _=some (numbered 0 [_]) from rfl) U A475 B9 K9 Dd (Cat.one U U) fun p41=>R.append1 (kk:=1) C U U U U A475 A475 (fun _=>nofun) (show prog.info? 9=some Tryz.t9 by kernel_rfl) U U U Dd Dd (hb.app _) U U (by simp only [List.length_append,List.length_cons,List.length_nil];omega) fun v' own' hb'=>Ae W<|Xi<|Xg W<|Rb Y<|Ro W<|Rz ?_
      obtain⟨pre2,rfl,hb2⟩:=hb'.unapp (H:=_::_::tail)
      refine X.drop C.1 (own':=pre2++_::tail) (List.Sublist.append_left (List.sublist_cons_self _ _) pre2)<|X.weaken ?_ (hnext (i+1,v',pre2) ⟨hi', ?_, ?_⟩ ?_)
      ·exact⟨rfl,rfl,rfl,by simp [look],rfl,trivial⟩
      ·rw [hr,hmt,if_neg (by simp [h2,h3])]
      ·rw [hft];exact hb2
      ·simp only;omega
  ·obtain rfl:i=b.ps.length:=by omega
   simp only [List.drop_length,partsGo] at hr
   refine Xe U<|Xo W W<|Xw func385<|hret _ _ ?_ (by repeat (first|exact List.Sublist.refl _|apply List.Sublist.cons|apply List.sublist_append_of_sublist_right))
   simp at hn
   simp [Bk.partsH,hn,hr,retVal]
theorem pieces_c(hv:BkV ro v b)(hs:b.short):CallP prog J (fnv 386) [v] ro (.int .i64 b.piecesH):=by
 obtain⟨vp,vg,vc,vt,rfl,hp,hg,hc,ht⟩:=hv
 obtain⟨pb,pc,rfl⟩:=hc.form
 have hsl:=hs.cs
 refine EP 38 hJ func386 W fun c cs tail hret C=>Xu W<|Bx Z fun p1=>Ae W<|Xx W<|Rv 0 W A222 U B27<|Rv 3 W A27 U B24<|Rj W G24 V U<|Rt W A24<|Cp Z (between_c hJ _ _ _ _)<|Rh Y<|Zc U (fun hn=>?_) (fun hn=>?_)
 ·refine Xu W<|Hq W func386 hret ?_
  simp_all [Bk.piecesH,retVal]
 ·refine Xz<|Xo W W<|Xx W<|Rv 0 W A222 U B27<|Rv 3 W A27 U B24<|Rj W G24 V U<|Rt W A24<|Ro W<|Rz<|Xb<|X.loopI (ι:=Nat×Value×List (Nat×Obj)) C.1 (fun s=>s.1≤b.cs.length∧piecesGo [] b.cs=piecesGo ((b.cs.take s.1).map Pc.nm) (b.cs.drop s.1)∧Buf 9 1 [] s.2.1 (((b.cs.take s.1).map Pc.nm).flatMap encS) s.2.2)
   (fun s=> [(3,s.2.1),(15, .slice pb b.cs.length pc),(16, .int .i64 (b.cs.length:Int)),(17, .int .i64 (s.1:Int)),(1, .pointer (some ⟨p1,0,none⟩))])
   (fun s=>⟨ro,s.2.2++(p1, .cells [.int .i64 b.w,vp,vg, .slice pb b.cs.length pc,vt].toArray 222 (0,0))::tail⟩) (fun s=>b.cs.length-s.1) (0, .slice none 0 0, []) ⟨Nat.zero_le _,by simp, .nil⟩ rfl ⟨U,U,U,U,U,trivial⟩ fun s hi hnext=>?_
  obtain⟨i,vn,pre⟩:=s
  obtain⟨hi,hr,hb⟩:=hi
  simp only at hi hr hb hnext⊢
  refine Xu W<|Ri Z b_lss<|Rz<|Xv<|Xj U (fun hlt=>?_) (fun hlt=>?_)
  ·have hi':i<b.cs.length:=O
   obtain⟨p,off,cap,l,t,fq,hsl',hrop,hsub⟩:=hc.at Pc.len O
   cases hsl'
   have hnm:=hsl.2 _ (List.getElem_mem hi')
   have hft:=flat_take (f:=Pc.nm) hi'
   rw [List.drop_eq_getElem_cons hi'] at hr
   have hsi:=hsub i hi'
   have hmt:=map_take (f:=Pc.nm) hi'
   generalize b.cs[i]=q at hnm hr hsi hft hmt
   simp only [piecesGo] at hr
   have hn0:((b.cs.take i).map Pc.nm).length≤1000:=by simp;omega
   have hn1:((b.cs.take i).map Pc.nm).length≤1000000:=O
   have hn2:=flat_len9 hn0
   refine Xz<|Xv<|Xb<|Xu W<|Ry Y A24 B251<|La Y isAgg251 B251 hrop hsi<|Al W K251 U fun p5=>Rs Z B251 Y (by repeat (first|exact Uh|apply Ut|apply Upd.app)) Ph3<|Rz<|Xx W<|Rv 0 W A251 U B9<|R.loadOne C U U U G9 Vm U<|Ro W<|R.perm C.1 List.perm_middle.symm<|R.call C U U U U U (name_c hJ q.nm O hb hn1 ro) fun w ro1 pre1 hl1 hp1=>?_
   obtain⟨rfl,hro,hpre⟩:=hp1
   subst hro
   subst hpre
   refine Ae W<|Xm W W<|Ri Z b_neq<|Zc U (fun h1=>?_) (fun h1=>?_)
   ·have h1:nameH q.nm ((b.cs.take i).map Pc.nm)≠0:=by simpa using h1
    refine Xm W W<|Ae W<|Xw func386<|hret _ _ ?_ (by repeat (first|exact List.Sublist.refl _|apply List.Sublist.cons|apply List.sublist_append_of_sublist_right))
    rw [if_pos h1] at hr
    simp at hn
    simp [Bk.piecesH,hn,hr,retVal]
   ·have h1:nameH q.nm ((b.cs.take i).map Pc.nm)=0:=by simpa using h1
    rw [if_neg (fun h=>h h1)] at hr
    refine Xz<|Xx W<|Rv 1 W A251 U B45<|R.loadAgg C U U U G45 B45 Vm (.skip Tk2)<|Cp Z (isNarrow_c hJ _ _ _ O O)<|Rh Y<|Zc U (fun h2=>?_) (fun h2=>?_)
    ·refine Xo W W<|Xw func386<|hret _ _ ?_ (by repeat (first|exact List.Sublist.refl _|apply List.Sublist.cons|apply List.sublist_append_of_sublist_right))
     simp at h2 hn
     simp [h2] at hr
     simp [Bk.piecesH,hn,hr,retVal]
    ·simp at h2
     refine Xz<|Xg W<|Ro W<|Rv 0 W A251 U B9<|R.loadOne C U U U G9 Vm U<|R.buildSlice C (vs:=_) U U (show pvals _ _=some (numbered 0 [_]) from rfl) U A475 B9 K9 Dd (Cat.one U U) fun p35=>R.append1 (kk:=1) C U U U U A475 A475 (fun _=>nofun) (show prog.info? 9=some Tryz.t9 by kernel_rfl) U U U Dd Dd (hb.app _) U U (by simp only [List.length_append,List.length_cons,List.length_nil];omega) fun v' own' hb'=>Ae W<|Xi<|Xg W<|Rb Y<|Ro W<|Rz ?_
     obtain⟨pre2,rfl,hb2⟩:=hb'.unapp (H:=_::_::tail)
     refine X.drop C.1 (own':=pre2++_::tail) (List.Sublist.append_left (List.sublist_cons_self _ _) pre2)<|X.weaken ?_ (hnext (i+1,v',pre2) ⟨hi', ?_, ?_⟩ ?_)
     ·exact⟨rfl,rfl,rfl,by simp [look],rfl,trivial⟩
     ·rw [hr,hmt,if_neg (by simp [h2])]
     ·rw [hft];exact hb2
     ·simp only;omega
  ·obtain rfl:i=b.cs.length:=by omega
   simp only [List.drop_length,piecesGo] at hr
   refine Xe U<|Xo W W<|Xw func386<|hret _ _ ?_ (by repeat (first|exact List.Sublist.refl _|apply List.Sublist.cons|apply List.sublist_append_of_sublist_right))
   simp at hn
   simp [Bk.piecesH,hn,hr,retVal]
theorem tests_c(hv:BkV ro v b)(hs:b.short):CallP prog J (fnv 387) [v] ro (.int .i64 b.testsH):=by
 obtain⟨vp,vg,vc,vt,rfl,hp,hg,hc,ht⟩:=hv
 obtain⟨pb,pc,rfl⟩:=ht.form
 obtain⟨gb,gc,rfl⟩:=hg.form
 have hsl:=hs.ts
 have hsg:=hs.gs.1
 refine EP 37 hJ func387 W fun c cs tail hret C=>Xu W<|Bx Z fun p1=>Ae W<|Xx W<|Rv 0 W A222 U B27<|Rv 4 W A27 U B25<|Rj W G25 V U<|Rt W A25<|Ri Z b_gtr<|Zc U (fun hn=>?_) (fun hn=>?_)
 ·refine Xu W<|Hq W func387 hret ?_
  simp only [dT] at hn
  rw [Bk.testsH,if_pos O];rfl
 ·simp only [dF] at hn
  have hH:b.testsH=testsGo b.gs.length b.ts:=by rw [Bk.testsH,if_neg O]
  rw [hH] at hret
  refine Xz<|Xx W<|Rv 0 W A222 U B27<|Rv 4 W A27 U B25<|Rj W G25 V U<|Rt W A25<|Ro W<|Rz<|Xb<|X.loopI (ι:=Nat) C.1 (fun i=>i≤b.ts.length∧testsGo b.gs.length b.ts=testsGo b.gs.length (b.ts.drop i))
   (fun i=> [(14, .slice pb b.ts.length pc),(15, .int .i64 (b.ts.length:Int)),(16, .int .i64 (i:Int)),(1, .pointer (some ⟨p1,0,none⟩))])
   (fun i=>⟨ro,(p1, .cells [.int .i64 b.w,vp, .slice gb b.gs.length gc,vc, .slice pb b.ts.length pc].toArray 222 (0,0))::tail⟩) (fun i=>b.ts.length-i) 0 ⟨Nat.zero_le _,by simp⟩ rfl ⟨U,U,U,U,trivial⟩ fun i hi hnext=>?_
  obtain⟨hi,hr⟩:=hi
  refine Xu W<|Ri Z b_lss<|Rz<|Xv<|Xj U (fun hlt=>?_) (fun hlt=>?_)
  ·have hi':i<b.ts.length:=O
   obtain⟨p,off,cap,l,t,fq,hsl',hrop,hsub⟩:=ht.at Ts.len O
   cases hsl'
   rw [List.drop_eq_getElem_cons hi'] at hr
   have hsi:=hsub i hi'
   generalize b.ts[i]=q at hr hsi
   simp only [testsGo] at hr
   refine Xz<|Xv<|Xb<|Xu W<|Ry Y A25 B105<|La Y G105 B105 hrop hsi<|Al W K105 U fun p4=>Rs Z B105 Y V Ph3<|Rz<|Xx W<|Rv 0 W A105 U B3<|Rj W G3 V U<|Rv 0 W A222 U B27<|Rv 2 W A27 U B23<|Rj W G23 V U<|Rt W A23<|Cp Z (there_c hJ _ _ _ O O)<|Ae W<|Xm W W<|Ri Z b_neq<|Zc U (fun h1=>?_) (fun h1=>?_)
   ·have h1:there q.g b.gs.length≠0:=by simpa using h1
    refine Xm W W<|Hq W func387 hret ?_
    rw [if_pos h1] at hr
    rw [hr];rfl
   ·have h1:there q.g b.gs.length=0:=by simpa using h1
    rw [if_neg (fun h=>h h1)] at hr
    refine Xz<|Xu W<|Rv 1 W A105 U B3<|Rj W G3 V U<|Cp Z (load_c hJ _ _)<|Ae W<|Xm W W<|Ri Z b_neq<|Zc U (fun h2=>?_) (fun h2=>?_)
    ·have h2:loadH q.l≠0:=by simpa using h2
     refine Xm W W<|Hq W func387 hret ?_
     rw [if_pos h2] at hr
     rw [hr];rfl
    ·have h2:loadH q.l=0:=by simpa using h2
     rw [if_neg (fun h=>h h2)] at hr
     refine Xz<|Xi<|Xg W<|Rb Y<|Ro W<|Rz<|X.drop C.1 (own':=_::tail) (List.sublist_cons_self _ _)<|X.weaken ?_ (hnext (i+1) ⟨hi',hr⟩ O)
     exact⟨rfl,rfl,by simp [look],rfl,trivial⟩
  ·obtain rfl:i=b.ts.length:=by omega
   simp only [List.drop_length,testsGo] at hr
   refine Xe U<|Xu W<|Hq W func387 hret ?_
   rw [hr];rfl
end Go.Lg.B
set_option maxRecDepth 100000
namespace Go.Lg.B
open Go Go.Conc Go.Lg Go.Proofs Go.Proofs.Tryz
variable {s:Int}{l:List Int}{i:Nat}{ro:RO}{b:Bk}{v:Value}
def findN(s:Int)(l:List Int):Int:=if s∈l then(l.findIdx (· ==s):Int) else -1
theorem findN_hit(h:i<l.length)(he:s=l[i])(hb:s∉l.take i):findN s l=i:=by
 have hm:s∈l:=by rw [he];exact List.getElem_mem h
 rw [findN,if_pos hm]
 congr 1
 rw [List.findIdx_eq h]
 refine⟨by simp [he],fun j hj=>?_⟩
 have:l[j]≠s:=fun e=>hb (by rw [←e,List.mem_take_iff_getElem];exact⟨j,O,rfl⟩)
 simpa using this
theorem findN_miss(hb:s∉l):findN s l= -1:=by rw [findN,if_neg hb]
theorem findN_in:decide (0≤findN s l)=decide (s∈l):=by
 unfold findN
 split
 ·rename_i h;simp [h]
 ·rename_i h;simp [h]
theorem lsI_take{base:Option Addr}{cap k:Nat}{xs:List Int}(h:LsI ro (.slice base xs.length cap) xs)(hk:k≤xs.length):LsI ro (.slice base k cap) (xs.take k):=by
 obtain⟨b2,c2,e,h⟩:=h
 cases e
 have hl:(xs.take k).length=k:=by simp;omega
 refine⟨base,cap,by rw [hl], ?_⟩
 rcases h with rfl|⟨p,off,l,t,fq,rfl,h2,h3⟩
 ·left;simp
 ·refine .inr ⟨p,off,l,t,fq,rfl,h2, ?_⟩
  have:=h3.part (i:=0) (m:=k*1) O
  rw [ic_ints] at this⊢
  rw [hl]
  simpa [ints,List.map_take] using this
def hit(b:Bk):Nat→Int
 |0=>b.winchH
 |1=>b.partsH
 |2=>b.gearsH
 |3=>b.piecesH
 |_=>b.testsH
def chk:Nat→Nat
 |0=>384
 |1=>385
 |2=>345
 |3=>386
 |_=>387
theorem check_hit(hi:i<5)(hh:hit b i≠0)(h:∀j,j<i→hit b j=0):checkBook b=hit b i:=by
 have h5:i=0∨i=1∨i=2∨i=3∨i=4:=O
 unfold checkBook
 rcases h5 with rfl|rfl|rfl|rfl|rfl
 ·exact if_pos hh
 ·rw [if_neg (fun k=>k (h 0 O))];exact if_pos hh
 ·rw [if_neg (fun k=>k (h 0 O)),if_neg (fun k=>k (h 1 O))];exact if_pos hh
 ·rw [if_neg (fun k=>k (h 0 O)),if_neg (fun k=>k (h 1 O)),if_neg (fun k=>k (h 2 O))];exact if_pos hh
 ·rw [if_neg (fun k=>k (h 0 O)),if_neg (fun k=>k (h 1 O)),if_neg (fun k=>k (h 2 O)),if_neg (fun k=>k (h 3 O))];rfl
theorem check_zero(h:∀j,j<5→hit b j=0):checkBook b=0:=by
 unfold checkBook
 rw [if_neg (fun k=>k (h 0 O)),if_neg (fun k=>k (h 1 O)),if_neg (fun k=>k (h 2 O)),if_neg (fun k=>k (h 3 O))]
 exact h 4 O
variable {main:Bool}{J:Goroutine→Mem→Prop}(hJ:Closed prog main J)
include hJ
theorem indexI_c(n:Int)(hl:LsI ro v l)(hn:l.length≤1000000):CallP prog J (fnv 224) [v, .int .i64 n] ro (.int .i64 (findN n l)):=by
 obtain⟨lb,lc,rfl⟩:=hl.form
 refine EP 19 hJ func224 W fun c cs tail hret C=>Xo W W<|Xx W<|Ro W<|Rt W A58<|Ro W<|Rz<|Xb<|X.loopI (ι:=Nat) C.1 (fun i=>i≤l.length∧n∉l.take i) (fun i=> [(0, .slice lb l.length lc),(1, .int .i64 n),(7, .int .i64 (l.length:Int)),(8, .int .i64 (i:Int))])
  (fun _=>⟨ro,tail⟩) (fun i=>l.length-i) 0 ⟨Nat.zero_le _,by simp⟩ rfl ⟨U,U,U,U,trivial⟩ fun i hi hnext=>?_
 obtain⟨hi,hinv⟩:=hi
 refine Xu W<|Ri Z b_lss<|Rz<|Xv<|Xj U (fun hlt=>?_) (fun hlt=>?_)
 ·have hi':i<l.length:=O
  obtain⟨p,off,cap,ll,t,fq,hsl',hrop,hsub⟩:=hl.at ic_len O
  cases hsl'
  refine Xz<|Xv<|Xb<|Xm W W<|Ae W<|Xm W W<|Oo W W<|Ry Y A58 B3<|Lo Y G3 hrop (ic_at hsub hi')<|Ri Z b_eql<|Zc U (fun g1=>?_) (fun g1=>?_)
  ·have e1:n=l[i]:=by simpa using g1
   refine Xm W W<|Hq W func224 hret ?_
   rw [findN_hit hi' e1 hinv];rfl
  ·have e1:¬n=l[i]:=by simpa using g1
   refine Xz<|Xi<|Xg W<|Rb Y<|Ro W<|Rz<|X.weaken ?_ (hnext (i+1) ⟨hi', ?_⟩ O)
   ·exact⟨rfl,rfl,rfl,by simp [look],trivial⟩
   ·show n∉l.take (i+1)
    rw [List.take_succ_eq_append_getElem hi',List.mem_append,List.mem_singleton]
    exact fun h=>h.elim hinv e1
 ·obtain rfl:i=l.length:=by omega
  rw [List.take_length] at hinv
  refine Xe U<|Xu W<|Hq W func224 hret ?_
  rw [findN_miss hinv];rfl
theorem containsI_c(n:Int)(hl:LsI ro v l)(hn:l.length≤1000000):CallP prog J (fnv 152) [v, .int .i64 n] ro (.bool (decide (n∈l))):=by
 refine EP 9 hJ func152 W fun c cs tail hret C=>Xo W W<|Xm W W<|Ro W<|Cp Z (indexI_c hJ _ (by assumption) (by assumption))<|Ri Z b_geq<|Hq W func152 hret ?_
 rw [findN_in];rfl
theorem gears_c(hv:BkV ro v b)(hs:b.short):CallP prog J (fnv 345) [v] ro (.int .i64 b.gearsH):=by
 obtain⟨vp,vg,vc,vt,rfl,hp,hg,hc,ht⟩:=hv
 obtain⟨pb,pc,rfl⟩:=hp.form
 obtain⟨gb,gc,rfl⟩:=hg.form
 have hsl:=hs.gs
 have hsp:=hs.ps.1
 refine EP 48 hJ func345 W fun c cs tail hret C=>Xu W<|Bx Z fun p1=>Ae W<|Xx W<|Rv 0 W A222 U B27<|Rv 2 W A27 U B23<|Rj W G23 V U<|Rt W A23<|Cp Z (between_c hJ _ _ _ _)<|Rh Y<|Zc U (fun hn=>?_) (fun hn=>?_)
 ·refine Xu W<|Hq W func345 hret ?_
  simp_all [Bk.gearsH,retVal]
 ·have hH:b.gearsH=gearsGo b.ps.length b.gs:=by simp at hn;simp [Bk.gearsH,hn]
  rw [hH] at hret
  refine Xz<|Xx W<|Rv 0 W A222 U B27<|Rv 2 W A27 U B23<|Rj W G23 V U<|Rt W A23<|Ro W<|Rz<|Xb<|X.loopI (ι:=Nat) C.1 (fun i=>i≤b.gs.length∧gearsGo b.ps.length b.gs=gearsGo b.ps.length (b.gs.drop i))
   (fun i=> [(16, .slice gb b.gs.length gc),(17, .int .i64 (b.gs.length:Int)),(18, .int .i64 (i:Int)),(1, .pointer (some ⟨p1,0,none⟩))])
   (fun i=>⟨ro,(p1, .cells [.int .i64 b.w, .slice pb b.ps.length pc, .slice gb b.gs.length gc,vc,vt].toArray 222 (0,0))::tail⟩) (fun i=>b.gs.length-i) 0 ⟨Nat.zero_le _,by simp⟩ rfl ⟨U,U,U,U,trivial⟩ fun i hi hnext=>?_
  obtain⟨hi,hr⟩:=hi
  refine Xu W<|Ri Z b_lss<|Rz<|Xv<|Xj U (fun hlt=>?_) (fun hlt=>?_)
  ·have hi':i<b.gs.length:=O
   obtain⟨p,off,cap,l,t,fq,hsl',hrop,hsub⟩:=hg.at O
   cases hsl'
   rw [List.drop_eq_getElem_cons hi'] at hr
   obtain⟨qb,qc,hld,hqc,hq⟩:=hsub i hi'
   have hql:=hsl.2 _ (List.getElem_mem hi')
   generalize b.gs[i]=q at hr hld hqc hq hql
   simp only [gearsGo] at hr
   refine Xz<|Xv<|Xb<|Xu W<|Ry Y A23 B58<|Lo Y G58 hrop hld<|Ae W<|Xx W<|Ro W<|Rt W A58<|Ri Z b_eql<|Zc U (fun h1=>?_) (fun h1=>?_)
   ·have h1:q.length=0:=by simpa using h1
    refine Xu W<|Hq W func345 hret ?_
    rw [if_pos h1] at hr
    rw [hr];rfl
   ·have h1:¬q.length=0:=by simpa using h1
    rw [if_neg h1] at hr
    refine Xz<|Xm W W<|Rt W A58<|Ro W<|Rz<|Xb<|X.loopI (ι:=Nat) C.1 (fun j=>j≤q.length∧gearGo b.ps.length [] q=gearGo b.ps.length (q.take j) (q.drop j))
     (fun j=> [(25, .slice qb q.length qc),(26, .int .i64 (q.length:Int)),(27, .int .i64 (j:Int)),(4, .slice qb q.length qc),(16, .slice (some ⟨p,off,none⟩) b.gs.length gc),(17, .int .i64 (b.gs.length:Int)),(18, .int .i64 (i:Int)),(1, .pointer (some ⟨p1,0,none⟩))])
     (fun j=>⟨ro,(p1, .cells [.int .i64 b.w, .slice pb b.ps.length pc, .slice (some ⟨p,off,none⟩) b.gs.length gc,vc,vt].toArray 222 (0,0))::tail⟩) (fun j=>q.length-j) 0 ⟨Nat.zero_le _,by simp⟩ rfl ⟨U,U,U,U,U,U,U,U,trivial⟩ fun j hj hnext2=>?_
    obtain⟨hj,hr2⟩:=hj
    refine Xu W<|Ri Z b_lss<|Rz<|Xv<|Xj U (fun hlt2=>?_) (fun hlt2=>?_)
    ·have hj':j<q.length:=O
     obtain⟨p2,off2,cap2,l2,t2,fq2,hsl2,hrop2,hsub2⟩:=hq.at ic_len O
     cases hsl2
     rw [List.drop_eq_getElem_cons hj'] at hr2
     have hat:=ic_at hsub2 hj'
     have htk:q.take (j+1)=q.take j++ [q[j]]:=List.take_succ_eq_append_getElem hj'
     generalize q[j]=n at hr2 hat htk
     simp only [gearGo] at hr2
     refine Xz<|Xv<|Xb<|Xm W W<|Ry Y A58 B3<|Lo Y G3 hrop2 hat<|Rg Y<|Ae W<|Xx W<|Ro W<|Rv 0 W A222 U B27<|Rv 1 W A27 U B22<|Rj W G22 V U<|Rt W A22<|Cp Z (there_c hJ _ _ _ O O)<|Ae W<|Xm W W<|Ri Z b_neq<|Zc U (fun h2=>?_) (fun h2=>?_)
     ·have h2:there n b.ps.length≠0:=by simpa using h2
      rw [if_pos h2] at hr2
      refine Xm W W<|Hq W func345 hret ?_
      rw [if_pos (by rw [hr2];exact h2),hr2] at hr
      rw [hr];rfl
     ·have h2:there n b.ps.length=0:=by simpa using h2
      rw [if_neg (fun h=>h h2)] at hr2
      refine Xz<|Xm W W<|Ro W<|R.sliceTo C U U U U A58 B3 O O<|Ro W<|Cp Z (containsI_c hJ n (lsI_take hq (show((j:Int)).toNat≤q.length by omega)) Zo)<|Zc U (fun h3=>?_) (fun h3=>?_)
      ·simp only [Int.toNat_natCast,decide_eq_true_eq] at h3
       rw [if_pos h3] at hr2
       refine Xu W<|Hq W func345 hret ?_
       rw [if_pos (by rw [hr2];decide),hr2] at hr
       rw [hr];rfl
      ·simp only [Int.toNat_natCast,decide_eq_false_iff_not] at h3
       rw [if_neg h3, ←htk] at hr2
       refine Xz<|Xi<|Xg W<|Rb Y<|Ro W<|Rz<|X.weaken ?_ (hnext2 (j+1) ⟨hj',hr2⟩ O)
       exact⟨rfl,rfl,by simp [look],rfl,rfl,rfl,rfl,rfl,trivial⟩
    ·obtain rfl:j=q.length:=by omega
     simp only [List.drop_length,gearGo] at hr2
     rw [if_neg (by simp [hr2])] at hr
     refine Xe U<|Xi<|Xg W<|Rb Y<|Ro W<|Rz<|X.weaken ?_ (hnext (i+1) ⟨hi',hr⟩ O)
     exact⟨rfl,rfl,by simp [look],rfl,trivial⟩
  ·obtain rfl:i=b.gs.length:=by omega
   simp only [List.drop_length,gearsGo] at hr
   refine Xe U<|Xu W<|Hq W func345 hret ?_
   rw [hr];rfl
theorem checkBook_c(he:Env ro)(hv:BkV ro v b)(hs:b.short):CallP prog J (fnv 132) [v] ro (.int .i64 (checkBook b)):=by
 have hvv:=hv
 obtain⟨vp,vg,vc,vt,rfl,hv⟩:=hv
 obtain⟨te,fe,hen⟩:=he
 refine EP 18 hJ func132 W fun c cs tail hret C=>Xu W<|Bx Z fun p1=>Ae W<|Xx W<|La Y isAgg337 sizeOf337 hen Tk5<|Ro W<|Rz<|Xb<|X.loopI (ι:=Nat) C.1 (fun i=>i≤5∧∀j,j<i→hit b j=0) (fun i=> [(6, .agg [fnv 384,fnv 385,fnv 345,fnv 386,fnv 387].toArray),(7, .int .i64 (i:Int)),(1, .pointer (some ⟨p1,0,none⟩))])
  (fun _=>⟨ro,(p1, .cells [.int .i64 b.w,vp,vg,vc,vt].toArray 27 (0,0))::tail⟩) (fun i=>5-i) 0 ⟨Nat.zero_le _,fun j hj=>absurd hj (Nat.not_lt_zero _)⟩ rfl ⟨U,U,U,trivial⟩ fun i hi hnext=>?_
 obtain⟨hi,hr⟩:=hi
 refine Xu W<|Ri Z b_lss<|Rz<|Xv<|Xj U (fun hlt=>?_) (fun hlt=>?_)
 ·have hi':i<5:=O
  have h5:i=0∨i=1∨i=2∨i=3∨i=4:=O
  have hget: [fnv 384,fnv 385,fnv 345,fnv 386,fnv 387][((i:Int)).toNat*1]? =some (fnv (chk i)):=by
   rcases h5 with rfl|rfl|rfl|rfl|rfl<;>rfl
  have hcall:CallP prog J (fnv (chk i)) [.agg [.int .i64 b.w,vp,vg,vc,vt].toArray] ro (.int .i64 (hit b i)):=by
   rcases h5 with rfl|rfl|rfl|rfl|rfl
   ·exact winch_c hJ hvv
   ·exact parts_c hJ hvv hs
   ·exact gears_c hJ hvv hs
   ·exact pieces_c hJ hvv hs
   ·exact tests_c hJ hvv hs
  refine Xz<|Xv<|Xb<|Xu W<|R.index C U U U U runUnderlying337 isAgg336 sizeOf336 O O hget<|Ae W<|Xm W W<|Rq W G27 B27 V Tk5 ?_;refine R.build C U U U zeroValue222 U A222 Kr (Fills.part U U B27 U Ph5 .nil)<|Cp Z (hcall)<|Ae W<|Xm W W<|Ri Z b_neq<|Zc U (fun hh=>?_) (fun hh=>?_)
  ·have hh:hit b i≠0:=by simpa using hh
   refine Xm W W<|Hq W func132 hret ?_
   show Value.int .i64 (hit b i)=_
   congr 1
   exact(check_hit hi' hh hr).symm
  ·have hh:hit b i=0:=by simpa using hh
   refine Xz<|Xi<|Xg W<|Rb Y<|Ro W<|Rz<|X.weaken ?_ (hnext (i+1) ⟨O,fun j hj=>?_⟩ O)
   ·exact⟨rfl,by simp [look],rfl,trivial⟩
   ·by_cases e:j=i
    ·rw [e];exact hh
    ·exact hr j O
 ·obtain rfl:i=5:=by omega
  refine Xe U<|Xu W<|Hq W func132 hret ?_
  rw [check_zero hr];rfl
end Go.Lg.B
set_option maxRecDepth 100000
namespace Go.Lg.B
open Go Go.Conc Go.Lg Go.Proofs Go.Proofs.Tryz
variable {v:Value}{ro:RO}{b:Bk}{kv:KV}{g l:Int}
theorem eqT3:IntT prog 9999 3 1 false:=IntT.int A3
theorem eqT240:IntT prog 10000 240 2 true:=IntT.struct A240 Kr (.cons Dd rfl B3 G3 (fun _=>rfl) eqT3 (.cons Dd rfl B3 G3 (fun _=>rfl) eqT3 .nil))
theorem ckT240:CheckT prog 10000 240 2 true:=CheckT.struct A240 (by
 intro f hf
 simp only [List.mem_cons,List.not_mem_nil,or_false] at hf
 rcases hf with rfl|rfl
 ·exact⟨G3,B3,CheckT.int A3,by decide⟩
 ·exact⟨G3,B3,CheckT.int A3,by decide⟩)
section
variable {α:Type}
theorem pm1{a m:α}{t:List α}:(a::m::t).Perm (m::a::t):=List.Perm.swap m a t
theorem pm2{a c m:α}{t:List α}:(a::c::m::t).Perm (m::a::c::t):=(pm1.cons a).trans pm1
theorem pm3{a c d m:α}{t:List α}:(a::c::d::m::t).Perm (m::a::c::d::t):=(pm2.cons a).trans pm1
theorem pm4{a c d e m:α}{t:List α}:(a::c::d::e::m::t).Perm (m::a::c::d::e::t):=(pm3.cons a).trans pm1
end
theorem bufAt{e:TypeId}{cells:List Value}{tail own:List (Nat×Obj)}(h:Buf e 1 tail v cells own)(hc:cells≠ []):∃p cap spare,v= .slice (some ⟨p,0,none⟩) cells.length cap∧own=(p, .cells (cells++spare).toArray e (0,0))::tail:=by
 cases h with
 |nil=>exact absurd rfl hc
 |blk h1 h2 h3=>exact⟨_,_,_,by rw [h1,Nat.mul_one],rfl⟩
theorem pullsGo_snoc(b:Bk):∀ (l:List Int) (n p:Int),pullsGo b n (l++ [p])=pullsGo b n l++ [behind ((n::pullsGo b n l).getLastD 0) (b.sheaves p)]
 | [],n,p=>rfl
 |x::l,n,p=>by simp [pullsGo,pullsGo_snoc b l]
theorem last_at{l:List Int}(h:l≠ []){sp:List Value}{z:Int}(hz:z=(l.length:Int) -1):(l.flatMap ic++sp)[0+z.toNat*1]? =some (.int .i64 (l.getLastD 0)):=by
 have h1:0<l.length:=List.length_pos_iff.2 h
 have h2:z.toNat=l.length-1:=O
 rw [h2,Nat.zero_add,Nat.mul_one,ic_ints,List.getElem?_append_left (by simp [ints];omega)]
 simp only [ints,List.getElem?_map]
 have h3:l[l.length-1]? =some (l.getLastD 0):=by
  rw [List.getElem?_eq_getElem O, ←List.getLast_eq_getElem h,List.getLastD_eq_getLast?,List.getLast?_eq_getLast h];rfl
 rw [h3];rfl
theorem pt_sh{off:Nat}{l:List Value}{q:Pt}{i:Nat}(h:Sub (off+i*4) 4 l q.cells):l[off+i*4+1]? =some (.int .i64 q.sh):=by
 have:=h.get 1 O
 simpa [Pt.cells] using this
theorem mul_bd{x s:Int}(h1:0≤x)(h2:x≤99)(h3:0≤s)(h4:s≤4):0≤x*(10+s)∧x*(10+s)≤1386:=by
 have:s=0∨s=1∨s=2∨s=3∨s=4:=O
 rcases this with rfl|rfl|rfl|rfl|rfl<;>omega
def MapOk(ro:RO)(b:Bk)(kv:KV):Prop:= ∀x∈kv,∃g l,x.1= [g,l]∧LsI ro x.2 (pulls b g l)
theorem MapOk.mono{ro':RO}(h:MapOk ro b kv)(hl:ro.le ro'):MapOk ro' b kv:=fun x hx=>let⟨g,l,e,h1⟩:=h x hx;⟨g,l,e,h1.mono hl⟩
theorem MapOk.len(h:MapOk ro b kv):∀x∈kv,x.1.length=2:=fun x hx=>by obtain⟨g,l,e,_⟩:=h x hx;rw [e];rfl
theorem MapOk.get(h:MapOk ro b kv){j:Nat}(hg:getK kv [g,l]=some (j,v)):LsI ro v (pulls b g l):=by
 have:=List.mem_of_getElem? (getK_at hg)
 obtain⟨g',l',e,h1⟩:=h _ this
 simp only [List.cons.injEq,and_true] at e
 rw [e.1,e.2];exact h1
theorem MapOk.put(h:MapOk ro b kv)(hv:LsI ro v (pulls b g l)):MapOk ro b (kv++ [([g,l],v)]):=fun x hx=>by
 rcases List.mem_append.1 hx with hx|hx
 ·exact h x hx
 ·rw [List.mem_singleton] at hx;subst hx;exact⟨g,l,rfl,hv⟩
variable {main:Bool}{J:Goroutine→Mem→Prop}(hJ:Closed prog main J)
include hJ
theorem pulls_c(hv:BkV ro v b)(hb:b.good)(hg:0≤g∧g<b.gs.length)(hl:0≤l∧l≤99):CallR prog J (fnv 135) [v, .agg [.int .i64 g, .int .i64 l].toArray] ro (fun w ro'=>LsI ro' w (pulls b g l)):=by
 obtain⟨vp,vg,vc,vt,rfl,hp,hgs,hc,ht⟩:=hv
 obtain⟨pb,pc,rfl⟩:=hp.form
 obtain⟨pp,po,pcap,pl,ptt,pfq,hpe,hpro,hpsub⟩:=hp.at Pt.len (by have:=hb.np;omega)
 cases hpe
 obtain⟨gp,go,gcap,gl,gt,gfq,rfl,hgro,hgsub⟩:=hgs.at O
 obtain⟨qb,qc,hqat,hqcap,hq⟩:=hgsub g.toNat O
 have hgear:b.gs[g.toNat]' O=b.gear g:=by simp [Bk.gear,List.getD_eq_getElem?_getD,show g.toNat<b.gs.length by omega]
 rw [hgear] at hqat hqcap hq
 have hgn:=hb.gear hg.1 hg.2
 have hgl:=hb.gearLen hg.1 hg.2
 have hpl:pulls b g l=l::pullsGo b l (b.gear g):=rfl
 rw [hpl]
 generalize b.gear g=q at hqat hqcap hq hgn hgl
 refine ER 54 hJ func135 W fun c cs tail hret C=>Xu W<|Bx Z fun p2=>Bx Z fun p3=>Ae W<|Xu W<|Rv 1 W A240 U B3<|Rj W G3 V U<|R.buildSlice C (vs:=_) U U (show pvals _ _=some (numbered 0 [_]) from rfl) U A58 B3 K3 Dd (Cat.one U U) fun p12=>Ae W<|Xx W<|Rv 0 W A222 U B27<|Rv 2 W A27 U B23<|Rj W G23 V U<|Rv 0 W A240 U B3<|Rj W G3 V U<|Ry Y A23 B58<|Lo Y G58 hgro hqat<|Rt W A58<|Ro W<|Rz<|Xb<|X.loopI (ι:=Nat×Value×List (Nat×Obj)) C.1 (fun s=>s.1≤q.length∧Buf 3 1 ((p3, .cells [.int .i64 g, .int .i64 l].toArray 240 (0,0))::(p2, .cells [.int .i64 b.w, .slice (some ⟨pp,po,none⟩) b.ps.length pc, .slice (some ⟨gp,go,none⟩) b.gs.length gcap,vc,vt].toArray 222 (0,0))::tail) s.2.1 ((l::pullsGo b l (q.take s.1)).flatMap ic) s.2.2)
  (fun s=> [(5,s.2.1),(19, .slice qb q.length qc),(20, .int .i64 (q.length:Int)),(21, .int .i64 (s.1:Int)),(2, .pointer (some ⟨p2,0,none⟩))])
  (fun s=>⟨ro,s.2.2⟩) (fun s=>q.length-s.1) (0,_,_) ⟨Nat.zero_le _, ?_⟩ rfl ⟨U,U,U,U,U,trivial⟩ fun s hi hnext=>?_
 ·exact .blk (p:=p12) (cells:= [.int .i64 l]) (spare:= []) (cap:=1) (len:=1) rfl rfl (Nat.le_refl _)
 obtain⟨i,vo,own⟩:=s
 obtain⟨hi,hbuf⟩:=hi
 simp only at hi hbuf hnext⊢
 refine Xu W<|Ri Z b_lss<|Rz<|Xv<|Xj U (fun hlt=>?_) (fun hlt=>?_)
 ·have hi':i<q.length:=O
  obtain⟨p,off,cap,ll,t,fq,hsl',hrop,hsub⟩:=hq.at ic_len O
  cases hsl'
  have hat:=ic_at hsub hi'
  have hn:=hgn.2.1 _ (List.getElem_mem hi')
  have htk:q.take (i+1)=q.take i++ [q[i]]:=List.take_succ_eq_append_getElem hi'
  have hacc:=pullsGo_snoc b (q.take i) l q[i]
  rw [←htk] at hacc
  generalize q[i]=m at hat hn hacc
  have hs:=hb.sheaves hn.1 hn.2
  have hsh:(b.ps[m.toNat]' O).sh=b.sheaves m:=by simp [Bk.sheaves,List.getD_eq_getElem?_getD,show m.toNat<b.ps.length by omega]
  have hpt:=pt_sh (hpsub m.toNat O)
  rw [hsh] at hpt
  have hbd:0≤(l::pullsGo b l (q.take i)).getLastD 0∧(l::pullsGo b l (q.take i)).getLastD 0≤99:=by
   have h1:(l::pullsGo b l (q.take i)).getLastD 0∈l::pullsGo b l (q.take i):=by
    rw [List.getLastD_eq_getLast?,List.getLast?_eq_getLast Zi];exact List.getLast_mem _
   rcases List.mem_cons.1 h1 with h2|h2
   ·rw [h2];exact hl
   ·have:=pullsGo_bd hb (fun x hx=>hgn.2.1 x (List.mem_of_mem_take hx)) hl.1 _ h2;omega
  have hlen:(pullsGo b l (q.take i)).length=i:=by rw [pullsGo_len];simp;omega
  obtain⟨p9,cap9,spare9,rfl,rfl⟩:=bufAt hbuf (by simp [ic])
  have hfl:((l::pullsGo b l (q.take i)).flatMap ic).length=i+1:=by rw [flat_len,List.length_cons,hlen]
  have hla:=last_at (l:=l::pullsGo b l (q.take i)) Zi (sp:=spare9) (z:=(((l::pullsGo b l (q.take i)).flatMap ic).length:Int) -1) (by rw [hfl,List.length_cons,hlen])
  generalize hx:(l::pullsGo b l (q.take i)).getLastD 0=x at hbd hla hacc
  generalize b.sheaves m=sm at hs hpt hacc
  have hm:=mul_bd hbd.1 hbd.2 hs.1 hs.2
  refine Xz<|Xv<|Xb<|Xu W<|Ry Y A58 B3<|Lo Y G3 hrop hat<|Ae W<|Xu W<|Rv 0 W A222 U B27<|Rv 1 W A27 U B22<|Rj W G22 V U<|Ro W<|Ry Y A22 B169<|R.fieldAddr C U U U A169 U B3 U<|Lo Y G3 hpro hpt<|Ae W<|Xm W W<|Rb Y<|Ri Z (b_mul O O)<|Ae W<|Xg W<|Oo W W<|Ro W<|Rt W A58<|Ri Z (b_sub O O)<|Ry Y A58 B3<|R.loadOne C U U U G3 V hla<|Ro W<|Rb Y<|Ri Z (b_mul O O)<|Ro W<|Rb Y<|Ri Z (b_sub O O)<|Ro W<|Ri Z (b_quoP O O O)<|R.buildSlice C (vs:=_) U U (show pvals _ _=some (numbered 0 [_]) from rfl) U A58 B3 K3 Dd (Cat.one U U) fun p50=>R.append1 (kk:=1) C U U U U A58 A58 (fun _=>nofun) (show prog.info? 3=some Tryz.t3 by kernel_rfl) U U U Dd Dd hbuf U U (by simp only [List.length_append,List.length_cons,List.length_nil];omega) fun v' own' hb'=>Ae W ?_;refine Xi<|Xg W<|Rb Y<|Ro W<|Rz<|X.weaken ?_ (hnext (i+1,v',own') ⟨hi', ?_⟩ ?_)
  ·exact⟨rfl,rfl,rfl,by simp [look],rfl,trivial⟩
  ·have e:x*(10+sm)+10*(sm+1) -1=x*(10+sm)+10*(sm+1) -1:=rfl
   rw [hacc, ←List.cons_append,List.flatMap_append]
   exact hb'
  ·simp only;omega
 ·obtain rfl:i=q.length:=by omega
  rw [List.take_length] at hbuf
  refine Xe U<|Xm W W<|Ae W<|X.finish C.1 ic_len Dd hbuf fun ro' hle hls=>Xw func135<|Hr hret hle ?_
  exact hls
end Go.Lg.B
set_option maxRecDepth 100000
namespace Go.Lg.B
open Go Go.Conc Go.Lg Go.Proofs Go.Proofs.Tryz
variable {b:Bk}{vc vg vp vt:Value}{ro:RO}
def Kept(m:Nat)(b:Bk)(ro:RO)(pre:List (Nat×Obj)):Prop:= ∃kv,pre= [(m,mapO kv)]∧MapOk ro b kv
theorem nth_get{p:List Int}{n:Int}(h0:0≤n)(h1:n<p.length):(ints p)[0+n.toNat*1]? =some (.int .i64 (nth p n)):=by
 have h:n.toNat<p.length:=O
 rw [Nat.zero_add,Nat.mul_one]
 simp [ints,nth,List.getD_eq_getElem?_getD,h]
theorem ic_getD{l:List Int}{off:Nat}{ll:List Value}(hsub:∀i (hi:i<l.length),Sub (off+i*1) 1 ll (ic l[i])){i:Nat}(hi:i<l.length):ll[off+i*1]? =some (.int .i64 (l.getD i 0)):=by
 rw [ic_at hsub hi,List.getD_eq_getElem?_getD,List.getElem?_eq_getElem hi];rfl
def givesTo(p q ls:List Int)(i:Nat):List Int:=((List.range i).filter (givesP p q ls)).map fun i:Nat=>(i:Int)
theorem givesTo_succ(p q ls:List Int)(i:Nat):givesTo p q ls (i+1)=if givesP p q ls i then givesTo p q ls i++ [(i:Int)] else givesTo p q ls i:=by
 unfold givesTo
 rw [List.range_succ,List.filter_append,List.map_append]
 by_cases h:givesP p q ls i=true
 ·simp [h]
 ·simp [h]
theorem givesTo_len(p q ls:List Int)(i:Nat):(givesTo p q ls i).length≤i:=by
 have:=List.length_filter_le (givesP p q ls) (List.range i)
 simpa [givesTo] using this
theorem gives_len(b:Bk)(p:List Int)(g l:Int):(gives b p g l).length≤(b.gear g).length+1:=by
 have h1:=givesTo_len p (b.gear g) (pulls b g l) (b.gear g).length
 have h2:gives b p g l=givesTo p (b.gear g) (pulls b g l) (b.gear g).length++(if b.w<(pulls b g l).getD (b.gear g).length 0 then [((b.gear g).length:Int)] else []):=rfl
 rw [h2,List.length_append]
 split<;>simp<;>omega
variable {main:Bool}{J:Goroutine→Mem→Prop}(hJ:Closed prog main J)
include hJ
theorem yardOf_c(hv:BkP ro b vp vg vc vt):CallV prog J (fnv 138) [.agg [.int .i64 b.w,vp,vg,vc,vt].toArray] ro [] (fun w ro' pre'=>ro'=ro∧∃m,w= .agg [.int .i64 b.w,vp,vg,vc,vt, .map (some m)].toArray∧pre'= [(m,mapO [])]):=by
 obtain⟨_,_,rfl⟩:=hv.1.form
 obtain⟨_,_,rfl⟩:=hv.2.1.form
 obtain⟨_,_,rfl⟩:=hv.2.2.1.form
 obtain⟨_,_,rfl⟩:=hv.2.2.2.form
 refine CallV.intro (first:= []) (vs:= [_]) (cap:= []) hJ Kr fun c cs tail hret=>enter_X (n:=7) func138 U U (Nl U) ?_
 have C:Ctx prog main J (bf 138 .normal):=⟨hJ,by decide⟩
 refine Xu W<|Bx Z fun p1=>Al W K225 U fun p2=>Rz<|Xu W<|Rq W G27 B27 V Tk5 ?_;refine R.build C U U U zeroValue222 U A222 Kr (Fills.part U U B27 U Ph5 .nil)<|R.makeMapO C U U  fun p5=>?_;refine R.build C U U U K225 U A225 Kr (Fills.part U U B222 U Ph5 (Fills.part U U sizeOf223 U (.skip (.skip (.skip (.skip (.skip (.here .nil)))))) .nil))<|Rs Z B225 Y V Ph6<|Rz<|X.ret C U U func138 U (by exact(.agg U G225 B225 V Tk6 .nil)) ?_
 exact hret _ _ [_] _ (RO.le_refl _) ⟨rfl,_,rfl,rfl⟩ (List.Sublist.cons₂ _ Vs)
theorem pulled_c(hv:BkP ro b vp vg vc vt)(hb:b.good){g l:Int}(hg:0≤g∧g<b.gs.length)(hl:0≤l∧l≤99){m:Nat}{kv:KV}(hm:MapOk ro b kv):
  CallV prog J (fnv 216) [.agg [.int .i64 b.w,vp,vg,vc,vt, .map (some m)].toArray, .agg [.int .i64 g, .int .i64 l].toArray] ro [(m,mapO kv)] (fun w ro' pre'=>LsI ro' w (pulls b g l)∧Kept m b ro' pre'):=by
 refine CallV.intro (first:= []) (vs:= [_,_]) (cap:= []) hJ Kr fun c cs tail hret=>enter_X (n:=25) func216 U U (Nl U) ?_
 have C:Ctx prog main J (bf 216 .normal):=⟨hJ,by decide⟩
 refine Xu W<|Bx Z fun p2=>Bx Z fun p3=>Ae W<|Xu W<|Rv 5 W A225 U sizeOf223<|Rj W isAgg223 V U<|Rq W isAgg240 B240 V Tk2 ?_
 rcases hgk:getK kv [g,l] with _|⟨j,w⟩
 ·
  refine R.lookupMiss (key:= [g,l]) C U U U U A223 A240 (fun _ _=>rfl) K58 eqT240 ckT240 U hm.len hgk V<|Ro W<|Re Z<|Re Z<|FF 13 U (by rfl)<|Rg Y<|Ae W<|Xx W<|Ro W<|Rh Y<|FT 15 U U<|Zc U (fun _=>?_) (fun h=>nomatch h)
  refine Xu W<|Rv 0 W A225 U B222<|Rq W isAgg222 B222 V Tk5<|Rq W isAgg240 B240 V Tk2<|R.callR C U U U U (pulls_c hJ ⟨_,_,_,_,rfl,hv⟩ hb hg hl) fun w ro1 hl1 hw=>Ae W<|Xg W<|Rv 5 W A225 U sizeOf223<|Rj W isAgg223 V U<|Rq W isAgg240 B240 V Tk2<|Ro W<|R.enterO (key:= [g,l]) C U U U U U A223 A240 (fun _ _=>rfl) eqT240 ckT240 U hm.len hgk V<|Rz<|Xm W W<|Ae W<|Xw func216 ?_
  exact hret _ _ [_] _ hl1 ⟨hw,_,rfl,(hm.mono hl1).put hw⟩ Vs
 ·
  refine R.lookupHit (key:= [g,l]) C U U U U A223 A240 (fun _ _=>rfl) K58 eqT240 ckT240 U hm.len hgk V<|Ro W<|Re Z<|Re Z<|FT 13 U (by rfl)<|Rg Y<|Ae W<|Xx W<|Ro W<|Rh Y<|FF 15 U U<|Zc U (fun h=>nomatch h) (fun _=>?_)
  refine Xz<|Xm W W<|Ae W<|Xw func216 ?_
  exact hret _ _ [_] _ (RO.le_refl _) ⟨hm.get hgk,_,rfl,hm⟩ Vs
theorem gives_c{b:Bk}{vp vg vc vt:Value}{ro:RO}(hv:BkP ro b vp vg vc vt)(hb:b.good){g l:Int}(hg:0≤g∧g<b.gs.length)(hl:0≤l∧l≤99){p:List Int}(hp4:p.length=4){m:Nat}{kv:KV}(hm:MapOk ro b kv):
  CallV prog J (fnv 146) [.agg [.int .i64 b.w,vp,vg,vc,vt, .map (some m)].toArray, .agg (ints p).toArray, .agg [.int .i64 g, .int .i64 l].toArray] ro [(m,mapO kv)] (fun w ro' pre'=>LsI ro' w (gives b p g l)∧Kept m b ro' pre'):=by
 have hvv:=hv
 obtain⟨hp,hgs,hc,ht⟩:=hv
 obtain⟨gp,go,gcap,gl,gt,gfq,rfl,hgro,hgsub⟩:=hgs.at O
 obtain⟨qb,qc,hqat,hqcap,hq⟩:=hgsub g.toNat O
 have hgear:b.gs[g.toNat]' O=b.gear g:=by simp [Bk.gear,List.getD_eq_getElem?_getD,show g.toNat<b.gs.length by omega]
 rw [hgear] at hqat hqcap hq
 have hgn:=hb.gear hg.1 hg.2
 have hgl:=hb.gearLen hg.1 hg.2
 have hpn:=pulls_len b g l
 have hnp:=hb.np
 refine CallV.intro (first:= []) (vs:= [_,_,_]) (cap:= []) hJ Kr fun c cs tail hret=>enter_X (n:=59) func146 U U (Nl U) ?_
 have C:Ctx prog main J (bf 146 .normal):=⟨hJ,by decide⟩
 refine Xu W<|Bx Z fun p3=>Bx Z fun p4=>Bx Z fun p5=>Ae W<|Xo W W<|Xu W<|Rq W G225 B225 V Tk6<|Rq W isAgg240 B240 V Tk2<|R.perm C.1 pm3<|R.call C U U U U (pre:= [_]) U (pulled_c hJ hvv hb hg hl hm) fun w ro1 pre1 hl1 hp1=>?_
 obtain⟨hw,kv1,rfl,hm1⟩:=hp1
 obtain⟨wb,wc,rfl⟩:=hw.form
 obtain⟨wp,wo,wcap,wl,wt,wfq,hwe,hwro,hwsub⟩:=hw.at ic_len O
 cases hwe
 refine Ae W<|Xx W<|Rv 0 W A225 U B222<|Rv 0 W A222 U B27<|Rv 2 W A27 U B23<|Rj W G23 V U<|Rv 0 W A240 U B3<|Rj W G3 V U<|Ry Y A23 B58<|Lo Y G58 (hl1 _ _ hgro) hqat<|Rt W A58<|Ro W<|Rz<|Xb ?_
 have hgv:gives b p g l=givesTo p (b.gear g) (pulls b g l) (b.gear g).length++(if b.w<(pulls b g l).getD (b.gear g).length 0 then [((b.gear g).length:Int)] else []):=rfl
 rw [hgv] at hret
 generalize b.gear g=q at hqat hqcap hq hgn hgl hpn hgv hret
 generalize pulls b g l=ls at hw hwsub hpn hgv hret
 refine X.loopI (ι:=Nat×Value×List (Nat×Obj)) C.1 (fun s=>s.1≤q.length∧Buf 3 1 ((m,mapO kv1)::(p5, .cells [.int .i64 g, .int .i64 l].toArray 240 (0,0))::(p4, .cells (ints p).toArray 234 (0,0))::(p3, .cells [.int .i64 b.w,vp, .slice (some ⟨gp,go,none⟩) b.gs.length gcap,vc,vt, .map (some m)].toArray 225 (0,0))::tail) s.2.1 ((givesTo p q ls s.1).flatMap ic) s.2.2)
  (fun s=> [(7,s.2.1),(8, .slice (some ⟨wp,wo,none⟩) ls.length wc),(22, .slice qb q.length qc),(23, .int .i64 (q.length:Int)),(24, .int .i64 (s.1:Int)),(3, .pointer (some ⟨p3,0,none⟩)),(4, .pointer (some ⟨p4,0,none⟩))])
  (fun s=>⟨ro1,s.2.2⟩) (fun s=>q.length-s.1) (0, .slice none 0 0,_) ⟨Nat.zero_le _, .nil⟩ rfl ⟨U,U,U,U,U,U,U,trivial⟩ fun s hi hnext=>?_
 obtain⟨i,vo,own⟩:=s
 obtain⟨hi,hbuf⟩:=hi
 simp only at hi hbuf hnext⊢
 obtain⟨pre,rfl,hbuf0⟩:=hbuf.unapp (tail:= [])
 have hgn0:=givesTo_len p q ls i
 have hgn1:=flat_len (givesTo p q ls i)
 refine Xu W<|Ri Z b_lss<|Rz<|Xv<|Xj U (fun hlt=>?_) (fun hlt=>?_)
 ·have hi':i<q.length:=O
  obtain⟨p9,off,cap,ll,t,fq,hsl',hrop,hsub⟩:=hq.at ic_len O
  cases hsl'
  have hat:=ic_getD hsub hi'
  have hn:=hgn.2.1 _ (List.getElem_mem hi')
  have hnD:q.getD i 0=q[i]:=by rw [List.getD_eq_getElem?_getD,List.getElem?_eq_getElem hi'];rfl
  rw [←hnD] at hn
  have hga:=givesTo_succ p q ls i
  have hgP:givesP p q ls i=decide (nth p (q.getD i 0)<ls.getD i 0):=rfl
  have hwat:=ic_getD hwsub (show i<ls.length by omega)
  generalize q.getD i 0=n at hat hn hgP
  generalize ls.getD i 0=y at hwat hgP
  have hnth:=nth_get (p:=p) hn.1 O
  refine Xz<|Xv<|Xb<|Xm W W<|Ry Y A58 B3<|Lo Y G3 (hl1 _ _ hrop) hat<|Rg Y<|Ae W<|Xv<|Xf fun hok=>Dt 0 Y<|Dt 1 Y<|Dw 2 Y A58 B3<|Dc 3 W G3 hwro hwat<|Dt 4 Y<|Dp 5 hok (fun _ _ _ A h=>R.indexAddrA C U (A.w U U) (A.x U U) (A.x U U) A234 B3 O O h)<|Dl 6 hok (fun _ _ A h=>R.loadOne C U (A.w U U) (A.x U U) G3 Vm hnth h)<|Dj 7 Y5 b_gtr<|Dn<|Xj U (fun hcmp=>?_) (fun hcmp=>?_)
  ·refine Xg W<|Oo W W<|R.buildSlice C (vs:=_) U U (show pvals _ _=some (numbered 0 [_]) from rfl) U A58 B3 K3 Dd (Cat.one U U) fun p39=>R.append1 (kk:=1) C U U U U A58 A58 (fun _=>nofun) (show prog.info? 3=some Tryz.t3 by kernel_rfl) U U U Dd Dd hbuf U U (by simp only [List.length_append,List.length_cons,List.length_nil];omega) fun v' own' hb'=>Ae W<|Xi<|Xg W<|Rb Y<|Ro W<|Rz<|X.weaken ?_ (hnext (i+1,v',own') ⟨hi', ?_⟩ ?_)
   ·exact⟨rfl,rfl,rfl,rfl,by simp [look],rfl,rfl,trivial⟩
   ·rw [hga,hgP,if_pos (by simpa using hcmp),List.flatMap_append];exact hb'
   ·simp only;omega
  ·refine Xz<|Xi<|Xg W<|Rb Y<|Ro W<|Rz<|X.weaken ?_ (hnext (i+1,vo,_) ⟨hi', ?_⟩ ?_)
   ·exact⟨rfl,rfl,rfl,rfl,by simp [look],rfl,rfl,trivial⟩
   ·rw [hga,hgP,if_neg (by simpa using hcmp)];exact hbuf
   ·simp only;omega
 ·obtain rfl:i=q.length:=by omega
  have hwat:=ic_getD hwsub (show q.length<ls.length by omega)
  have hz:((ls.length:Int) -1).toNat=q.length:=O
  rw [←hz] at hwat
  refine Xe U<|Xx W<|Ro W<|Rt W A58<|Ri Z (b_sub O O)<|Ae W<|Xv<|Xf fun hok=>Dt 0 Y<|Dt 1 Y<|Dw 2 Y A58 B3<|Dc 3 W G3 hwro hwat<|Dh 0 4 Y A225 U B222<|Dh 0 5 Y A222 U B27<|Dh 0 6 Y A27 U B3<|Dl 7 hok (fun _ _ A h=>R.loadOne C U (A.w U U) (A.x U U) G3 Vm U h)<|Dj 8 Y5 b_gtr<|Dn ?_
  rw [hz]
  refine Xj U (fun hcmp=>?_) (fun hcmp=>?_)
  ·refine Xg W<|Oo W W<|R.buildSlice C (vs:=_) U U (show pvals _ _=some (numbered 0 [_]) from rfl) U A58 B3 K3 Dd (Cat.one U U) fun p56=>R.append1 (kk:=1) C U U U U A58 A58 (fun _=>nofun) (show prog.info? 3=some Tryz.t3 by kernel_rfl) U U U Dd Dd hbuf U U (by simp only [List.length_append,List.length_cons,List.length_nil];omega) fun v' own' hb'=>Ae W<|Xm W W<|Ae W<|X.finish C.1 ic_len Dd (xs:=givesTo p q ls q.length++ [(ls.length:Int) -1]) (by rw [List.flatMap_append];exact hb') fun ro' hle hls=>Xw func146<|hret _ _ [_] _ (RO.le_trans hl1 hle) ⟨?_,kv1,rfl,hm1.mono hle⟩ (List.Sublist.cons₂ _ Vs)
   rw [if_pos hcmp, ←show((ls.length:Int) -1)=q.length by omega];exact hls
  ·refine Xz<|Xm W W<|Ae W<|X.finish C.1 ic_len Dd hbuf fun ro' hle hls=>Xw func146<|hret _ _ [_] _ (RO.le_trans hl1 hle) ⟨?_,kv1,rfl,hm1.mono hle⟩ (List.Sublist.cons₂ _ Vs)
   rw [if_neg hcmp,List.append_nil];exact hls
theorem lifts_c{b:Bk}{vp vg vc vt:Value}{ro:RO}(hv:BkP ro b vp vg vc vt)(hb:b.good){g l:Int}(hg:0≤g∧g<b.gs.length)(hl:0≤l∧l≤99){p:List Int}(hp4:p.length=4){m:Nat}{kv:KV}(hm:MapOk ro b kv):
  CallV prog J (fnv 114) [.agg [.int .i64 b.w,vp,vg,vc,vt, .map (some m)].toArray, .agg (ints p).toArray, .agg [.int .i64 g, .int .i64 l].toArray] ro [(m,mapO kv)] (fun w ro' pre'=>w= .bool (lifts b p g l)∧Kept m b ro' pre'):=by
 obtain⟨x1,x2,x3,x4,rfl⟩:∃x1 x2 x3 x4,p= [x1,x2,x3,x4]:=by
  match p,hp4 with
  | [x1,x2,x3,x4],_=>exact⟨_,_,_,_,rfl⟩
 have hgl:=gives_len b [x1,x2,x3,x4] g l
 have hgn:=hb.gearLen hg.1 hg.2
 refine CallV.intro (first:= []) (vs:= [_,_,_]) (cap:= []) hJ Kr fun c cs tail hret=>enter_X (n:=18) func114 U U (Nl U) ?_
 have C:Ctx prog main J (bf 114 .normal):=⟨hJ,by decide⟩
 refine Xu W<|Bx Z fun p3=>Bx Z fun p4=>Bx Z fun p5=>Ae W<|Xu W<|Rv 1 W A240 U B3<|Rj W G3 V U<|Ri Z b_eql<|Ro W<|R.fix (t:=10) U (fun h0=>?_) (fun h0=>?_)
 ·have e0:(l==0)=true:=by simpa using h0
  refine Rp W<|Rp W<|Rp W<|Rp W<|Rp W<|Rp W<|Pp Z<|Ae W<|Xw func114<|hret _ _ [_] _ (RO.le_refl _) ⟨?_,kv,rfl,hm⟩ Vs
  simp [lifts,e0,retVal]
 ·have e0:(l==0)=false:=by simpa using h0
  refine Rq W G225 B225 V Tk6<|Rq W G234 B234 V Tk4<|Rq W isAgg240 B240 V Tk2<|R.perm C.1 pm3<|R.call C U U U U (pre:= [_]) U (gives_c hJ hv hb hg hl hp4 hm) fun w ro1 pre1 hl1 hp1=>?_
  obtain⟨hw,kv1,rfl,hm1⟩:=hp1
  obtain⟨wb,wc,rfl⟩:=hw.form
  refine Rt W A58<|Ri Z b_eql<|Pf Z<|Ae W<|Xw func114<|hret _ _ [_] _ hl1 ⟨?_,kv1,rfl,hm1⟩ (List.Sublist.cons₂ _ Vs)
  simp only [lifts,e0,Bool.false_or,retVal,len0]
end Go.Lg.B
set_option maxRecDepth 100000
namespace Go.Lg.B
open Go Go.Conc Go.Lg Go.Proofs Go.Proofs.Tryz
theorem getD_pad(l:List Int)(k i:Nat):(pad k l).getD i 0=l.getD i 0:=by
 simp only [pad,List.getD_eq_getElem?_getD,List.getElem?_append]
 split
 ·rfl
 ·rename_i h
  rw [List.getElem?_eq_none (Nat.le_of_not_lt h),List.getElem?_replicate]
  split<;>rfl
theorem nth_pad(k:Nat)(l:List Int)(n:Int):nth (pad k l) n=nth l n:=getD_pad l k n.toNat
theorem gives_pad(b:Bk)(k:Nat)(p:List Int)(g l:Int):gives b (pad k p) g l=gives b p g l:=by
 have:givesP (pad k p)=givesP p:=by funext q ls i;simp only [givesP,nth_pad]
 unfold gives;rw [this]
theorem lifts_pad(b:Bk)(k:Nat)(p:List Int)(g l:Int):lifts b (pad k p) g l=lifts b p g l:=by simp only [lifts,gives_pad]
theorem right_pad(b:Bk)(k:Nat)(p:List Int):right b (pad k p)=right b p:=by simp only [right,lifts_pad]
theorem four_of{l:List Int}(h:l.length≤4):∃a b c d,pad 4 l= [a,b,c,d]:=by
 match l,h with
 | [],_=>exact⟨_,_,_,_,rfl⟩
 | [_],_=>exact⟨_,_,_,_,rfl⟩
 | [_,_],_=>exact⟨_,_,_,_,rfl⟩
 | [_,_,_],_=>exact⟨_,_,_,_,rfl⟩
 | [_,_,_,_],_=>exact⟨_,_,_,_,rfl⟩
theorem three_of{l:List Int}(h:l.length≤3):∃a b c,pad 3 l= [a,b,c]:=by
 match l,h with
 | [],_=>exact⟨_,_,_,rfl⟩
 | [_],_=>exact⟨_,_,_,rfl⟩
 | [_,_],_=>exact⟨_,_,_,rfl⟩
 | [_,_,_],_=>exact⟨_,_,_,rfl⟩
theorem Tn.lit{t:Tn}(h1:t.1.length≤4)(h2:t.2.length≤3):∃x1 x2 x3 x4 y1 y2 y3:Int,pad 4 t.1= [x1,x2,x3,x4]∧pad 3 t.2= [y1,y2,y3]∧t.cells= [.int .i64 x1, .int .i64 x2, .int .i64 x3, .int .i64 x4, .int .i64 y1, .int .i64 y2, .int .i64 y3]:=by
 obtain⟨x1,x2,x3,x4,e1⟩:=four_of h1
 obtain⟨y1,y2,y3,e2⟩:=three_of h2
 exact⟨x1,x2,x3,x4,y1,y2,y3,e1,e2,by simp [Tn.cells,Tn.nums,e1,e2,ints]⟩
theorem Bk.good.lit{b:Bk}(hb:b.good){t:Tn}(ht:t∈cases b):∃x1 x2 x3 x4 y1 y2 y3:Int,pad 4 t.1= [x1,x2,x3,x4]∧pad 3 t.2= [y1,y2,y3]∧t.cells= [.int .i64 x1, .int .i64 x2, .int .i64 x3, .int .i64 x4, .int .i64 y1, .int .i64 y2, .int .i64 y3]:=
 Tn.lit (by have:=bearsL_len _ (mem_cases.1 ht).1;have:=hb.np;omega) (by have:=weightsL_len _ (mem_cases.1 ht).2;have:=hb.nc;omega)
theorem nth_four{p:List Int}{x1 x2 x3 x4:Int}(e:pad 4 p= [x1,x2,x3,x4])(n:Int):nth [x1,x2,x3,x4] n=nth p n:=by rw [←e,nth_pad]
theorem nth_three{p:List Int}{x1 x2 x3:Int}(e:pad 3 p= [x1,x2,x3])(n:Int):nth [x1,x2,x3] n=nth p n:=by rw [←e,nth_pad]
theorem lifts_four{b:Bk}{p:List Int}{x1 x2 x3 x4:Int}(e:pad 4 p= [x1,x2,x3,x4])(g l:Int):lifts b [x1,x2,x3,x4] g l=lifts b p g l:=by rw [←e,lifts_pad]
theorem piece_at{x1 x2 x3 x4 y1 y2 y3 k:Int}(h0:0≤k)(h1:k<3):([.int .i64 x1, .int .i64 x2, .int .i64 x3, .int .i64 x4, .int .i64 y1, .int .i64 y2, .int .i64 y3]:List Value)[4+k.toNat*1]? =some (.int .i64 (nth [y1,y2,y3] k)):=by
 have:k=0∨k=1∨k=2:=O
 rcases this with rfl|rfl|rfl<;>rfl
theorem part_at{x1 x2 x3 x4 k:Int}{r:List Value}(h0:0≤k)(h1:k<4):(.int .i64 x1:: .int .i64 x2:: .int .i64 x3:: .int .i64 x4::r:List Value)[0+k.toNat*1]? =some (.int .i64 (nth [x1,x2,x3,x4] k)):=by
 have:k=0∨k=1∨k=2∨k=3:=O
 rcases this with rfl|rfl|rfl|rfl<;>rfl
theorem nth_mem{l:List Int}{n:Int}(h0:0≤n)(h1:n<l.length):nth l n∈l:=by
 have h:n.toNat<l.length:=O
 simp only [nth,List.getD_eq_getElem?_getD,List.getElem?_eq_getElem h,Option.getD_some]
 exact List.getElem_mem h
def findA{α:Type}(p:α→Bool)(l:List α):Int:=if l.any p then(l.findIdx p:Int) else -1
theorem findA_hit{α:Type}{p:α→Bool}{l:List α}{i:Nat}(h:i<l.length)(hp:p l[i]=true)(hb:∀ (j:Nat)(hj:j<l.length),j<i→p l[j]=false):findA p l=i:=by
 have e:l.findIdx p=i:=(List.findIdx_eq h).2 ⟨hp,fun j hj=>by simp [hb j O hj]⟩
 rw [findA,if_pos (by rw [List.any_eq_true];exact⟨_,List.getElem_mem h,hp⟩),e]
theorem findA_miss{α:Type}{p:α→Bool}{l:List α}(hb:∀ (j:Nat)(hj:j<l.length),p l[j]=false):findA p l= -1:=by
 rw [findA,if_neg]
 rw [List.any_eq_true]
 rintro⟨x,hx,hp⟩
 obtain⟨j,hj,rfl⟩:=List.mem_iff_getElem.1 hx
 rw [hb j hj] at hp;cases hp
theorem findA_any{α:Type}{p:α→Bool}{l:List α}:decide (0≤findA p l)=l.any p:=by
 unfold findA
 split
 ·rename_i h;simp [h]
 ·rename_i h;simp only [Bool.not_eq_true] at h;simp [h]
theorem ones_ic(l:List Int):ones (l.flatMap ic)=true:=by
 induction l with
 |nil=>rfl
 |cons x l ih=>simpa [ones,ic,oneCell] using ih
structure Ks where
 ks:List Int
 ws:List Int
 deriving DecidableEq
variable {ro:RO}{fv v vk:Value}{k:Ks}{b:Bk}{l:List Int}{p:Int→Bool}
def KsV(ro:RO)(v:Value)(k:Ks):Prop:= ∃v1 v2,v= .agg [v1,v2].toArray∧LsI ro v1 k.ks∧LsI ro v2 k.ws
theorem KsV.mono{ro':RO}(h:KsV ro v k)(hl:ro.le ro'):KsV ro' v k:=let⟨v1,v2,e,h1,h2⟩:=h;⟨v1,v2,e,h1.mono hl,h2.mono hl⟩
def Ks.short(k:Ks):Prop:=k.ks.length≤1000∧k.ws.length≤1000
def handedH(b:Bk)(k:Ks):Int:=
 if k.ks.length≠b.ps.length∨k.ws.length≠b.cs.length then 2 else if(k.ks.any fun n=> !between n 0 99)||(k.ws.any fun n=>(loadH n !=0)) then 1 else 0
def handedT(b:Bk)(k:Ks):Tn:=if handedH b k=0 then(k.ks,k.ws) else([], [])
def lookedH(b:Bk)(k:Ks):Int:=if checkBook b≠0 then checkBook b else handedH b k
theorem handed_two(h:k.ks.length≠b.ps.length∨k.ws.length≠b.cs.length):handedT b k=([], [])∧handedH b k=2:=by
 have e:handedH b k=2:=by rw [handedH,if_pos h]
 exact⟨by rw [handedT,e];rfl,e⟩
theorem handed_one(h1:k.ks.length=b.ps.length)(h2:k.ws.length=b.cs.length)(h:((k.ks.any fun n=> !between n 0 99)||(k.ws.any fun n=>(loadH n !=0)))=true):handedT b k=([], [])∧handedH b k=1:=by
 have e:handedH b k=1:=by rw [handedH,if_neg (by simp [h1,h2]),if_pos h]
 exact⟨by rw [handedT,e];rfl,e⟩
theorem handed_zero(h1:k.ks.length=b.ps.length)(h2:k.ws.length=b.cs.length)(h3:(k.ks.any fun n=> !between n 0 99)=false)(h4:(k.ws.any fun n=>(loadH n !=0))=false):handedT b k=(k.ks,k.ws)∧handedH b k=0:=by
 have e:handedH b k=0:=by rw [handedH,if_neg (by simp [h1,h2]),if_neg (by simp only [h3,h4];simp)]
 exact⟨by rw [handedT,if_pos e],e⟩
theorem handed_good(h:handedH b k=0):k.ks.length=b.ps.length∧k.ws.length=b.cs.length∧(∀n∈k.ks,0≤n∧n≤99)∧∀n∈k.ws,1≤n∧n≤99:=by
 unfold handedH at h
 split at h
 ·cases h
 ·rename_i h1
  split at h
  ·cases h
  ·rename_i h2
   simp only [Bool.or_eq_true,not_or,Bool.not_eq_true,List.any_eq_false,Bool.not_eq_eq_eq_not,Bool.not_true,Bool.not_eq_false,decide_eq_true_eq,Decidable.not_not] at h2
   refine⟨O,O,fun n hn=>between_iff.1 ?_,fun n hn=>loadH_zero.1 (by have:=h2.2 n hn;simpa using this)⟩
   have:=h2.1 n hn
   simpa using this
theorem handedT_len(hb:b.good)(k:Ks):(handedT b k).1.length≤4∧(handedT b k).2.length≤3:=by
 unfold handedT
 split
 ·rename_i h
  have h1:=handed_good h
  have:=hb.np;have:=hb.nc
  simp only;omega
 ·exact⟨by decide,by decide⟩
theorem put_parts(h:l.length≤4):Put 0 (l.flatMap ic) (Tn.cells ([], [])) (Tn.cells (l, [])):=by
 match l,h with
 | [],_=>exact Put.mid [] [] [_,_,_,_,_,_,_] Zi
 | [_],_=>exact Put.mid [] [_] [_,_,_,_,_,_,_] Zi
 | [_,_],_=>exact Put.mid [] [_,_] [_,_,_,_,_,_,_] Zi
 | [_,_,_],_=>exact Put.mid [] [_,_,_] [_,_,_,_,_,_,_] Zi
 | [_,_,_,_],_=>exact Put.mid [] [_,_,_,_] [_,_,_,_,_,_,_] Zi
theorem put_pieces{w:List Int}(h1:l.length≤4)(h:w.length≤3):Put 4 (w.flatMap ic) (Tn.cells (l, [])) (Tn.cells (l,w)):=by
 obtain⟨x1,x2,x3,x4,e⟩:=four_of h1
 simp only [Tn.cells,Tn.nums,e]
 match w,h with
 | [],_=>exact Put.mid [_,_,_,_] [] [_,_,_] Zi
 | [_],_=>exact Put.mid [_,_,_,_] [_] [_,_,_] Zi
 | [_,_],_=>exact Put.mid [_,_,_,_] [_,_] [_,_,_] Zi
 | [_,_,_],_=>exact Put.mid [_,_,_,_] [_,_,_] [_,_,_] Zi
def noYard:List Value:= [.int .i64 0, .slice none 0 0, .slice none 0 0, .slice none 0 0, .slice none 0 0, .map none]
def zeroT:List Value:= [.int .i64 0, .int .i64 0, .int .i64 0, .int .i64 0, .int .i64 0, .int .i64 0, .int .i64 0]
variable {main:Bool}{J:Goroutine→Mem→Prop}(hJ:Closed prog main J)
include hJ
theorem indexFunc_c(hl:LsI ro v l)(hn:l.length≤1000000)(hf:∀x∈l,CallP prog J fv [.int .i64 x] ro (.bool (p x))):CallP prog J (fnv 260) [v,fv] ro (.int .i64 (findA p l)):=by
 obtain⟨lb,lc,rfl⟩:=hl.form
 refine EP 19 hJ func260 W fun c cs tail hret C=>Xo W W<|Xx W<|Ro W<|Rt W A58<|Ro W<|Rz<|Xb<|X.loopI (ι:=Nat) C.1 (fun i=>i≤l.length∧∀j (h:j<l.length),j<i→p l[j]=false) (fun i=> [(0, .slice lb l.length lc),(1,fv),(7, .int .i64 (l.length:Int)),(8, .int .i64 (i:Int))])
  (fun _=>⟨ro,tail⟩) (fun i=>l.length-i) 0 ⟨Nat.zero_le _,fun _ _ h=>absurd h (Nat.not_lt_zero _)⟩ rfl ⟨U,U,U,U,trivial⟩ fun i hi hnext=>?_
 obtain⟨hi,hb⟩:=hi
 refine Xu W<|Ri Z b_lss<|Rz<|Xv<|Xj U (fun hlt=>?_) (fun hlt=>?_)
 ·have hi':i<l.length:=O
  obtain⟨pp,off,cap,ll,t,fq,hsl,hrop,hsub⟩:=hl.at ic_len O
  cases hsl
  refine Xz<|Xv<|Xb<|Xm W W<|Ae W<|Xm W W<|Oo W W<|Ry Y A58 B3<|Lo Y G3 hrop (ic_at hsub hi')<|Cp Z (hf _ (List.getElem_mem hi'))<|Zc U (fun hr=>?_) (fun hr=>?_)
  ·refine Xm W W<|Hq W func260 hret ?_
   rw [findA_hit hi' hr hb];rfl
  ·refine Xz<|Xi<|Xg W<|Rb Y<|Ro W<|Rz<|X.weaken ?_ (hnext (i+1) ⟨hi',fun j hj hji=>?_⟩ O)
   ·exact⟨rfl,rfl,rfl,by simp [look],trivial⟩
   ·by_cases e:j=i
    ·subst e;exact hr
    ·exact hb j hj O
 ·obtain rfl:i=l.length:=by omega
  refine Xe U<|Xu W<|Hq W func260 hret ?_
  rw [findA_miss (fun j hj=>hb j hj hj)];rfl
theorem containsFunc_c(hl:LsI ro v l)(hn:l.length≤1000000)(hf:∀x∈l,CallP prog J fv [.int .i64 x] ro (.bool (p x))):CallP prog J (fnv 266) [v,fv] ro (.bool (l.any p)):=by
 refine EP 9 hJ func266 W fun c cs tail hret C=>Xo W W<|Xm W W<|Ro W<|Cp Z (indexFunc_c hJ (by assumption) (by assumption) (by assumption))<|Ri Z b_geq<|Hq W func266 hret ?_
 (simp only [retVal, ←findA_any])
theorem wide1_c(n:Int)(ro:RO):CallP prog J (fnv 276) [.int .i64 n] ro (.bool (!between n 0 99)):=by
 refine EP 6 hJ func276 W fun c cs tail hret C=>Xo W W<|Xm W W<|Cp Z (between_c hJ _ _ _ _)<|Rh Y<|Hq W func276 hret ?_
 rfl
theorem wide2_c(n:Int)(ro:RO):CallP prog J (fnv 277) [.int .i64 n] ro (.bool ((loadH n !=0))):=by
 refine EP 6 hJ func277 W fun c cs tail hret C=>Xo W W<|Xm W W<|Cp Z (load_c hJ _ _)<|Ri Z b_neq<|Hq W func277 hret ?_
 rfl
theorem handed_c(hv:BkV ro v b)(hb:b.good)(hk:KsV ro vk k)(hk2:k.short):CallP prog J (fnv 211) [v,vk] ro (.tuple [(handedT b k).val, .int .i64 (handedH b k)].toArray):=by
 obtain⟨vp,vg,vc,vt,rfl,hp,hg,hc,ht⟩:=hv
 obtain⟨pb,pc,rfl⟩:=hp.form
 obtain⟨cb,cc,rfl⟩:=hc.form
 obtain⟨v1,v2,rfl,h1,h2⟩:=hk
 obtain⟨kb,kc,rfl⟩:=h1.form
 obtain⟨wb,wc,rfl⟩:=h2.form
 obtain⟨hk1,hk2⟩:=hk2
 have hnp:=hb.np
 have hnc:=hb.nc
 refine EP 44 hJ func211 W fun c cs tail hret C=>Xu W<|Bx Z fun p2=>Bx Z fun p3=>Al W K237 U fun p4=>Ae W<|Xv<|Xb<|Xx W<|Rv 0 W A107 U B58<|Rj W G58 V U<|Rt W A58<|Rv 0 W A222 U B27<|Rv 1 W A27 U B22<|Rj W G22 V U<|Rt W A22<|Ri Z b_neq<|Ae W<|Xc U (fun hq1=>?_) (fun hq1=>?_)
 ·refine X.fixv (t:=7) (v':= .bool true) U (congrArg Value.bool hq1)<|Xz<|Xc U (fun _=>?_) (fun h=>nomatch h)
  refine Xu W ?_;refine R.build C U U U K237 U A237 Kr .nil<|Rs Z B237 Y V Ph7<|Ae W<|X.ret C U U func211 U (by exact(.agg U G237 B237 V (.take Tk6) (.tmp U .nil)))<|Hp hret ?_
  have e:=handed_two (b:=b) (k:=k) (.inl (by simp at hq1;omega))
  rw [e.1,e.2];rfl
 ·refine Xg W<|Rv 1 W A107 U B58<|Rj W G58 V U<|Rt W A58<|Rv 0 W A222 U B27<|Rv 3 W A27 U B24<|Rj W G24 V U<|Rt W A24<|Ri Z b_neq<|Ae W<|Xc U (fun hq2=>?_) (fun hq2=>?_)
  ·refine Xu W ?_;refine R.build C U U U K237 U A237 Kr .nil<|Rs Z B237 Y V Ph7<|Ae W<|X.ret C U U func211 U (by exact(.agg U G237 B237 V (.take Tk6) (.tmp U .nil)))<|Hp hret ?_
   have e:=handed_two (b:=b) (k:=k) (.inr (by simp at hq2;omega))
   rw [e.1,e.2];rfl
  ·have e1:k.ks.length=b.ps.length:=by simp at hq1;omega
   have e2:k.ws.length=b.cs.length:=by simp at hq2;omega
   refine Xx W<|Rv 0 W A107 U B58<|Rj W G58 V U<|Cp Z (containsFunc_c hJ h1 O (fun x _=>wide1_c hJ x ro))<|Ae W<|Xc U (fun hq3=>?_) (fun hq3=>?_)
   ·refine X.fixv (t:=25) (v':= .bool true) U (congrArg Value.bool hq3)<|Xz<|Xc U (fun _=>?_) (fun h=>nomatch h)
    refine Xu W ?_;refine R.build C U U U K237 U A237 Kr .nil<|Rs Z B237 Y V Ph7<|Ae W<|X.ret C U U func211 U (by exact(.agg U G237 B237 V (.take Tk6) (.tmp U .nil)))<|Hp hret ?_
    have e:=handed_one e1 e2 (by rw [hq3];rfl)
    rw [e.1,e.2];rfl
   ·refine Xg W<|Rv 1 W A107 U B58<|Rj W G58 V U<|Cp Z (containsFunc_c hJ h2 O (fun x _=>wide2_c hJ x ro))<|Ae W<|Xc U (fun hq4=>?_) (fun hq4=>?_)
    ·refine Xu W ?_;refine R.build C U U U K237 U A237 Kr .nil<|Rs Z B237 Y V Ph7<|Ae W<|X.ret C U U func211 U (by exact(.agg U G237 B237 V (.take Tk6) (.tmp U .nil)))<|Hp hret ?_
     have e:=handed_one e1 e2 (by rw [hq4,Bool.or_true])
     rw [e.1,e.2];rfl
    ·have e:=handed_zero e1 e2 hq3 hq4
     obtain⟨x1,x2,x3,x4,y1,y2,y3,l1,l2,l3⟩:=Tn.lit (t:=(k.ks,k.ws)) (by simp only;omega) (by simp only;omega)
     refine Xz<|Xi<|Xu W<|Al W K237 U fun p6=>Rz<|Xv<|Xf fun hok=>Dh 0 0 Y A237 U B234<|Dp 1 hok (fun _ _ _ A h=>R.sliceArr C U (A.w U U) (A.x U U) A234 B3 h)<|Dh 0 2 Y A107 U B58<|Db 3 W G58 V U<|De 4 (some 37) [false] hok (fun _ _ A hk=>?_)
     refine R.copy C U (A.w U U) (A.x U U) (A.x U U) A58 B3 (h1.rd ic_len) O (ones_ic _) V (put_parts O) (hk _ _ ⟨QFs.nil, ?_⟩)
     refine Dn<|Xv<|Xf fun hok=>Dh 4 0 Y A237 U B235<|Dp 1 hok (fun _ _ _ A h=>R.sliceArr C U (A.w U U) (A.x U U) A235 B3 h)<|Dh 1 2 Y A107 U B58<|Db 3 W G58 V U<|De 4 (some 42) [false] hok (fun _ _ A hk=>?_)
     refine R.copy C U (A.w U U) (A.x U U) (A.x U U) A58 B3 (h2.rd ic_len) O (ones_ic _) V (by have:=put_pieces (l:=k.ks) (w:=k.ws) O O;rw [l3] at this;exact this) (hk _ _ ⟨QFs.nil, ?_⟩)
     refine Dn<|Xu W<|Rq W G237 B237 V (.take Tk6)<|Rs Z B237 Y V Ph7<|Ae W<|X.ret C U U func211 U (by exact(.agg U G237 B237 V (.take Tk6) (.tmp U .nil)))<|Hp hret ?_
     rw [e.1,e.2,Tn.val,l3];rfl
theorem looked_c{vp vg vc vt:Value}(he:Env ro)(hv:BkP ro b vp vg vc vt)(hs:b.short)(hk:KsV ro vk k)(hk2:k.short):CallV prog J (fnv 136) [.agg [.int .i64 b.w,vp,vg,vc,vt].toArray,vk] ro [] (fun w ro' pre'=>ro'=ro∧
  ((checkBook b≠0∧pre'= []∧w= .tuple [.agg noYard.toArray, .agg zeroT.toArray, .int .i64 (checkBook b)].toArray)∨
   (checkBook b=0∧∃m,pre'= [(m,mapO [])]∧w= .tuple [.agg [.int .i64 b.w,vp,vg,vc,vt, .map (some m)].toArray,(handedT b k).val, .int .i64 (handedH b k)].toArray))):=by
 have hvv:BkV ro (.agg [.int .i64 b.w,vp,vg,vc,vt].toArray) b:=⟨_,_,_,_,rfl,hv⟩
 have hkk:=hk
 obtain⟨v1,v2,rfl,h1,h2⟩:=hk
 obtain⟨kb,kc,rfl⟩:=h1.form
 obtain⟨wb,wc,rfl⟩:=h2.form
 have hv':=hv
 obtain⟨_,_,rfl⟩:=hv.1.form
 obtain⟨_,_,rfl⟩:=hv.2.1.form
 obtain⟨_,_,rfl⟩:=hv.2.2.1.form
 obtain⟨_,_,rfl⟩:=hv.2.2.2.form
 refine CallV.intro (first:= []) (vs:= [_,_]) (cap:= []) hJ Kr fun c cs tail hret=>enter_X (n:=30) func136 U U (Nl U) ?_
 have C:Ctx prog main J (bf 136 .normal):=⟨hJ,by decide⟩
 refine Xu W<|Bx Z fun p2=>Bx Z fun p3=>Al W K225 U fun p4=>Al W K237 U fun p5=>Ae W<|Xx W<|Rq W G27 B27 V Tk5<|Cp Z (checkBook_c hJ (by assumption) (by assumption) (by assumption))<|Ae W<|Xm W W<|Ri Z b_neq<|Zc U (fun hh=>?_) (fun hh=>?_)
 ·simp at hh
  refine Xu W ?_;refine R.build C U U U K225 U A225 Kr .nil ?_;refine R.build C U U U K237 U A237 Kr .nil<|Ro W<|Rs Z B225 Y V Ph6<|Rs Z B237 Y V Ph7<|Ae W<|X.ret C U U func136 U (by exact(.agg U G225 B225 V Tk6 (.agg U G237 B237 V (.take Tk6) (.tmp U .nil)))) ?_
  exact hret _ _ [] _ (RO.le_refl _) ⟨rfl, .inl ⟨hh,rfl,rfl⟩⟩ Vs
 ·have hh:checkBook b=0:=by simpa using hh
  have hb:=good_of hh
  obtain⟨x1,x2,x3,x4,y1,y2,y3,l1,l2,l3⟩:=Tn.lit (handedT_len hb k).1 (handedT_len hb k).2
  have hhc:=handed_c hJ hvv hb hkk hk2
  rw [Tn.val,l3] at hhc hret
  refine Xz<|Xu W<|Rq W G27 B27 V Tk5<|R.call C U U U U (pre:= []) U (yardOf_c hJ hv') fun w ro1 pre1 hl1 hp1=>?_
  obtain⟨rfl,m,rfl,rfl⟩:=hp1
  refine Al W K225 U fun p8=>Rs Z B225 Y V Ph6<|Rz<|Xu W<|Rv 0 W A225 U B222<|Rq W isAgg222 B222 V Tk5<|Rq W isAgg107 B107 V Tk2<|Cp Z (hhc)<|Ro W<|Re Z<|Re Z<|Al W K237 U fun p9=>Rs Z B237 Y V Ph7<|Ae W<|Xv<|Xf fun hok=>D5 C 0 hok U U G225 B225 V Tk6<|D5 C 1 hok U U G237 B237 V (.take Tk6)<|Dt 2 Y<|De 3 none [true,false] hok (fun _ _ A hk=>?_)
  refine R.store C U (A.w U U) (A.x U U) (A.x U U) B225 U U U V Ph6 (hk undef _ ⟨(QFs.cons (QF.of U (fun _ _ A h=>R.loadAgg C U (A.w U U) (A.x U U) G237 B237 V (.take Tk6) h)) QFs.nil), ?_⟩)
  refine De 4 none [false] hok (fun _ _ A hk=>?_)
  refine R.store C U (A.w U U) (A.x U U) (A.x U U) B237 U U U V Ph7 (hk undef _ ⟨QFs.nil, ?_⟩)
  refine Da C 5 hok U U<|Dn<|X.ret C U U func136 U (by exact(.agg U G225 B225 V Tk6 (.agg U G237 B237 V (.take Tk6) (.tmp U .nil)))) ?_
  exact hret _ _ [_] _ (RO.le_refl _) ⟨rfl, .inr ⟨hh,m,rfl,rfl⟩⟩ (by repeat (first|exact Sr|apply Sk|apply Sc))
end Go.Lg.B
set_option maxRecDepth 100000
namespace Go.Lg.B
open Go Go.Conc Go.Lg Go.Proofs Go.Proofs.Tryz
variable {b:Bk}{fv v:Value}{ro:RO}{l:List Ts}{p:Ts→Bool}{m:Nat}{kv:KV}
def liftsOf(b:Bk)(k:Ks)(g p:Int):Bool×Int:=
 if lookedH b k≠0 then(false,lookedH b k) else if max (there g b.gs.length) (there p b.cs.length)≠0 then(false,max (there g b.gs.length) (there p b.cs.length)) else(lifts b k.ks g (nth k.ws p),0)
theorem there_nn(n m:Int):0≤there n m:=by unfold there;split<;>decide
theorem Bk.good.short_t(hb:b.good):b.ts.length≤1000000:=by have:=hb.nt;omega
variable {main:Bool}{J:Goroutine→Mem→Prop}(hJ:Closed prog main J)
include hJ
theorem liftsR_c{k:Ks}{vk:Value}(he:Env ro)(hv:BkV ro v b)(hs:b.short)(hk:KsV ro vk k)(hk2:k.short)(g p:Int):CallR prog J (fnv 46) [v,vk, .int .i64 g, .int .i64 p] ro (fun w _=>w= .tuple [.bool (liftsOf b k g p).1, .int .i64 (liftsOf b k g p).2].toArray):=by
 obtain⟨vp,vg,vc,vt,rfl,hv⟩:=hv
 have hv':=hv
 have hss:=hs
 have hkk:=hk
 obtain⟨v1,v2,rfl,h1,h2⟩:=hk
 obtain⟨kb,kc,rfl⟩:=h1.form
 obtain⟨wb,wc,rfl⟩:=h2.form
 obtain⟨_,_,rfl⟩:=hv.1.form
 obtain⟨_,_,rfl⟩:=hv.2.1.form
 obtain⟨_,_,rfl⟩:=hv.2.2.1.form
 obtain⟨_,_,rfl⟩:=hv.2.2.2.form
 have hgl:=hs.gs.1
 have hcl:=hs.cs.1
 refine ER 48 hJ func46 W fun c cs tail hret C=>Xu W<|Bx Z fun p4=>Bx Z fun p5=>Rg Y<|Ae W<|Xu W<|Rq W G27 B27 V Tk5<|Rq W isAgg107 B107 V Tk2<|R.call C U U U U (pre:= []) U (looked_c hJ he hv' hs hkk hk2) fun w ro1 pre1 hl1 hp1=>?_
 obtain⟨rfl,hp1⟩:=hp1
 rcases hp1 with⟨hh,rfl,rfl⟩|⟨hh,m,rfl,rfl⟩
 ·
  refine Ro W<|Re Z<|Re Z<|Re Z<|Al W K225 U fun p10=>Al W K237 U fun p11=>Rs Z B225 Y V Ph6<|Rs Z B237 Y V Ph7<|Ae W<|Xx W<|Ro W<|Ri Z b_neq<|Zc U (fun hq=>?_) (fun hq=>?_)
  ·refine Xm W W<|Rg Y<|Ae W<|X.ret C U U func46 U (by exact(.tmp U (.tmp U .nil)))<|Hr hret (RO.le_refl _) ?_
   have e:lookedH b k=checkBook b:=by rw [lookedH,if_pos hh]
   rw [liftsOf,if_pos (by rw [e];exact hh),e];rfl
  ·simp at hq;contradiction
 ·
  have hb:=good_of hh
  have e0:lookedH b k=handedH b k:=by rw [lookedH,if_neg (fun h=>h hh)]
  obtain⟨x1,x2,x3,x4,y1,y2,y3,l1,l2,l3⟩:=Tn.lit (handedT_len hb k).1 (handedT_len hb k).2
  rw [Tn.val,l3]
  refine Ro W<|Re Z<|Re Z<|Re Z<|Al W K225 U fun p10=>Al W K237 U fun p11=>Rs Z B225 Y V Ph6<|Rs Z B237 Y V Ph7<|Ae W<|Xx W<|Ro W<|Ri Z b_neq<|Zc U (fun hq=>?_) (fun hq=>?_)
  ·have hq:handedH b k≠0:=by simpa using hq
   refine Xm W W<|Rg Y<|Ae W<|X.ret C U U func46 U (by exact(.tmp U (.tmp U .nil)))<|Hr hret (RO.le_refl _) ?_
   rw [liftsOf,if_pos (by rw [e0];exact hq),e0];rfl
  ·have hq:handedH b k=0:=by simpa using hq
   have hg:=handed_good hq
   have eT:handedT b k=(k.ks,k.ws):=by rw [handedT,if_pos hq]
   rw [eT] at l1 l2
   have eL:liftsOf b k g p=if max (there g b.gs.length) (there p b.cs.length)≠0 then(false,max (there g b.gs.length) (there p b.cs.length)) else(lifts b k.ks g (nth k.ws p),0):=by rw [liftsOf,if_neg (by rw [e0];simp [hq])]
   rw [eL] at hret
   refine Xz<|Xv<|Xv<|Xf fun hok=>Dt 0 Y<|Dh 2 1 Y A27 U B23<|Db 2 W G23 V U<|Ds C 3 hok U U A23<|Dt 5 Y<|Dh 3 6 Y A27 U B24<|Db 7 W G24 V U<|Ds C 8 hok U U A24<|De 4 (some 28) [true,false] hok (fun _ _ A hk=>?_)
   refine R.callP C U (A.w U U) (A.x U U) (A.s U U) (there_c hJ _ _ _ O O) (hk _ _ ⟨(QFs.cons (QF.of U (fun _ _ A h=>R.loadOne C U (A.w U U) (A.x U U) G24 V U h)) QFs.nil), ?_⟩)
   refine De 9 (some 33) [false] hok (fun _ _ A hk=>?_)
   refine R.callP C U (A.w U U) (A.x U U) (A.s U U) (there_c hJ _ _ _ O O) (hk _ _ ⟨QFs.nil, ?_⟩)
   refine Dp 10 hok (fun _ _ _ A h=>R.max2 C U (A.w U U) (A.x U U) (A.x U U) h)<|Da C 11 hok U U<|Dn<|Xm W W<|Ri Z b_neq<|Zc U (fun hm=>?_) (fun hm=>?_)
   ·have hm:max (there g b.gs.length) (there p b.cs.length)≠0:=by simpa using hm
    rw [if_pos hm] at hret
    refine Xm W W<|Rg Y<|Ae W<|X.ret C U U func46 U (by exact(.tmp U (.tmp U .nil)))<|Hr hret (RO.le_refl _) ?_
    rfl
   ·have hm:max (there g b.gs.length) (there p b.cs.length)=0:=by simpa using hm
    rw [if_neg (by simp [hm])] at hret
    have n1:=there_nn g b.gs.length
    have n2:=there_nn p b.cs.length
    have t1:there g b.gs.length=0:=O
    have t2:there p b.cs.length=0:=O
    have t1:=there_zero.1 t1
    have t2:=there_zero.1 t2
    have hnc:=hb.nc
    have hnp:=hb.np
    have hw:1≤nth k.ws p∧nth k.ws p≤99:=hg.2.2.2 _ (nth_mem t2.1 (by rw [hg.2.1];exact t2.2))
    have hpa:=piece_at (x1:=x1) (x2:=x2) (x3:=x3) (x4:=x4) (y1:=y1) (y2:=y2) (y3:=y3) t2.1 (show p<3 by omega)
    rw [nth_three l2] at hpa
    refine Xz<|Xv<|Xf fun hok=>D5 C 0 hok U U G225 B225 V Tk6<|Dh 0 1 Y A237 U B234<|D5 C 2 hok U U G234 B234 V Tk4<|Dt 3 Y<|Dt 4 Y<|Dh 4 5 Y A237 U B235<|Dp 6 hok (fun _ _ _ A h=>R.indexAddrA C U (A.w U U) (A.x U U) (A.x U U) A235 B3 O O h)<|Db 7 W G3 V hpa ?_;refine Dp 8 hok (fun _ _ _ A h=>R.build C U (A.w U U) (A.p U U) K240 U A240 Kr (Fills.part U U B3 U (.here .nil) (Fills.part U U B3 U (.skip (.here .nil)) .nil)) h)<|De 9 (some 47) [false,false,false] hok (fun _ _ A hk=>?_)
    refine R.perm C.1 (by exact List.perm_middle (l₁:= [_,_]))<|R.call C U (A.w U U) (A.x U U) (A.s U U) (pre:= [_]) U (lifts_c hJ hv' hb t1 (l:=nth k.ws p) O (p:= [x1,x2,x3,x4]) U (kv:= []) (fun x hx=>absurd hx (List.not_mem_nil))) fun w ro2 pre2 hl2 hp2=>hk _ _ ⟨QFs.nil, ?_⟩
    obtain⟨rfl,kv,rfl,hm2⟩:=hp2
    refine Da C 10 hok U U<|Da C 11 hok U U<|Dn<|X.ret C U U func46 U (by exact(.tmp U (.tmp U .nil)))<|Hr hret hl2 ?_
    rw [lifts_four l1];rfl
theorem right1_c{b:Bk}{vp vg vc vt:Value}{ro:RO}(hv:BkP ro b vp vg vc vt)(hb:b.good){p:List Int}(hp4:p.length=4){m:Nat}{kv:KV}(hm:MapOk ro b kv){a2 a3:Nat}{t2 t3:TypeId}{f2 f3:Nat×Nat}
  (h2:ro a2=some (.cells [.int .i64 b.w,vp,vg,vc,vt, .map (some m)].toArray t2 f2)) (h3:ro a3=some (.cells (ints p).toArray t3 f3)) (t:Ts) (htg:0≤t.g∧t.g<b.gs.length) (htl:0≤t.l∧t.l≤99):
  CallV prog J (.func (.func 279) #[] [.pointer (some ⟨a2,0,none⟩), .pointer (some ⟨a3,0,none⟩)].toArray) [t.val] ro [(m,mapO kv)] (fun w ro' pre'=>w= .bool (!(lifts b p t.g t.l==t.held))∧Kept m b ro' pre'):=by
 obtain⟨x1,x2,x3,x4,rfl⟩:∃x1 x2 x3 x4,p= [x1,x2,x3,x4]:=by
  match p,hp4 with
  | [x1,x2,x3,x4],_=>exact⟨_,_,_,_,rfl⟩
 refine CallV.intro (first:= []) (vs:= [_]) (cap:= [_,_]) hJ Kr fun c cs tail hret=>enter_X (n:=16) func279 U U (Nl U) ?_
 have C:Ctx prog main J (bf 279 .normal):=⟨hJ,by decide⟩
 refine Xu W<|Bx Z fun p3=>Ae W<|Xv<|Xf fun hok=>Dl 0 hok (fun _ _ A h=>R.loadAggRo C U (A.w U U) (A.x U U) G225 B225 h2 Tk6 h)<|Dl 1 hok (fun _ _ A h=>R.loadAggRo C U (A.w U U) (A.x U U) G234 B234 h3 Tk4 h)<|Dh 0 2 Y A105 U B3<|Dl 3 hok (fun _ _ A h=>R.loadOne C U (A.w U U) (A.x U U) G3 Vm U h)<|Dh 1 4 Y A105 U B3<|Dl 5 hok (fun _ _ A h=>R.loadOne C U (A.w U U) (A.x U U) G3 Vm U h) ?_;refine Dp 6 hok (fun _ _ _ A h=>R.build C U (A.w U U) (A.p U U) K240 U A240 Kr (Fills.part U U B3 U (.here .nil) (Fills.part U U B3 U (.skip (.here .nil)) .nil)) h)<|Dh 2 8 Y A105 U B4<|Dl 9 hok (fun _ _ A h=>R.loadOne C U (A.w U U) (A.x U U) G4 Vm U h)<|De 7 (some 12) [true,false,false,false,false] hok (fun _ _ A hk=>?_)
 refine R.perm C.1 pm1<|R.call C U (A.w U U) (A.x U U) (A.s U U) (pre:= [_]) U (lifts_c hJ hv hb htg htl hp4 hm) fun w ro1 pre1 hl1 hp1=>hk _ _ ⟨(QFs.cons (QF.of U (fun _ _ A h=>R.loadOne C U (A.w U U) (A.x U U) G4 Vm U h)) QFs.nil), ?_⟩
 obtain⟨rfl,kv1,rfl,hm1⟩:=hp1
 refine Dp 10 hok (fun _ _ _ A h=>R.neBool C U (A.w U U) (A.x U U) (A.x U U) runUnderlying4 h)<|Da C 11 hok U U<|Dn<|Xw func279 ?_
 exact hret _ _ [_] _ hl1 ⟨rfl,kv1,rfl,hm1⟩ (by repeat (first|exact Sr|apply Sk|apply Sc))
theorem indexT_c(hl:Ls Ts.cells 3 ro v l)(hn:l.length≤1000000)(hm:MapOk ro b kv)
  (hf:∀t∈l,∀ro1 kv1,ro.le ro1→MapOk ro1 b kv1→CallV prog J fv [t.val] ro1 [(m,mapO kv1)] (fun w ro' pre'=>w= .bool (p t)∧Kept m b ro' pre')):
  CallV prog J (fnv 314) [v,fv] ro [(m,mapO kv)] (fun w ro' pre'=>w= .int .i64 (findA p l)∧Kept m b ro' pre'):=by
 obtain⟨lb,lc,rfl⟩:=hl.form
 refine CallV.intro (first:= []) (vs:= [_,_]) (cap:= []) hJ Kr fun c cs tail hret=>enter_X (n:=19) func314 U U (Nl U) ?_
 have C:Ctx prog main J (bf 314 .normal):=⟨hJ,by decide⟩
 refine Xo W W<|Xx W<|Ro W<|Rt W A25<|Ro W<|Rz<|Xb<|X.loopI (ι:=Nat×RO×KV) C.1 (fun s=>s.1≤l.length∧ro.le s.2.1∧MapOk s.2.1 b s.2.2∧∀j (h:j<l.length),j<s.1→p l[j]=false) (fun s=> [(0, .slice lb l.length lc),(1,fv),(7, .int .i64 (l.length:Int)),(8, .int .i64 (s.1:Int))])
  (fun s=>⟨s.2.1,(m,mapO s.2.2)::tail⟩) (fun s=>l.length-s.1) (0,ro,kv) ⟨Nat.zero_le _,RO.le_refl _,hm,fun _ _ h=>absurd h (Nat.not_lt_zero _)⟩ rfl ⟨U,U,U,U,trivial⟩ fun s hs hnext=>?_
 obtain⟨i,ro1,kv1⟩:=s
 obtain⟨hi,hle,hm1,hb⟩:=hs
 simp only at hi hle hm1 hb hnext⊢
 refine Xu W<|Ri Z b_lss<|Rz<|Xv<|Xj U (fun hlt=>?_) (fun hlt=>?_)
 ·have hi':i<l.length:=O
  obtain⟨pp,off,cap,ll,t,fq,hsl,hrop,hsub⟩:=hl.at Ts.len O
  cases hsl
  refine Xz<|Xv<|Xb<|Xm W W<|Ae W<|Xm W W<|Oo W W<|Ry Y A25 B105<|La Y G105 B105 (hle _ _ hrop) (hsub i hi')<|R.call C U U U U (pre:= [_]) (tail:=tail) U (hf _ (List.getElem_mem hi') ro1 kv1 hle hm1) fun w ro2 pre2 hl2 hp2=>?_
  obtain⟨rfl,kv2,rfl,hm2⟩:=hp2
  refine Zc U (fun hr=>?_) (fun hr=>?_)
  ·refine Xm W W<|Ae W<|Xw func314<|hret _ _ [_] _ (RO.le_trans hle hl2) ⟨?_,kv2,rfl,hm2⟩ Vs
   rw [findA_hit hi' hr hb];rfl
  ·refine Xz<|Xi<|Xg W<|Rb Y<|Ro W<|Rz<|X.weaken ?_ (hnext (i+1,ro2,kv2) ⟨hi',RO.le_trans hle hl2,hm2,fun j hj hji=>?_⟩ (by simp only;omega))
   ·exact⟨rfl,rfl,rfl,by simp [look],trivial⟩
   ·by_cases e:j=i
    ·subst e;exact hr
    ·exact hb j hj O
 ·obtain rfl:i=l.length:=by omega
  refine Xe U<|Xo W W<|Xw func314<|hret _ _ [_] _ hle ⟨?_,kv1,rfl,hm1⟩ Vs
  rw [findA_miss (fun j hj=>hb j hj hj)];rfl
theorem containsT_c(hl:Ls Ts.cells 3 ro v l)(hn:l.length≤1000000)(hm:MapOk ro b kv)
  (hf:∀t∈l,∀ro1 kv1,ro.le ro1→MapOk ro1 b kv1→CallV prog J fv [t.val] ro1 [(m,mapO kv1)] (fun w ro' pre'=>w= .bool (p t)∧Kept m b ro' pre')):
  CallV prog J (fnv 278) [v,fv] ro [(m,mapO kv)] (fun w ro' pre'=>w= .bool (l.any p)∧Kept m b ro' pre'):=by
 refine CallV.intro (first:= []) (vs:= [_,_]) (cap:= []) hJ Kr fun c cs tail hret=>enter_X (n:=9) func278 U U (Nl U) ?_
 have C:Ctx prog main J (bf 278 .normal):=⟨hJ,by decide⟩
 refine Xo W W<|Xm W W<|Ro W<|R.call C U U U U (pre:= [_]) (tail:=tail) U (indexT_c hJ hl hn hm hf) fun w ro2 pre2 hl2 hp2=>?_
 obtain⟨rfl,kv2,rfl,hm2⟩:=hp2
 refine Ri Z b_geq<|Ae W<|Xw func278<|hret _ _ [_] _ hl2 ⟨?_,kv2,rfl,hm2⟩ Vs
 simp only [retVal, ←findA_any]
theorem right_c{b:Bk}{vp vg vc vt:Value}{ro:RO}(hv:BkP ro b vp vg vc vt)(hb:b.good){p:List Int}(hp4:p.length=4){m:Nat}{kv:KV}(hm:MapOk ro b kv):
  CallV prog J (fnv 213) [.agg [.int .i64 b.w,vp,vg,vc,vt, .map (some m)].toArray, .agg (ints p).toArray] ro [(m,mapO kv)] (fun w ro' pre'=>w= .bool (right b p)∧Kept m b ro' pre'):=by
 have hvv:=hv
 obtain⟨_,_,rfl⟩:=hv.1.form
 obtain⟨_,_,rfl⟩:=hv.2.1.form
 obtain⟨_,_,rfl⟩:=hv.2.2.1.form
 obtain⟨_,_,rfl⟩:=hv.2.2.2.form
 obtain⟨x1,x2,x3,x4,rfl⟩:∃x1 x2 x3 x4,p= [x1,x2,x3,x4]:=by
  match p,hp4 with
  | [x1,x2,x3,x4],_=>exact⟨_,_,_,_,rfl⟩
 refine CallV.intro (first:= []) (vs:= [_,_]) (cap:= []) hJ Kr fun c cs tail hret=>enter_X (n:=12) func213 U U (Nl U) ?_
 have C:Ctx prog main J (bf 213 .normal):=⟨hJ,by decide⟩
 refine Xu W<|Bx Z fun p2=>Bx Z fun p3=>Ae W<|Xu W<|Rv 0 W A225 U B222<|Rv 0 W A222 U B27<|Rv 4 W A27 U B25<|Rj W G25 V U<|R.makeFunc C U U U U<|R.persist C.1 fun ro1 hl1 h3=>R.persist C.1 fun ro2 hl2 h2=>?_
 have hl:=RO.le_trans hl1 hl2
 have hr1:∀t∈b.ts,∀ro3 kv3,ro2.le ro3→MapOk ro3 b kv3→CallV prog J (.func (.func 279) #[] [.pointer (some ⟨p2,0,none⟩), .pointer (some ⟨p3,0,none⟩)].toArray) [t.val] ro3 [(m,mapO kv3)] (fun w ro' pre'=>w= .bool (!(lifts b [x1,x2,x3,x4] t.g t.l==t.held))∧Kept m b ro' pre'):=by
  intro t ht ro3 kv3 hl3 hm3
  have hts:=hb.ts t ht
  have k2:=hl3 _ _ h2
  have k3:=hl3 _ _ (hl2 _ _ h3)
  exact right1_c hJ ((hvv.mono hl).mono hl3) hb hp4 hm3 k2 k3 t hts.1 O
 have hcall:=containsT_c hJ (hvv.2.2.2.mono hl) hb.short_t (hm.mono hl) hr1
 refine R.call C U U U U (pre:= [_]) (tail:=tail) U hcall fun w ro3 pre3 hl3 hp3=>?_
 obtain⟨rfl,kv3,rfl,hm3⟩:=hp3
 refine Rh Y<|Ae W<|Xw func213<|hret _ _ [_] _ (RO.le_trans hl hl3) ⟨?_,kv3,rfl,hm3⟩ Vs
 simp only [retVal,right,List.not_any_eq_all_not,Bool.not_not]
end Go.Lg.B
set_option maxRecDepth 100000
namespace Go.Lg.B
open Go Go.Conc Go.Lg Go.Proofs Go.Proofs.Tryz
variable {a2 a3 a4 a6 i k m n:Nat}{l pn wn:List Int}{items:List (List Value)}{b:Bk}{v vc vg vp vt yv:Value}{ro0:RO}{t2 t3 t6:TypeId}{f2 f3 f6:Nat×Nat}
theorem put_set:∀ (l:List Value) (k:Nat) (v:Value),k<l.length→Put k [v] l (l.set k v)
 |_::_,0,_,_=> .here .nil
 |_::l,k+1,v,h=> .skip (put_set l k v (by simpa using h))
theorem sub_all{l:List Value}(h:l.length=n):Sub 0 n l l:=by
 have:=Sub.front l []
 rwa [List.append_nil,h] at this
theorem ints_append(a c:List Int):ints (a++c)=ints a++ints c:=by simp [ints]
theorem ints_len(a:List Int):(ints a).length=a.length:=by simp [ints]
theorem put_piece{n:Int}(h4:pn.length=4)(hi:i<wn.length):Put (4+((i:Int)).toNat*1) [.int .i64 n] (ints (pn++wn)) (ints (pn++wn.set i n)):=by
 have h:=put_set (ints (pn++wn)) (4+i) (.int .i64 n) (by simp [ints];omega)
 have e:(ints (pn++wn)).set (4+i) (.int .i64 n)=ints (pn++wn.set i n):=by
  rw [ints_append,ints_append,List.set_append,if_neg (by rw [ints_len];omega),ints_len,h4,Nat.add_sub_cancel_left]
  simp [ints]
 rw [e] at h
 simpa using h
theorem put_part{n:Int}(hi:i<pn.length):Put (0+((i:Int)).toNat*1) [.int .i64 n] (ints (pn++wn)) (ints (pn.set i n++wn)):=by
 have h:=put_set (ints (pn++wn)) i (.int .i64 n) (by simp [ints];omega)
 have e:(ints (pn++wn)).set i (.int .i64 n)=ints (pn.set i n++wn):=by
  rw [ints_append,ints_append,List.set_append,if_pos (by rw [ints_len];omega)]
  simp [ints]
 rw [e] at h
 simpa using h
theorem take_set(n:Int)(h:i<l.length):(l.set i n).take (i+1)=l.take i++ [n]:=by
 rw [List.take_succ_eq_append_getElem (by simpa using h),List.take_set_of_le (Nat.le_refl i)]
 simp
theorem take_take_succ:(l.take (i+1)).take i=l.take i:=by rw [List.take_take,Nat.min_eq_left (Nat.le_succ i)]
theorem pad_take(h:l.length=k)(hn:n≤k)(hz:l.drop n=List.replicate (k-n) 0):pad k (l.take n)=l:=by
 have h1:(l.take n).length=n:=by simp;omega
 rw [pad,h1, ←hz,List.take_append_drop]
theorem spread_map_cons(r:Rc)(rs:List Rc){β:Type}(g:List Int→β):(spread (r::rs)).map g=r.nums.flatMap fun n=>(spread rs).map fun s=>g (n::s):=by
 simp only [spread,List.map_flatMap,List.map_map,Function.comp_def]
abbrev TB(a:Nat)(pn wn:List Int):Nat×Obj:=(a, .cells (ints (pn++wn)).toArray 237 (0,0))
def pieceV(a2 a3 a4 a6:Nat):Value:= .func (.func 214) #[] [.pointer (some ⟨a2,0,none⟩), .pointer (some ⟨a3,0,none⟩), .pointer (some ⟨a4,0,none⟩), .pointer (some ⟨a6,0,none⟩)].toArray
def partV(a2 a4 a6 a5:Nat):Value:= .func (.func 212) #[] [.pointer (some ⟨a2,0,none⟩), .pointer (some ⟨a4,0,none⟩), .pointer (some ⟨a6,0,none⟩), .pointer (some ⟨a5,0,none⟩)].toArray
theorem seg_at{t:Tn}(h:Seg items k [t] Tn.val):∃hk:k<items.length,items[k]= [t.val]:=by
 have h0:items[k]? =some [t.val]:=by simpa using h 0 Zi
 have hk:=(List.getElem?_eq_some_iff.1 h0).1
 rw [List.getElem?_eq_getElem hk] at h0
 exact⟨hk,Option.some.inj h0⟩
variable {main:Bool}{J:Goroutine→Mem→Prop}(hJ:Closed prog main J)
include hJ
theorem piece_c(hv:BkP ro0 b vp vg vc vt)(hb:b.good)(h2:ro0 a2=some (.cells [.int .i64 b.w,vp,vg,vc,vt, .map (some m)].toArray t2 f2))(h3:ro0 a3=some (.cells [yv].toArray t3 f3))
  (h6:ro0 a6=some (.cells [pieceV a2 a3 a4 a6].toArray t6 f6)) (I:Nat→RO→List (Nat×Obj)→Prop) (E:RO→List (Nat×Obj)→Prop)
  (hy:∀k (hk:k<items.length) ro1 p1,ro0.le ro1→I k ro1 p1→CallV prog J yv items[k] ro1 p1 fun v ro' p'=>(v= .bool true∧I (k+1) ro' p')∨(v= .bool false∧E ro' p')) {P:List Int} (hP:P.length≤4):
  ∀ (mm i:Nat) (wn:List Int) (ro1:RO) (p1:List (Nat×Obj)) (k:Nat),i+mm=b.cs.length→ro0.le ro1→I k ro1 p1→wn.length=3→wn.drop b.cs.length=List.replicate (3-b.cs.length) 0→
   Seg items k ((spread ((b.cs.drop i).map Pc.r)).map fun s=>((P,wn.take i++s):Tn)) Tn.val→
   CallV prog J (pieceV a2 a3 a4 a6) [.int .i64 (i:Int)] ro1 (TB a4 (pad 4 P) wn::p1) fun v ro' p'=>∃wn' q',p'=TB a4 (pad 4 P) wn'::q'∧wn'.length=3∧wn'.take i=wn.take i∧wn'.drop b.cs.length=wn.drop b.cs.length∧
    ((v= .bool true∧I (k+(spread ((b.cs.drop i).map Pc.r)).length) ro' q')∨(v= .bool false∧E ro' q')):=by
 have hnc:=hb.nc
 have hp4:(pad 4 P).length=4:=pad_len hP
 intro mm
 induction mm with
 |zero=>
  intro i wn ro1 p1 k hi hle hI hwl hwz hseg
  obtain rfl:i=b.cs.length:=by omega
  rw [List.drop_length] at hseg⊢
  simp only [List.map_nil,spread,List.map_cons,List.append_nil,List.length_cons,List.length_nil] at hseg⊢
  obtain⟨hk,hki⟩:=seg_at hseg
  have hyk:=hy k hk ro1 p1 hle hI
  have hval:Tn.val (P,wn.take b.cs.length)= .agg (ints (pad 4 P++wn)).toArray:=by
   simp only [Tn.val,Tn.cells,Tn.nums,pad_take hwl O hwz]
  rw [hki,hval] at hyk
  obtain⟨cb,cc,rfl⟩:=hv.2.2.1.form
  refine CallV.intro (first:= []) (vs:= [_]) (cap:= [_,_,_,_]) hJ Kr fun c cs tail hret=>enter_X (n:=49) func214 U U (Nl U) ?_
  have C:Ctx prog main J (bf 214 .normal):=⟨hJ,by decide⟩
  refine Xo W W<|Xx W<|Ro W<|R.fieldAddr C U U U A225 U B222 U<|R.fieldAddr C U U U A222 U B27 U<|R.fieldAddr C U U U A27 U B24 U<|Lo Y G24 (hle _ _ h2) U<|Rt W A24<|Ri Z b_eql<|Zc U (fun he=>?_) (fun he=>?_)
  ·refine Xu W<|Lo Y isAgg340 (hle _ _ h3) U<|Rq W G237 B237 V (sub_all (by rw [ints_len,List.length_append,hp4,hwl]))<|R.perm C.1 List.perm_middle.symm<|R.call C U U U U (pre:=p1) (tail:=_::tail) U hyk fun v ro' pre' hle' hp=>R.perm C.1 List.perm_middle<|Ae W<|Xw func214<|hret _ _ (_::pre') _ hle' ⟨wn,pre',rfl,hwl,rfl,rfl, ?_⟩ (by exact List.Sublist.refl _)
   rcases hp with⟨rfl,h⟩|⟨rfl,h⟩
   ·exact .inl ⟨rfl,h⟩
   ·exact .inr ⟨rfl,h⟩
  ·simp at he
 |succ mm ih=>
  intro i wn ro1 p1 k hi hle hI hwl hwz hseg
  have hi':i<b.cs.length:=O
  obtain⟨p,off,cap,l,t,fq,rfl,hrop,hsub⟩:=hv.2.2.1.at Pc.len O
  have hfine:=hb.cs _ (List.getElem_mem hi')
  have hsi:=hsub i hi'
  have hdr:b.cs.drop i=b.cs[i]::b.cs.drop (i+1):=List.drop_eq_getElem_cons hi'
  rw [hdr] at hseg⊢
  generalize b.cs[i]=q at hfine hsi hseg hdr
  have hfine:1≤q.r.lo∧q.r.lo≤q.r.hi∧q.r.hi≤99∧q.r.hi-q.r.lo<3:=hfine
  have hlo:l[off+i*3+1]? =some (.int .i64 q.r.lo):=hsi.get 1 Dd
  have hhi:l[off+i*3+2]? =some (.int .i64 q.r.hi):=hsi.get 2 Dd
  rw [List.map_cons,spread_map_cons] at hseg
  have hall:(spread ((q::b.cs.drop (i+1)).map Pc.r)).length=((rz q.r.lo (q.r.hi+1-q.r.lo).toNat).flatMap fun n=>(spread ((b.cs.drop (i+1)).map Pc.r)).map fun s=>((P,wn.take i++n::s):Tn)).length:=by
   rw [←List.length_map (f:=fun s=>((P,wn.take i++s):Tn)),List.map_cons,spread_map_cons];rfl
  rw [hall]
  refine CallV.intro (first:= []) (vs:= [_]) (cap:= [_,_,_,_]) hJ Kr fun c cs tail hret=>enter_X (n:=49) func214 U U (Nl U) ?_
  have C:Ctx prog main J (bf 214 .normal):=⟨hJ,by decide⟩
  refine Xo W W<|Xx W<|Ro W<|R.fieldAddr C U U U A225 U B222 U<|R.fieldAddr C U U U A222 U B27 U<|R.fieldAddr C U U U A27 U B24 U<|Lo Y G24 (hle _ _ h2) U<|Rt W A24<|Ri Z b_eql<|Zc U (fun he=>?_) (fun he=>?_)
  ·simp at he;omega
  ·refine Xz<|Xx W<|R.fieldAddr C U U U A225 U B222 U<|R.fieldAddr C U U U A222 U B27 U<|R.fieldAddr C U U U A27 U B24 U<|Lo Y G24 (hle _ _ h2) U<|Ro W<|Ry Y A24 B251<|R.fieldAddr C U U U A251 U B45 U<|R.fieldAddr C U U U A45 U B3 U<|Lo Y G3 (hle _ _ hrop) hlo<|Ae W<|Xb ?_
   refine X.loopI (ι:=Int×Nat×List Int×List (Nat×Obj)×RO×Nat) C.1 (fun s=>s.1+s.2.1=q.r.hi+1∧1≤s.1∧s.2.2.1.length=3∧s.2.2.1.take i=wn.take i∧s.2.2.1.drop b.cs.length=wn.drop b.cs.length∧ro1.le s.2.2.2.2.1∧I s.2.2.2.2.2 s.2.2.2.2.1 s.2.2.2.1∧
     Seg items s.2.2.2.2.2 ((rz s.1 s.2.1).flatMap fun n=>(spread ((b.cs.drop (i+1)).map Pc.r)).map fun s=>((P,wn.take i++n::s):Tn)) Tn.val∧
     s.2.2.2.2.2+((rz s.1 s.2.1).flatMap fun n=>(spread ((b.cs.drop (i+1)).map Pc.r)).map fun s=>((P,wn.take i++n::s):Tn)).length=k+((rz q.r.lo (q.r.hi+1-q.r.lo).toNat).flatMap fun n=>(spread ((b.cs.drop (i+1)).map Pc.r)).map fun s=>((P,wn.take i++n::s):Tn)).length)
    (fun s=> [(0, .int .i64 (i:Int)),(1, .pointer (some ⟨a2,0,none⟩)),(2, .pointer (some ⟨a3,0,none⟩)),(3, .pointer (some ⟨a4,0,none⟩)),(4, .pointer (some ⟨a6,0,none⟩)),(7, .int .i64 s.1)])
    (fun s=>⟨s.2.2.2.2.1,TB a4 (pad 4 P) s.2.2.1::(s.2.2.2.1++tail)⟩) (fun s=>s.2.1) (q.r.lo,(q.r.hi+1-q.r.lo).toNat,wn,p1,ro1,k)
    ⟨by simp only;omega,hfine.1,hwl,rfl,rfl,RO.le_refl _,hI,hseg,rfl⟩ rfl ⟨U,U,U,U,U,U,trivial⟩ fun s hs hnext=>?_
   obtain⟨n,m2,w2,q2,roc,kc⟩:=s
   obtain⟨g1,g0,gl,gt,gd,gle,gI,gseg,glen⟩:=hs
   simp only at g1 g0 gl gt gd gle gI gseg glen hnext⊢
   refine Xx W<|Ro W<|R.fieldAddr C U U U A225 U B222 U<|R.fieldAddr C U U U A222 U B27 U<|R.fieldAddr C U U U A27 U B24 U<|Lo Y G24 (gle _ _ (hle _ _ h2)) U<|Ro W<|Ry Y A24 B251<|R.fieldAddr C U U U A251 U B45 U<|R.fieldAddr C U U U A45 U B3 U<|Lo Y G3 (gle _ _ (hle _ _ hrop)) hhi<|Ri Z b_leq<|Zj U (fun hlt=>?_) (fun hlt=>?_)
   ·obtain⟨m',rfl⟩:∃m',m2=m'+1:=⟨m2-1,O⟩
    simp only [rz,List.flatMap_cons] at gseg glen
    obtain⟨hs1,hs2⟩:=gseg.split
    rw [List.length_append,List.length_map] at glen
    rw [List.length_map] at hs2
    have htk:(w2.set i n).take (i+1)=wn.take i++ [n]:=by rw [take_set n O,gt]
    have hrec:=ih (i+1) (w2.set i n) roc q2 kc O (RO.le_trans hle gle) gI (by simpa using gl) (by rw [List.drop_set_of_lt O,gd,hwz]) (by
     rw [htk];simpa only [List.append_assoc,List.cons_append,List.nil_append] using hs1)
    refine Xz<|Xv<|Xb<|Xm W W<|Ro W<|Rv 4 W A237 U B235<|R.indexAddrA C U U U U A235 B3 O O<|Rs Z B3 Y V (put_piece hp4 O)<|Rz<|Xu W<|Lo Y isAgg188 (gle _ _ (hle _ _ h6)) U<|Ro W<|Rb Y<|R.call C U U U U (pre:=TB a4 (pad 4 P) (w2.set i n)::q2) (tail:=tail) U hrec fun v ro' pre' hle' hp=>?_
    obtain⟨w3,q3,rfl,h3l,h3t,h3d,hp⟩:=hp
    have h3t':w3.take i=wn.take i:=by
     have:=congrArg (List.take i) h3t
     rw [take_take_succ,htk,List.take_append_of_le_length Zo,List.take_take,Nat.min_self] at this
     exact this
    have h3d':w3.drop b.cs.length=wn.drop b.cs.length:=by rw [h3d,List.drop_set_of_lt O,gd]
    rcases hp with⟨rfl,hI2⟩|⟨rfl,hE⟩
    ·
     refine Rh Y<|FF 48 U U<|Zc U (fun h=>nomatch h) (fun _=>?_)
     refine Xz<|Xi<|Xg W<|Ro W<|Rb Y<|Ae W<|X.weaken ?_ (hnext (n+1,m',w3,q3,ro',kc+(spread ((b.cs.drop (i+1)).map Pc.r)).length) ⟨?_, ?_,h3l,h3t',h3d',RO.le_trans gle hle',hI2,hs2, ?_⟩ (Nat.lt_succ_self _))
     ·exact⟨rfl,rfl,rfl,rfl,rfl,by simp [look],trivial⟩
     ·simp only;omega
     ·simp only;omega
     ·simp only;omega
    ·
     refine Rh Y<|FT 48 U U<|Zc U (fun _=>?_) (fun h=>nomatch h)
     refine Xo W W<|Xw func214 ?_
     exact hret _ _ (_::q3) _ (RO.le_trans gle hle') ⟨w3,q3,rfl,h3l,h3t',h3d', .inr ⟨rfl,hE⟩⟩ (List.Sublist.refl _)
   ·obtain rfl:m2=0:=by omega
    simp only [rz,List.flatMap_nil,List.length_nil,Nat.add_zero] at glen
    refine Xe U<|Xo W W<|Xw func214 ?_
    exact hret _ _ (_::q2) _ gle ⟨w2,q2,rfl,gl,gt,gd, .inl ⟨rfl,by rw [←glen];exact gI⟩⟩ (List.Sublist.refl _)
def leaf(b:Bk)(p:List Int):List Tn:=if right b p then(weightsL b).map fun w=>(p,w) else []
omit hJ in
theorem cases_leaf(b:Bk):cases b=(spread (b.ps.map Pt.r)).flatMap (leaf b):=by
 unfold cases bearsL leaf
 generalize spread (b.ps.map Pt.r)=L
 induction L with
 |nil=>rfl
 |cons x L ih=>
  rw [List.flatMap_cons,List.filter_cons]
  split
  ·rw [List.flatMap_cons,ih]
  ·rw [ih];rfl
theorem part_c(hv:BkP ro0 b vp vg vc vt)(hb:b.good){a5:Nat}{t5:TypeId}{f5:Nat×Nat}(h2:ro0 a2=some (.cells [.int .i64 b.w,vp,vg,vc,vt, .map (some m)].toArray t2 f2))(h3:ro0 a3=some (.cells [yv].toArray t3 f3))
  (h5:ro0 a5=some (.cells [partV a2 a4 a6 a5].toArray t5 f5)) (h6:ro0 a6=some (.cells [pieceV a2 a3 a4 a6].toArray t6 f6)) (I:Nat→RO→List (Nat×Obj)→Prop) (E:RO→List (Nat×Obj)→Prop) (hmono:∀k r r' q,r.le r'→I k r q→I k r' q)
  (hy:∀k (hk:k<items.length) ro1 p1,ro0.le ro1→I k ro1 p1→CallV prog J yv items[k] ro1 p1 fun v ro' p'=>(v= .bool true∧I (k+1) ro' p')∨(v= .bool false∧E ro' p')):
  ∀ (mm i:Nat) (pn wn:List Int) (kv:KV) (ro1:RO) (p1:List (Nat×Obj)) (k:Nat),i+mm=b.ps.length→ro0.le ro1→MapOk ro1 b kv→I k ro1 p1→pn.length=4→pn.drop b.ps.length=List.replicate (4-b.ps.length) 0→wn.length=3→wn.drop b.cs.length=List.replicate (3-b.cs.length) 0→
   Seg items k ((spread ((b.ps.drop i).map Pt.r)).flatMap fun s=>leaf b (pn.take i++s)) Tn.val→
   CallV prog J (partV a2 a4 a6 a5) [.int .i64 (i:Int)] ro1 (TB a4 pn wn::(m,mapO kv)::p1) fun v ro' p'=>∃pn' wn' kv' q',p'=TB a4 pn' wn'::(m,mapO kv')::q'∧MapOk ro' b kv'∧pn'.length=4∧pn'.take i=pn.take i∧pn'.drop b.ps.length=pn.drop b.ps.length∧wn'.length=3∧wn'.drop b.cs.length=wn.drop b.cs.length∧
    ((v= .bool true∧I (k+((spread ((b.ps.drop i).map Pt.r)).flatMap fun s=>leaf b (pn.take i++s)).length) ro' q')∨(v= .bool false∧E ro' q')):=by
 have hnp:=hb.np
 have hnc:=hb.nc
 intro mm
 induction mm with
 |zero=>
  intro i pn wn kv ro1 p1 k hi hle hmk hI hpl hpz hwl hwz hseg
  obtain rfl:i=b.ps.length:=by omega
  rw [List.drop_length] at hseg⊢
  simp only [List.map_nil,spread,List.flatMap_cons,List.flatMap_nil,List.append_nil] at hseg⊢
  have hpp:pad 4 (pn.take b.ps.length)=pn:=pad_take hpl O hpz
  have hrc:=right_c hJ (hv.mono hle) hb hpl hmk (m:=m)
  have hrb:right b pn=right b (pn.take b.ps.length):=by rw [←right_pad b 4 (pn.take b.ps.length),hpp]
  have hPl:(pn.take b.ps.length).length≤4:=by simp;omega
  rw [hrb] at hrc
  obtain⟨pb,pc,hpf⟩:=hv.1.form
  have hv':=hv
  obtain⟨_,_,rfl⟩:=hv.1.form
  obtain⟨_,_,rfl⟩:=hv.2.1.form
  obtain⟨_,_,rfl⟩:=hv.2.2.1.form
  obtain⟨_,_,rfl⟩:=hv.2.2.2.form
  refine CallV.intro (first:= []) (vs:= [_]) (cap:= [_,_,_,_]) hJ Kr fun c cs tail hret=>enter_X (n:=55) F212 U U (Nl U) ?_
  have C:Ctx prog main J (bf 212 .normal):=⟨hJ,by decide⟩
  refine Xo W W<|Xx W<|Ro W<|R.fieldAddr C U U U A225 U B222 U<|R.fieldAddr C U U U A222 U B27 U<|R.fieldAddr C U U U A27 U B22 U<|Lo Y G22 (hle _ _ h2) U<|Rt W A22<|Ri Z b_eql<|Zc U (fun he=>?_) (fun he=>?_)
  ·refine Xu W<|La Y G225 B225 (hle _ _ h2) Tk6<|Rv 0 W A237 U B234<|R.loadAgg C U U U G234 B234 V (by have:=Sub.front (ints pn) (ints wn);rw [←ints_append,ints_len,hpl] at this;exact this)<|R.perm C.1 pm1<|R.call C U U U U (pre:= [_]) (tail:=_::(p1++tail)) U hrc fun v ro2 pre2 hle2 hp2=>?_
   obtain⟨rfl,kv2,rfl,hm2⟩:=hp2
   refine Rh Y<|Ro W<|R.fix (t:=20) U (fun hr=>?_) (fun hr=>?_)
   ·have hr:right b (pn.take b.ps.length)=false:=by simpa using hr
    refine Rp W<|Rp W<|Pp Z<|Ae W<|X.perm C.1 (by exact pm1)<|Xw F212<|hret _ _ (_::_::p1) _ hle2 ⟨pn,wn,kv2,p1,rfl,hm2,hpl,rfl,rfl,hwl,rfl, .inl ⟨rfl, ?_⟩⟩ (List.Sublist.refl _)
    rw [leaf,if_neg (by simp [hr])]
    exact hmono _ _ _ _ hle2 hI
   ·have hr:right b (pn.take b.ps.length)=true:=by simpa using hr
    have hseg2:Seg items k ((weightsL b).map fun s=>((pn.take b.ps.length,wn.take 0++s):Tn)) Tn.val:=by
     rw [leaf,if_pos hr] at hseg;simpa using hseg
    have hlen:(leaf b (pn.take b.ps.length)).length=(weightsL b).length:=by rw [leaf,if_pos hr,List.length_map]
    have hpc:=piece_c hJ hv' hb h2 h3 h6 I E hy hPl b.cs.length 0 wn ro2 p1 k O (RO.le_trans hle hle2) (hmono _ _ _ _ hle2 hI) hwl hwz hseg2
    rw [hpp] at hpc
    refine Lo Y isAgg188 (hle2 _ _ (hle _ _ h6)) U<|R.perm C.1 (by exact(List.Perm.swap _ _ _).trans (List.Perm.cons _ List.perm_middle.symm))<|R.call C U U U U (pre:=_::p1) (tail:=_::tail) U hpc fun v ro3 pre3 hle3 hp3=>?_
    obtain⟨w3,q3,rfl,h3l,_,h3d,hp3⟩:=hp3
    refine R.perm C.1 (by exact List.Perm.cons _ List.perm_middle) ?_
    rcases hp3 with⟨rfl,hI3⟩|⟨rfl,hE3⟩
    ·
     refine Pf Z<|Ae W<|Xw F212<|hret _ _ (_::_::q3) _ (RO.le_trans hle2 hle3) ⟨pn,w3,kv2,q3,rfl,hm2.mono hle3,hpl,rfl,rfl,h3l,h3d, .inl ⟨rfl, ?_⟩⟩ (List.Sublist.refl _)
     rw [hlen];exact hI3
    ·
     refine Pf Z<|Ae W<|Xw F212 ?_
     exact hret _ _ (_::_::q3) _ (RO.le_trans hle2 hle3) ⟨pn,w3,kv2,q3,rfl,hm2.mono hle3,hpl,rfl,rfl,h3l,h3d, .inr ⟨rfl,hE3⟩⟩ (List.Sublist.refl _)
  ·simp at he
 |succ mm ih=>
  intro i pn wn kv ro1 p1 k hi hle hmk hI hpl hpz hwl hwz hseg
  have hi':i<b.ps.length:=O
  obtain⟨p,off,cap,l,t,fq,rfl,hrop,hsub⟩:=hv.1.at Pt.len O
  have hfine:=hb.ps _ (List.getElem_mem hi')
  have hsi:=hsub i hi'
  have hdr:b.ps.drop i=b.ps[i]::b.ps.drop (i+1):=List.drop_eq_getElem_cons hi'
  rw [hdr] at hseg⊢
  generalize b.ps[i]=q at hfine hsi hseg hdr
  have hfine:0≤q.r.lo∧q.r.lo≤q.r.hi∧q.r.hi≤99∧q.r.hi-q.r.lo<3:=hfine.2
  have hlo:l[off+i*4+2]? =some (.int .i64 q.r.lo):=hsi.get 2 Dd
  have hhi:l[off+i*4+3]? =some (.int .i64 q.r.hi):=hsi.get 3 Dd
  have hsp:((spread ((q::b.ps.drop (i+1)).map Pt.r)).flatMap fun s=>leaf b (pn.take i++s))=(rz q.r.lo (q.r.hi+1-q.r.lo).toNat).flatMap fun n=>(spread ((b.ps.drop (i+1)).map Pt.r)).flatMap fun s=>leaf b (pn.take i++n::s):=by
   simp only [List.map_cons,spread,Rc.nums,List.flatMap_assoc,List.flatMap_map]
  rw [hsp] at hseg⊢
  refine CallV.intro (first:= []) (vs:= [_]) (cap:= [_,_,_,_]) hJ Kr fun c cs tail hret=>enter_X (n:=55) F212 U U (Nl U) ?_
  have C:Ctx prog main J (bf 212 .normal):=⟨hJ,by decide⟩
  refine Xo W W<|Xx W<|Ro W<|R.fieldAddr C U U U A225 U B222 U<|R.fieldAddr C U U U A222 U B27 U<|R.fieldAddr C U U U A27 U B22 U<|Lo Y G22 (hle _ _ h2) U<|Rt W A22<|Ri Z b_eql<|Zc U (fun he=>?_) (fun he=>?_)
  ·simp at he;omega
  ·refine Xz<|Xx W<|R.fieldAddr C U U U A225 U B222 U<|R.fieldAddr C U U U A222 U B27 U<|R.fieldAddr C U U U A27 U B22 U<|Lo Y G22 (hle _ _ h2) U<|Ro W<|Ry Y A22 B169<|R.fieldAddr C U U U A169 U B45 U<|R.fieldAddr C U U U A45 U B3 U<|Lo Y G3 (hle _ _ hrop) hlo<|Ae W<|Xb ?_
   refine X.loopI (ι:=Int×Nat×(List Int×List Int×KV)×List (Nat×Obj)×RO×Nat) C.1 (fun s=>s.1+s.2.1=q.r.hi+1∧0≤s.1∧(s.2.2.1.1.length=4∧s.2.2.1.1.take i=pn.take i∧s.2.2.1.1.drop b.ps.length=pn.drop b.ps.length)∧(s.2.2.1.2.1.length=3∧s.2.2.1.2.1.drop b.cs.length=wn.drop b.cs.length)∧MapOk s.2.2.2.2.1 b s.2.2.1.2.2∧ro1.le s.2.2.2.2.1∧I s.2.2.2.2.2 s.2.2.2.2.1 s.2.2.2.1∧
     Seg items s.2.2.2.2.2 ((rz s.1 s.2.1).flatMap fun n=>(spread ((b.ps.drop (i+1)).map Pt.r)).flatMap fun s=>leaf b (pn.take i++n::s)) Tn.val∧
     s.2.2.2.2.2+((rz s.1 s.2.1).flatMap fun n=>(spread ((b.ps.drop (i+1)).map Pt.r)).flatMap fun s=>leaf b (pn.take i++n::s)).length=k+((rz q.r.lo (q.r.hi+1-q.r.lo).toNat).flatMap fun n=>(spread ((b.ps.drop (i+1)).map Pt.r)).flatMap fun s=>leaf b (pn.take i++n::s)).length)
    (fun s=> [(0, .int .i64 (i:Int)),(1, .pointer (some ⟨a2,0,none⟩)),(2, .pointer (some ⟨a4,0,none⟩)),(3, .pointer (some ⟨a6,0,none⟩)),(4, .pointer (some ⟨a5,0,none⟩)),(7, .int .i64 s.1)])
    (fun s=>⟨s.2.2.2.2.1,TB a4 s.2.2.1.1 s.2.2.1.2.1::(m,mapO s.2.2.1.2.2)::(s.2.2.2.1++tail)⟩) (fun s=>s.2.1) (q.r.lo,(q.r.hi+1-q.r.lo).toNat,(pn,wn,kv),p1,ro1,k)
    ⟨by simp only;omega,hfine.1,⟨hpl,rfl,rfl⟩,⟨hwl,rfl⟩,hmk,RO.le_refl _,hI,hseg,rfl⟩ rfl ⟨U,U,U,U,U,U,trivial⟩ fun s hs hnext=>?_
   obtain⟨n,m2,⟨pn2,w2,kv2⟩,q2,roc,kc⟩:=s
   obtain⟨g1,g0,⟨gl,gt,gd⟩,⟨gwl,gwd⟩,gm,gle,gI,gseg,glen⟩:=hs
   simp only at g1 g0 gl gt gd gwl gwd gm gle gI gseg glen hnext⊢
   refine Xx W<|Ro W<|R.fieldAddr C U U U A225 U B222 U<|R.fieldAddr C U U U A222 U B27 U<|R.fieldAddr C U U U A27 U B22 U<|Lo Y G22 (gle _ _ (hle _ _ h2)) U<|Ro W<|Ry Y A22 B169<|R.fieldAddr C U U U A169 U B45 U<|R.fieldAddr C U U U A45 U B3 U<|Lo Y G3 (gle _ _ (hle _ _ hrop)) hhi<|Ri Z b_leq<|Zj U (fun hlt=>?_) (fun hlt=>?_)
   ·obtain⟨m',rfl⟩:∃m',m2=m'+1:=⟨m2-1,O⟩
    simp only [rz,List.flatMap_cons] at gseg glen
    obtain⟨hs1,hs2⟩:=gseg.split
    rw [List.length_append] at glen
    have htk:(pn2.set i n).take (i+1)=pn.take i++ [n]:=by rw [take_set n O,gt]
    have hrec:=ih (i+1) (pn2.set i n) w2 kv2 roc q2 kc O (RO.le_trans hle gle) gm gI (by simpa using gl) (by rw [List.drop_set_of_lt O,gd,hpz]) gwl (by rw [gwd,hwz]) (by
     rw [htk];simpa only [List.append_assoc,List.cons_append,List.nil_append] using hs1)
    rw [htk] at hrec
    simp only [List.append_assoc,List.cons_append,List.nil_append] at hrec
    refine Xz<|Xv<|Xb<|Xm W W<|Ro W<|Rv 0 W A237 U B234<|R.indexAddrA C U U U U A234 B3 O O<|Rs Z B3 Y V (put_part O)<|Rz<|Xu W<|Lo Y isAgg188 (gle _ _ (hle _ _ h5)) U<|Ro W<|Rb Y<|R.call C U U U U (pre:=TB a4 (pn2.set i n) w2::(m,mapO kv2)::q2) (tail:=tail) U hrec fun v ro' pre' hle' hp=>?_
    obtain⟨pn3,w3,kv3,q3,rfl,hm3,h3l,h3t,h3d,h3wl,h3wd,hp⟩:=hp
    have h3t':pn3.take i=pn.take i:=by
     have:=congrArg (List.take i) h3t
     rw [take_take_succ,List.take_append_of_le_length Zo,List.take_take,Nat.min_self] at this
     exact this
    have h3d':pn3.drop b.ps.length=pn.drop b.ps.length:=by rw [h3d,List.drop_set_of_lt O,gd]
    have h3wd':w3.drop b.cs.length=wn.drop b.cs.length:=by rw [h3wd,gwd]
    rcases hp with⟨rfl,hI2⟩|⟨rfl,hE⟩
    ·
     refine Rh Y<|FF 54 U U<|Zc U (fun h=>nomatch h) (fun _=>?_)
     refine Xz<|Xi<|Xg W<|Ro W<|Rb Y<|Ae W<|X.weaken ?_ (hnext (n+1,m',(pn3,w3,kv3),q3,ro',kc+((spread ((b.ps.drop (i+1)).map Pt.r)).flatMap fun s=>leaf b (pn.take i++n::s)).length) ⟨?_, ?_,⟨h3l,h3t',h3d'⟩,⟨h3wl,h3wd'⟩,hm3,RO.le_trans gle hle',hI2,hs2, ?_⟩ (Nat.lt_succ_self _))
     ·exact⟨rfl,rfl,rfl,rfl,rfl,by simp [look],trivial⟩
     ·simp only;omega
     ·simp only;omega
     ·simp only;omega
    ·
     refine Rh Y<|FT 54 U U<|Zc U (fun _=>?_) (fun h=>nomatch h)
     refine Xo W W<|Xw F212 ?_
     exact hret _ _ (_::_::q3) _ (RO.le_trans gle hle') ⟨pn3,w3,kv3,q3,rfl,hm3,h3l,h3t',h3d',h3wl,h3wd', .inr ⟨rfl,hE⟩⟩ (List.Sublist.refl _)
   ·obtain rfl:m2=0:=by omega
    simp only [rz,List.flatMap_nil,List.length_nil,Nat.add_zero] at glen
    refine Xe U<|Xo W W<|Xw F212 ?_
    exact hret _ _ (_::_::q2) _ gle ⟨pn2,w2,kv2,q2,rfl,gm,gl,gt,gd,gwl,gwd, .inl ⟨rfl,by rw [←glen];exact gI⟩⟩ (List.Sublist.refl _)
omit hJ in
theorem fnV.cells(h:fnV v):v.cells= [v].toArray:=by obtain⟨f,a,c,rfl⟩:=h;rfl
omit hJ in
theorem fnV.one(h:fnV v):ones [v]=true:=by obtain⟨f,a,c,rfl⟩:=h;rfl
theorem cases_it{ro:RO}(hv:BkP ro b vp vg vc vt)(hb:b.good):IterW prog J (.func (.func 137) [.agg [.int .i64 b.w,vp,vg,vc,vt, .map (some m)].toArray].toArray #[]) ((cases b).map fun t=> [t.val]) ro (fun ro' w=>Kept m b ro' w):=by
 intro yv I E hyf hmono hy ro0 p0 w0 hle hI0 hW
 obtain⟨kv,rfl,hm⟩:=hW
 have hnp:=hb.np
 have hnc:=hb.nc
 have hv':=hv
 obtain⟨_,_,rfl⟩:=hv.1.form
 obtain⟨_,_,rfl⟩:=hv.2.1.form
 obtain⟨_,_,rfl⟩:=hv.2.2.1.form
 obtain⟨_,_,rfl⟩:=hv.2.2.2.form
 refine CallV.intro (first:= [_]) (vs:= [yv]) (cap:= []) hJ Kr fun c cs tail hret=>enter_X (n:=11) func137 U U (Nl U) ?_
 have C:Ctx prog main J (bf 137 .normal):=⟨hJ,by decide⟩
 refine Xu W<|Bx Z fun p2=>R.box C U U U (fnV.cells hyf) fun p3=>Rz<|Xu W<|Al W K237 U fun p4=>Rz<|Xu W<|Al W zeroValue188 U fun p5=>Al W zeroValue188 U fun p6=>Rz<|Xu W<|R.makeFunc C U U U U<|Rs Z sizeOf188 Y V (.here .nil)<|Rz<|Xu W<|R.makeFunc C U U U U<|Rs Z sizeOf188 Y V (.here .nil)<|Rz<|X.persist C.1 fun ro1 hl1 h6=>X.persist C.1 fun ro2 hl2 h5=>X.perm C.1 (by exact pm1)<|X.persist C.1 fun ro3 hl3 h3=>X.perm C.1 (by exact pm1)<|X.persist C.1 fun ro4 hl4 h2=>X.perm C.1 (own':=_::(m,mapO kv)::(p0++tail)) (List.Perm.cons _ (by rw [List.append_assoc];exact List.perm_middle)) ?_
 have l3:=RO.le_trans hl3 hl4
 have l2:=RO.le_trans hl2 l3
 have l1:=RO.le_trans hl1 l2
 have hpc:=part_c hJ (yv:=yv) (m:=m) (hv'.mono (RO.le_trans hle l1)) hb h2 (hl4 _ _ h3) (l3 _ _ h5) (l2 _ _ h6) I E hmono (fun k hk ro1 p1 h=>hy k hk ro1 p1 (RO.le_trans (RO.le_trans hle l1) h)) b.ps.length 0 [0,0,0,0] [0,0,0] kv ro4 p0 0 O (RO.le_refl _) (hm.mono l1) (hmono _ _ _ _ l1 hI0) rfl (by
  have:b.ps.length=1∨b.ps.length=2∨b.ps.length=3∨b.ps.length=4:=O
  rcases this with h|h|h|h<;>simp [h]) rfl (by
  have:b.cs.length=1∨b.cs.length=2∨b.cs.length=3:=O
  rcases this with h|h|h<;>simp [h]) (by
  have:=Seg.all (cases b) Tn.val
  rw [cases_leaf] at this
  rw [cases_leaf]
  simpa using this)
 have hlen:(cases b).length=((spread (b.ps.map Pt.r)).flatMap (leaf b)).length:=by rw [cases_leaf]
 refine Xg W<|Lo Y isAgg188 (l3 _ _ h5) U<|R.call C U U U U (pre:=_::_::p0) (tail:=tail) U hpc fun v ro5 pre5 hle5 hp5=>?_
 obtain⟨pn,wn,kv5,q5,rfl,hm5,_,_,_,_,_,hp5⟩:=hp5
 refine Rz<|X.drop C.1 (own':=(m,mapO kv5)::(q5++tail)) (List.sublist_cons_self _ _)<|X.perm C.1 (by exact List.perm_middle.symm)<|X.fall C U U func137 U (by exact .nil)<|hret _ _ (q5++ [(m,mapO kv5)]) _ (RO.le_trans l1 hle5) ⟨rfl,q5,_,rfl,⟨kv5,rfl,hm5⟩, ?_⟩ (by rw [List.append_assoc];exact List.Sublist.refl _)
 rcases hp5 with⟨_,h⟩|⟨_,h⟩
 ·left
  rw [List.length_map,hlen]
  simpa using h
 ·exact .inr h
end Go.Lg.B
set_option maxRecDepth 100000
namespace Go.Lg.B
open Go Go.Conc Go.Lg Go.Proofs Go.Proofs.Tryz
variable {b:Bk}{t:Tn}{ro:RO}{v:Value}
theorem eqT3':IntT prog 9998 3 1 false:=IntT.int A3
theorem eqT234':IntT prog 9999 234 4 true:=IntT.array (m:=1) A234 B3 G3 (fun _=>rfl) eqT3'
theorem eqT235':IntT prog 9999 235 3 true:=IntT.array (m:=1) A235 B3 G3 (fun _=>rfl) eqT3'
theorem eqT234:IntT prog 10000 234 4 true:=IntT.array (m:=1) A234 B3 G3 (fun _=>rfl) eqT3
theorem eqT237:IntT prog 10000 237 7 true:=IntT.struct A237 Kr (.cons Dd rfl B234 G234 (fun h=>nomatch h) eqT234' (.cons Dd rfl B235 isAgg235 (fun h=>nomatch h) eqT235' .nil))
def tc(t:Tn):List Value:=ints ((pad 4 t.1).take 4++(pad 3 t.2).take 3)
theorem tc_len(t:Tn):(tc t).length=7:=by simp [tc,ints,pad];omega
theorem tc_eq(hb:b.good)(ht:t∈cases b):tc t=t.cells:=by
 have h1:=bearsL_len _ (mem_cases.1 ht).1
 have h2:=weightsL_len _ (mem_cases.1 ht).2
 have:=hb.np;have:=hb.nc
 rw [tc,Tn.cells,Tn.nums,List.take_of_length_le (by rw [pad_len O];omega),List.take_of_length_le (by rw [pad_len O];omega)]
abbrev LsT(ro:RO)(v:Value)(l:List Tn):Prop:=Ls tc 7 ro v l
theorem pad_inj{k:Nat}{a c:List Int}(h:a.length=c.length)(e:pad k a=pad k c):a=c:=by
 unfold pad at e
 exact(List.append_inj e h).1
theorem nums_inj{s:Tn}(h1:s.1.length=t.1.length)(h2:s.2.length=t.2.length)(h4:s.1.length≤4)(e:s.nums=t.nums):s=t:=by
 obtain⟨a,c⟩:=s
 obtain⟨a',c'⟩:=t
 unfold Tn.nums at e
 simp only at h1 h2 h4 e
 have:=List.append_inj e (by rw [pad_len h4,pad_len O])
 rw [pad_inj h1 this.1,pad_inj h2 this.2]
def casesOf(b:Bk):Int×Int:=if checkBook b≠0 then(0,checkBook b) else(((cases b).length:Int),0)
def isCaseOf(b:Bk)(k:Ks):Bool×Int:=if lookedH b k≠0 then(false,lookedH b k) else(decide (((k.ks,k.ws):Tn)∈cases b),0)
variable {main:Bool}{J:Goroutine→Mem→Prop}(hJ:Closed prog main J)
include hJ
theorem some_c{vp vg vc vt:Value}(hv:BkP ro b vp vg vc vt)(hb:b.good){m:Nat}{kv:KV}(hm:MapOk ro b kv):
  CallV prog J (fnv 157) [.agg [.int .i64 b.w,vp,vg,vc,vt, .map (some m)].toArray] ro [(m,mapO kv)] (fun w ro' pre'=>w= .bool (decide (cases b≠ []))∧pre'= []):=by
 have hv':=hv
 obtain⟨_,_,rfl⟩:=hv.1.form
 obtain⟨_,_,rfl⟩:=hv.2.1.form
 obtain⟨_,_,rfl⟩:=hv.2.2.1.form
 obtain⟨_,_,rfl⟩:=hv.2.2.2.form
 refine CallV.intro (first:= []) (vs:= [_]) (cap:= []) hJ Kr fun c cs tail hret=>enter_X (n:=6) func157 U U (Nl U) ?_
 have C:Ctx prog main J (bf 157 .normal):=⟨hJ,by decide⟩
 refine Xr C U U<|R.box C U U U U fun p1=>R.alloc C U U K4 U fun p2=>R.done C<|Xs C<|Xr C U U<|R5 C U U G225 B225 V Tk6<|R.makeFunc C U U U U<|R.done C<|X.block C.1<|X.drop C.1 (own':=_::(m,mapO kv)::tail) (.cons_cons _ (List.sublist_cons_self _ _))<|X.perm C.1 (List.Perm.cons _ (List.perm_append_singleton _ _).symm)<|X.rangeFuncW C (own:=_::tail) (w0:= [(m,mapO kv)]) (items:=(cases b).map fun c=> [c.val]) (ro0:=ro) (W:=fun ro' w=>Kept m b ro' w)
  (fun k ro' q=>q=(p2, .cells [.bool false].toArray 4 (0,0))::tail∧k=0)
  (fun x ro' q=>x= .ret∧q=(p2, .cells [.bool true].toArray 4 (0,0))::tail∧cases b≠ [])
  rfl rfl (cases_it hJ hv' hb) ⟨kv,rfl,hm⟩ (RO.le_refl _) rfl (fun x hx=>by obtain⟨a,_,rfl⟩:=List.mem_map.1 hx;rfl) ⟨rfl,rfl⟩ (fun _ _ _ _ _ h=>h) ?_ ?_ ?_
 ·rintro kk hk l cs H H1 ro1 q hle1 ⟨rfl,rfl⟩ C hbegin hdone hjump
  have hne:cases b≠ []:=fun e=>by rw [e] at hk;exact absurd hk (Nat.not_lt_zero _)
  rw [List.getElem_map]
  simp only [roundSlots]
  refine X.skip C.1<|hbegin _ _ (_::tail)<|X.block C.1<|Xr C U U<|R.store C U U U U B4 U U U V (.here .nil)<|R.done C ?_
  exact hjump _ _ _ _ (_::tail) (RO.le_refl _) trivial ⟨rfl,rfl,hne⟩
 ·rintro r ro' q' z' hl _ ⟨rfl,h0⟩
  have he:cases b= []:=by
   rw [List.length_map] at h0
   exact List.length_eq_zero_iff.1 h0
  refine X.inBlock C.1<|Xr C U U<|R.store C U U U U B4 U U U V (.here .nil)<|R.done C<|X.retM C U U func157 U (.cons V (.nil)) (by exact(.one U G4 V U .nil)) ?_
  exact hret _ _ [] _ hl ⟨by simp [he,retVal],rfl⟩ (.cons _ (.cons _ (List.sublist_append_left _ _)))
 ·rintro r x ro' q' z' hl _ ⟨rfl,rfl,hne⟩
  refine X.retM C U U func157 U (.cons V (.nil)) (by exact(.one U G4 V U .nil)) ?_
  exact hret _ _ [] _ hl ⟨by simp [hne,retVal],rfl⟩ (.cons _ (.cons _ (List.sublist_append_left _ _)))
theorem casesN_c(he:Env ro)(hv:BkV ro v b)(hs:b.short):CallR prog J (fnv 48) [v] ro (fun w _=>w= .tuple [.int .i64 (casesOf b).1, .int .i64 (casesOf b).2].toArray):=by
 obtain⟨vp,vg,vc,vt,rfl,hv⟩:=hv
 have hv':=hv
 have hvv:BkV ro (.agg [.int .i64 b.w,vp,vg,vc,vt].toArray) b:=⟨_,_,_,_,rfl,hv⟩
 obtain⟨_,_,rfl⟩:=hv.1.form
 obtain⟨_,_,rfl⟩:=hv.2.1.form
 obtain⟨_,_,rfl⟩:=hv.2.2.1.form
 obtain⟨_,_,rfl⟩:=hv.2.2.2.form
 refine CallR.intro hJ Kr fun c cs tail hret=>enter_X (n:=18) func48 U U (Nl U) ?_
 have C:Ctx prog main J (bf 48 .normal):=⟨hJ,by decide⟩
 refine Xr C U U<|R.box C U U U U fun p1=>R.asg C U U U<|Ad C U U<|Xs C<|Xr C U U<|R5 C U U G27 B27 V Tk5<|R.callP C U U U U (checkBook_c hJ (by assumption) (by assumption) (by assumption))<|Ad C U U<|Xr C U U<|Rm C U U<|R.int C U U U U b_neq<|R.done C<|X.cond C.1 U (fun hh=>?_) (fun hh=>?_)
 ·have hh:checkBook b≠0:=by simpa using hh
  refine Xr C U U<|Rm C U U<|R.asg C U U U<|Ad C U U<|X.ret C U U func48 U (by exact(.tmp U (.tmp U .nil)))<|Hr hret (RO.le_refl _) ?_
  rw [casesOf,if_pos hh];rfl
 ·have hh:checkBook b=0:=by simpa using hh
  have hb:=good_of hh
  have hcl:=cases_le hb
  have hr:casesOf b=(((cases b).length:Int),0):=by rw [casesOf,if_neg (fun h=>h hh)]
  refine X.skip C.1<|Xr C U U<|R.alloc C U U K3 U fun p5=>R.store C U U U U B3 U U U V (.here .nil)<|R.done C<|Xs C<|Xr C U U<|R5 C U U G27 B27 V Tk5<|R.call C U U U U (pre:= []) U (yardOf_c hJ hv') fun w ro1 pre1 hl1 hp1=>?_
  obtain⟨rfl,m,rfl,rfl⟩:=hp1
  refine R.makeFunc C U U U U<|R.done C<|X.block C.1<|X.drop C.1 (own':=(m,mapO [])::_::tail) (.cons_cons _ (.cons_cons _ (List.sublist_cons_self _ _)))<|X.perm C.1 (List.perm_append_singleton _ _).symm<|X.rangeFuncW C (own:=_::tail) (w0:= [(m,mapO [])]) (items:=(cases b).map fun c=> [c.val]) (ro0:=ro1) (W:=fun ro' w=>Kept m b ro' w)
   (fun k _ q=>q=(p5, .cells [.int .i64 (k:Int)].toArray 3 (0,0))::tail)
   (fun x ro' q=>False)
   rfl rfl (cases_it hJ hv' hb) ⟨[],rfl,fun x hx=>absurd hx (List.not_mem_nil)⟩ (RO.le_refl _) rfl (fun x hx=>by obtain⟨a,_,rfl⟩:=List.mem_map.1 hx;rfl) rfl (fun _ _ _ _ _ h=>h) ?_ ?_ ?_
  ·rintro kk hk l cs H H1 ro2 q hle1 rfl C hbegin hdone hjump
   have hk':kk<(cases b).length:=by simpa using hk
   rw [List.getElem_map]
   simp only [roundSlots]
   refine X.skip C.1<|hbegin _ _ (_::tail)<|X.block C.1<|X.region C U U<|Rl C U U G3 V U<|Ra C U U U<|R.store C U U U U B3 U U U V (.here .nil)<|R.done C<|X.inBlock C.1 ?_
   exact hdone _ _ (_::tail) (RO.le_refl _) Zi
  ·rintro r ro' q' z' hl _ rfl
   refine X.inBlock C.1<|Xr C U U<|Rl C U U G3 V U<|R.asg C U U U<|Ad C U U<|X.retM C U U func48 U (.cons V (.nil)) (by exact(.tmp U (.tmp U .nil)))<|hret _ _ _ hl (.cons _ (.cons _ (List.sublist_append_left _ _))) ?_
   rw [hr,List.length_map];rfl
  ·rintro r x ro' q' z' hl _ hf
   exact hf.elim
theorem isCase_c{k:Ks}{vk:Value}(he:Env ro)(hv:BkV ro v b)(hs:b.short)(hk:KsV ro vk k)(hk2:k.short):CallR prog J (fnv 47) [v,vk] ro (fun w _=>w= .tuple [.bool (isCaseOf b k).1, .int .i64 (isCaseOf b k).2].toArray):=by
 obtain⟨vp,vg,vc,vt,rfl,hv⟩:=hv
 have hv':=hv
 have hkk:=hk
 have hss:=hs
 obtain⟨v1,v2,rfl,h1,h2⟩:=hk
 obtain⟨kb,kc,rfl⟩:=h1.form
 obtain⟨wb,wc,rfl⟩:=h2.form
 obtain⟨_,_,rfl⟩:=hv.1.form
 obtain⟨_,_,rfl⟩:=hv.2.1.form
 obtain⟨_,_,rfl⟩:=hv.2.2.1.form
 obtain⟨_,_,rfl⟩:=hv.2.2.2.form
 refine CallR.intro hJ Kr fun c cs tail hret=>enter_X (n:=33) func47 U U (Nl U) ?_
 have C:Ctx prog main J (bf 47 .normal):=⟨hJ,by decide⟩
 refine Xr C U U<|R.box C U U U U fun p2=>R.box C U U U U fun p3=>R.alloc C U U K4 U fun p4=>R.alloc C U U zeroValue41 U fun p5=>R.done C<|Xr C U U<|R5 C U U G27 B27 V Tk5<|R5 C U U isAgg107 B107 V Tk2<|R.call C U U U U (pre:= []) U (looked_c hJ he hv' hss hkk hk2) fun w ro1 pre1 hl1 hp1=>?_
 obtain⟨rfl,hp1⟩:=hp1
 rcases hp1 with⟨hh,rfl,rfl⟩|⟨hh,m,rfl,rfl⟩
 ·
  refine Rm C U U<|R.ext C U U U U<|R.ext C U U U U<|R.ext C U U U U<|R.alloc C U U K225 U fun p6=>R.alloc C U U K237 U fun p7=>R.store C U U U U B225 U U U V Ph6<|R.store C U U U U B237 U U U V Ph7<|Ad C U U<|Xs C<|Xr C U U<|Rm C U U<|R.int C U U U U b_neq<|R.done C<|X.cond C.1 U (fun hq=>?_) (fun hq=>?_)
  ·refine Xr C U U<|Rm C U U<|R.store C U U U U B4 U U U V (.here .nil)<|R.store C U U U U B41 U U U V (.here .nil)<|R.done C<|X.ret C U U func47 U (by exact(.one U G4 V U (.one U isAgg41 V U .nil)))<|Hr hret (RO.le_refl _) ?_
   have e:lookedH b k=checkBook b:=by rw [lookedH,if_pos hh]
   rw [isCaseOf,if_pos (by rw [e];exact hh),e];rfl
  ·simp at hq;contradiction
 ·
  have hb:=good_of hh
  have e0:lookedH b k=handedH b k:=by rw [lookedH,if_neg (fun h=>h hh)]
  obtain⟨x1,x2,x3,x4,y1,y2,y3,l1,l2,l3⟩:=Tn.lit (handedT_len hb k).1 (handedT_len hb k).2
  rw [Tn.val,l3]
  refine Rm C U U<|R.ext C U U U U<|R.ext C U U U U<|R.ext C U U U U<|R.alloc C U U K225 U fun p6=>R.alloc C U U K237 U fun p7=>R.store C U U U U B225 U U U V Ph6<|R.store C U U U U B237 U U U V Ph7<|Ad C U U<|Xs C<|Xr C U U<|Rm C U U<|R.int C U U U U b_neq<|R.done C<|X.cond C.1 U (fun hq=>?_) (fun hq=>?_)
  ·have hq:handedH b k≠0:=by simpa using hq
   refine Xr C U U<|Rm C U U<|R.store C U U U U B4 U U U V (.here .nil)<|R.store C U U U U B41 U U U V (.here .nil)<|R.done C<|X.ret C U U func47 U (by exact(.one U G4 V U (.one U isAgg41 V U .nil)))<|Hr hret (RO.le_refl _) ?_
   rw [isCaseOf,if_pos (by rw [e0];exact hq),e0];rfl
  ·have hq:handedH b k=0:=by simpa using hq
   have hg:=handed_good hq
   have eT:handedT b k=(k.ks,k.ws):=by rw [handedT,if_pos hq]
   rw [eT] at l1 l2 l3
   have hr:isCaseOf b k=(decide (((k.ks,k.ws):Tn)∈cases b),0):=by rw [isCaseOf,if_neg (by rw [e0];simp [hq])]
   refine X.skip C.1<|Xs C<|Xr C U U<|R5 C U U G225 B225 V Tk6<|R.makeFunc C U U U U<|R.done C<|X.block C.1<|X.drop C.1 (own':=_::(m,mapO [])::_::_::tail) (.cons_cons _ (.cons _ (.cons_cons _ (.cons_cons _ (.cons_cons _ (.cons _ (List.sublist_cons_self _ _)))))))<|X.perm C.1 (by exact pm1.trans (List.perm_append_singleton _ _).symm)<|X.rangeFuncW C (own:=_::_::_::tail) (w0:= [(m,mapO [])]) (items:=(cases b).map fun c=> [c.val]) (ro0:=ro1) (W:=fun ro' w=>Kept m b ro' w)
    (fun i ro' q=>q=(p7, .cells [.int .i64 x1, .int .i64 x2, .int .i64 x3, .int .i64 x4, .int .i64 y1, .int .i64 y2, .int .i64 y3].toArray 237 (0,0))::(p5, .cells [.int .i64 0].toArray 41 (0,0))::(p4, .cells [.bool false].toArray 4 (0,0))::tail∧∀j (h:j<(cases b).length),j<i→(cases b)[j]≠((k.ks,k.ws):Tn))
    (fun x ro' q=>x= .ret∧q=(p7, .cells [.int .i64 x1, .int .i64 x2, .int .i64 x3, .int .i64 x4, .int .i64 y1, .int .i64 y2, .int .i64 y3].toArray 237 (0,0))::(p5, .cells [.int .i64 0].toArray 41 (0,0))::(p4, .cells [.bool true].toArray 4 (0,0))::tail∧((k.ks,k.ws):Tn)∈cases b)
    rfl rfl (cases_it hJ hv' hb) ⟨[],rfl,fun x hx=>absurd hx (List.not_mem_nil)⟩ (RO.le_refl _) rfl (fun x hx=>by obtain⟨a,_,rfl⟩:=List.mem_map.1 hx;rfl) ⟨rfl,fun j _ h=>absurd h (Nat.not_lt_zero _)⟩ (fun _ _ _ _ _ h=>h) ?_ ?_ ?_
   ·intro kk hk l cs H H1 ro2 q hle1 hI C hbegin hdone hjump
    obtain⟨rfl,hne⟩:=hI
    have hk':kk<(cases b).length:=by simpa using hk
    rw [List.getElem_map]
    simp only [roundSlots]
    have hnext:(cases b)[kk]≠((k.ks,k.ws):Tn)→∀j (h:j<(cases b).length),j<kk+1→(cases b)[j]≠((k.ks,k.ws):Tn):=fun hx j h hj=>by
     by_cases e:j=kk
     ·subst e;exact hx
     ·exact hne j h O
    have hmem:=List.getElem_mem hk'
    generalize(cases b)[kk]=co at hnext hmem
    obtain⟨u1,u2,u3,u4,z1,z2,z3,m1,m2,m3⟩:=hb.lit hmem
    have hiff:co=((k.ks,k.ws):Tn)↔(u1=x1∧u2=x2∧u3=x3∧u4=x4)∧z1=y1∧z2=y2∧z3=y3:=by
     constructor
     ·rintro rfl
      rw [l1] at m1;rw [l2] at m2
      simp at m1 m2
      simp [m1,m2]
     ·rintro⟨⟨rfl,rfl,rfl,rfl⟩,rfl,rfl,rfl⟩
      refine nums_inj ?_ ?_ ?_ ?_
      ·rw [bearsL_len _ (mem_cases.1 hmem).1];exact hg.1.symm
      ·rw [weightsL_len _ (mem_cases.1 hmem).2];exact hg.2.1.symm
      ·rw [bearsL_len _ (mem_cases.1 hmem).1];exact hb.np.2
      ·simp only [Tn.nums,m1,m2,l1,l2]
    rw [Tn.val,m3]
    refine X.region C U U<|R.alloc C U U K237 U fun p9=>R.store C U U U U B237 U U U V Ph7<|R.done C<|hbegin _ _ (_::_::_::_::tail)<|X.block C.1<|Xr C U U<|Rf C 0 U U A237 U B234<|R5 C U U G234 B234 V Tk4<|Rf C 0 U U A237 U B234<|R5 C U U G234 B234 V Tk4<|R.eqAgg (p:= [u1,u2,u3,u4]) (q:= [x1,x2,x3,x4]) C U U U U eqT234 U U Kr<|Rm C U U<|R.fix (t:=28) U (fun hz=>?_) (fun hz=>?_)
    ·refine R5 C U U G237 B237 V (.take Tk6)<|R5 C U U G237 B237 V (.take Tk6)<|R.eqAgg (p:= [u1,u2,u3,u4,z1,z2,z3]) (q:= [x1,x2,x3,x4,y1,y2,y3]) C U U U U eqT237 U U Kr<|R.pickT C U U U U<|R.done C<|X.cond C.1 U (fun hz2=>?_) (fun hz2=>?_)
     ·refine Xr C U U<|R.store C U U U U B4 U U U V (.here .nil)<|R.store C U U U U B41 U U U V (.here .nil)<|R.done C<|X.drop C.1 (own':=_::_::_::(tail++H1)) (List.sublist_cons_self _ _)<|hjump _ _ _ _ (_::_::_::tail) (RO.le_refl _) trivial ⟨rfl,rfl, ?_⟩
      have:co=((k.ks,k.ws):Tn):=hiff.2 (by simp at hz2;simp [hz2])
      rw [←this];exact hmem
     ·refine X.skip C.1<|X.inBlock C.1<|X.drop C.1 (own':=_::_::_::(tail++H1)) (List.sublist_cons_self _ _)<|hdone _ _ (_::_::_::tail) (RO.le_refl _) ⟨rfl,hnext fun h=>?_⟩
      have:=hiff.1 h
      simp [this] at hz2
    ·refine R.pass C U U<|R.pass C U U<|R.pass C U U<|R.pickF C U U U U<|R.done C<|X.cond C.1 U (fun h=>nomatch h) (fun _=>?_)
     refine X.skip C.1<|X.inBlock C.1<|X.drop C.1 (own':=_::_::_::(tail++H1)) (List.sublist_cons_self _ _)<|hdone _ _ (_::_::_::tail) (RO.le_refl _) ⟨rfl,hnext fun h=>?_⟩
     have:=hiff.1 h
     simp [this] at hz
   ·rintro r ro' q' z' hl _ ⟨rfl,hne⟩
    have:((k.ks,k.ws):Tn)∉cases b:=by
     intro hm
     obtain⟨j,hj,e⟩:=List.mem_iff_getElem.1 hm
     exact hne j hj (by simpa using hj) e
    refine X.inBlock C.1<|Xr C U U<|R.store C U U U U B4 U U U V (.here .nil)<|R.store C U U U U B41 U U U V (.here .nil)<|R.done C<|X.retM C U U func47 U (.cons V (.nil)) (by exact(.one U G4 V U (.one U isAgg41 V U .nil)))<|hret _ _ _ hl (.cons _ (.cons _ (.cons _ (.cons _ (List.sublist_append_left _ _))))) ?_
    rw [hr];simp [this,retVal]
   ·rintro r x ro' q' z' hl _ ⟨rfl,rfl,ht⟩
    refine X.retM C U U func47 U (.cons V (.nil)) (by exact(.one U G4 V U (.one U isAgg41 V U .nil)))<|hret _ _ _ hl (.cons _ (.cons _ (.cons _ (.cons _ (List.sublist_append_left _ _))))) ?_
    rw [hr];simp [ht,retVal]
end Go.Lg.B
namespace Go.Lg.B
open Go Go.Conc Go.Lg Go.Proofs Go.Proofs.Tryz
variable {va vb:Value}{ro:RO}{a d:List Int}
variable {main:Bool}{J:Goroutine→Mem→Prop}(hJ:Closed prog main J)
include hJ
theorem isNaN_c(x:Int)(ro:RO):CallP prog J (fnv 264) [.int .i64 x] ro (.bool false):=by
 refine EP 6 hJ func264 W fun c cs tail hret C=>Xo W W<|Xm W W<|Ro W<|Ri Z b_neq<|Hq W func264 hret ?_
 simp [retVal]
theorem cmpI_c(x y:Int)(ro:RO):CallP prog J (fnv 198) [.int .i64 x, .int .i64 y] ro (.int .i64 (cmpI x y)):=by
 refine EP 20 hJ func198 W fun c cs tail hret C=>Xo W W<|Xm W W<|Cp Z (isNaN_c hJ _ _)<|FF 8 U (by rfl)<|Ae W<|Xm W W<|Cp Z (isNaN_c hJ _ _)<|FF 10 U (by rfl)<|Ae W<|Xx W<|Ro W<|Zc U (fun h=>nomatch h) (fun _=>?_)
 refine Xz<|Xx W<|Ro W<|Zc U (fun h=>nomatch h) (fun _=>?_)
 refine Xz<|Xx W<|Oo W W<|Ri Z b_lss<|Zc U (fun q1=>?_) (fun q1=>?_)
 ·refine Xu W<|Hq W func198 hret ?_
  first|(simp_all [cmpI,retVal];done)|(simp_all [cmpI,retVal];omega)
 ·refine Xz<|Xx W<|Oo W W<|Ri Z b_gtr<|Zc U (fun q2=>?_) (fun q2=>?_)
  ·refine Xu W<|Hq W func198 hret ?_
   first|(simp_all [cmpI,retVal];done)|(simp_all [cmpI,retVal];omega)
  ·refine Xz<|Xu W<|Hq W func198 hret ?_
   first|(simp_all [cmpI,retVal];done)|(simp_all [cmpI,retVal];omega)
theorem cmpL_c(ha:LsI ro va a)(hc:LsI ro vb d)(h1:a.length≤1000000)(h2:d.length≤1000000):CallP prog J (fnv 111) [va,vb] ro (.int .i64 (cmpL a d)):=by
 obtain⟨ab,ac,rfl⟩:=ha.form
 obtain⟨bb,bc,rfl⟩:=hc.form
 refine EP 36 hJ func111 W fun c cs tail hret C=>Xo W W<|Xx W<|Ro W<|Rt W A58<|Ro W<|Rz<|Xb<|X.loopI (ι:=Nat) C.1 (fun i=>i≤a.length∧i≤d.length∧cmpL a d=cmpL (a.drop i) (d.drop i)) (fun i=> [(4, .int .i64 0),(0, .slice ab a.length ac),(1, .slice bb d.length bc),(9, .slice ab a.length ac),(10, .int .i64 (a.length:Int)),(11, .int .i64 (i:Int))])
  (fun _=>⟨ro,tail⟩) (fun i=>a.length-i) 0 ⟨Nat.zero_le _,Nat.zero_le _,rfl⟩ rfl ⟨U,U,U,U,U,U,trivial⟩ fun i hi hnext=>?_
 obtain⟨hi,hi2,hcm⟩:=hi
 refine Xu W<|Ri Z b_lss<|Rz<|Xv<|Xj U (fun hlt=>?_) (fun hlt=>?_)
 ·have hi':i<a.length:=O
  rw [List.drop_eq_getElem_cons hi'] at hcm
  obtain⟨pp,off,cap,ll,t,fq,hsl,hrop,hsub⟩:=ha.at ic_len O
  cases hsl
  have hx:ll[off+i*1]? =some (.int .i64 a[i]):=by have:=(hsub i hi').get 0 Dd;simpa [ic] using this
  refine Xz<|Xv<|Xb<|Xm W W<|Ry Y A58 B3<|Lo Y G3 hrop hx<|Rg Y<|Ae W<|Xx W<|Oo W W<|Rt W A58<|Ri Z b_geq<|Zj U (fun hge=>?_) (fun hge=>?_)
  ·obtain rfl:i=d.length:=by omega
   refine Xu W<|Hq W func111 hret ?_
   rw [hcm,List.drop_length];rfl
  ·have hj':i<d.length:=O
   rw [List.drop_eq_getElem_cons hj',cmpL] at hcm
   obtain⟨pp2,off2,cap2,ll2,t2,fq2,hsl2,hrop2,hsub2⟩:=hc.at ic_len O
   cases hsl2
   have hx2:ll2[off2+i*1]? =some (.int .i64 d[i]):=by have:=(hsub2 i hj').get 0 Dd;simpa [ic] using this
   refine Xz<|Xm W W<|Ro W<|Ry Y A58 B3<|Lo Y G3 hrop2 hx2<|Ae W<|Xm W W<|Ro W<|Cp Z (cmpI_c hJ _ _ _)<|Ae W<|Xm W W<|Ri Z b_neq<|Zc U (fun hne=>?_) (fun hne=>?_)
   ·refine Xm W W<|Hq W func111 hret ?_
    rw [hcm,if_pos (by simpa using hne)];rfl
   ·refine Xz<|Xi<|Xg W<|Rb Y<|Ro W<|Rz ?_
    rw [if_neg (by simpa using hne)] at hcm
    refine X.weaken ?_ (hnext (i+1) ⟨hi',hj',hcm⟩ O)
    exact⟨rfl,rfl,rfl,rfl,rfl,by simp [look],trivial⟩
 ·obtain rfl:i=a.length:=by omega
  rw [List.drop_length] at hcm
  refine Xe U<|Xx W<|Ro W<|Rt W A58<|Ro W<|Rt W A58<|Ri Z b_lss<|Zj U (fun hz=>?_) (fun hz=>?_)
  ·refine Xu W<|Hq W func111 hret ?_
   rw [hcm,List.drop_eq_getElem_cons O];rfl
  ·refine Xz<|Xu W<|Hq W func111 hret ?_
   have:d.drop a.length= []:=List.drop_eq_nil_of_le O
   rw [hcm,this];rfl
theorem smaller_c(ha:LsI ro va a)(hc:LsI ro vb d)(h1:a.length≤1000000)(h2:d.length≤1000000):CallP prog J (fnv 223) [va,vb] ro (.bool (smaller a d)):=by
 have ha0:=ha
 have hc0:=hc
 obtain⟨ab,ac,rfl⟩:=ha.form
 obtain⟨bb,bc,rfl⟩:=hc.form
 refine EP 23 hJ func223 W fun c cs tail hret C=>Xo W W<|Xm W W<|Rt W A58<|Ro W<|Rt W A58<|Ri Z b_lss<|Ro W<|R.fix (t:=10) U (fun q1=>?_) (fun q1=>?_)
 ·refine Rp W<|Rp W<|Rp W<|Rp W<|Rp W<|Rp W<|Rp W<|Rp W<|Rp W<|Rp W<|Rp W<|Pp Z<|Hq W func223 hret ?_
  (simp only [retVal,smaller];congr 1;simp only [decide_eq_true_eq,decide_eq_false_iff_not,beq_iff_eq,beq_eq_false_iff_ne,ne_eq,Int.ofNat_lt,Int.natCast_inj] at*;simp [*])
 ·refine Ro W<|Rt W A58<|Ro W<|Rt W A58<|Ri Z b_eql<|Ro W<|R.fix (t:=16) U (fun q2=>?_) (fun q2=>?_)
  ·refine Oo W W<|Cp Z (cmpL_c hJ ha0 hc0 h1 h2)<|Ri Z b_lss<|Pp Z<|Pf Z<|Hq W func223 hret ?_
   (simp only [retVal,smaller];congr 1;simp only [decide_eq_true_eq,decide_eq_false_iff_not,beq_iff_eq,beq_eq_false_iff_ne,ne_eq,Int.ofNat_lt,Int.natCast_inj] at*;simp [*])
  ·refine Rp W<|Rp W<|Rp W<|Rp W<|Pf Z<|Pf Z<|Hq W func223 hret ?_
   (simp only [retVal,smaller];congr 1;simp only [decide_eq_true_eq,decide_eq_false_iff_not,beq_iff_eq,beq_eq_false_iff_ne,ne_eq,Int.ofNat_lt,Int.natCast_inj] at*;simp [*])
end Go.Lg.B
namespace Go.Lg.B
open Go Go.Conc Go.Lg Go.Proofs Go.Proofs.Tryz
open Go.Sort (ltInt swp insInner insOuter insertionSort)
variable {d:Array Int}{sp:List Value}{z:Int}{a b cap i j k p:Nat}{ro:RO}
def vals(d:Array Int):List Value:=d.toList.map (Value.int .i64)
theorem vals_at(hz:z=(k:Int))(hk:k<d.size):(vals d++sp)[0+z.toNat*1]? =some (.int .i64 d[k]!):=by
 subst hz
 rw [Int.toNat_natCast,Nat.mul_one,Nat.zero_add,List.getElem?_append_left (by simpa [vals] using hk)]
 simp [vals,hk]
theorem put_at:∀ (l:List Value) (k:Nat) (v:Value) (sp:List Value),k<l.length→Put k [v] (l++sp) (l.set k v++sp)
 |x::l,0,v,sp,_=> .here .nil
 |x::l,k+1,v,sp,h=> .skip (put_at l k v sp (by simpa using h))
theorem vals_put{x:Int}(hz:z=(k:Int))(hk:k<d.size):Put (0+z.toNat*1) [.int .i64 x] (vals d++sp) (vals (d.setIfInBounds k x)++sp):=by
 subst hz
 have:=put_at (vals d) k (.int .i64 x) sp (by simpa [vals] using hk)
 rw [Int.toNat_natCast,Nat.mul_one,Nat.zero_add]
 have e:vals (d.setIfInBounds k x)=(vals d).set k (.int .i64 x):=by simp [vals]
 rw [e];exact this
def CallS(J:Goroutine→Mem→Prop)(f:FuncId)(p:Nat)(sp:List Value)(d:Array Int)(cap:Nat)(args:List Value)(ro:RO)(v:Value)(d':Array Int):Prop:=
 CallV prog J (fnv f) (.slice (some ⟨p,0,none⟩) d.size cap::args) ro [(p, .cells (vals d++sp).toArray 3 (0,0))] fun v' ro' pre'=>v'=v∧ro'=ro∧pre'= [(p, .cells (vals d'++sp).toArray 3 (0,0))]
def BackS(J:Goroutine→Mem→Prop)(c:Frame)(cs:List Frame)(ro:RO)(tail:List (Nat×Obj))(p:Nat)(sp:List Value)(v:Value)(d':Array Int):Prop:=
 ∀v' d2,v'=v→d2=d'→J (G (c.finish v') cs) ⟨ro,(p, .cells (vals d2++sp).toArray 3 (0,0))::tail⟩
variable {main:Bool}{J:Goroutine→Mem→Prop}(hJ:Closed prog main J)
include hJ
theorem CallS.intro{f:FuncId}{d':Array Int}{args:List Value}{v:Value}(hc:callableB prog f=true)
  (h:∀c cs tail,BackS J c cs ro tail p sp v d'→J (G (Frame.enter prog f (.slice (some ⟨p,0,none⟩) d.size cap::args).toArray .normal) (c::cs)) ⟨ro,(p, .cells (vals d++sp).toArray 3 (0,0))::tail⟩):CallS J f p sp d cap args ro v d':=
 CallV.intro (first:= []) (cap:= []) hJ hc fun c cs tail hret=>by
  have:=h c cs tail fun v' d2 e1 e2=>hret v' ro [(p, .cells (vals d2++sp).toArray 3 (0,0))] _ (RO.le_refl _) ⟨e1,rfl,by rw [e2]⟩ (.refl _)
  simpa using this
theorem less_c(x y:Int)(ro:RO):CallP prog J (fnv 243) [.int .i64 x, .int .i64 y] ro (.bool (ltInt x y)):=by
 refine EP 17 hJ func243 W fun c cs tail hret C=>Xo W W<|Xm W W<|Cp Z (isNaN_c hJ _ _)<|FF 6 U (by rfl)<|Ro W<|Rp W<|Rp W<|Rp W<|Pf Z<|Oo W W<|Ro W<|Ri Z b_lss<|Pf Z<|Hq W func243 hret ?_
 first|rfl|(simp [retVal,ltInt];done)
omit hJ in
theorem insInner_stop(h:j≤a∨ltInt d[j]! d[j-1]! =false):insInner ltInt a j d=d:=by
 cases j with
 |zero=>rfl
 |succ j=>
  simp only [insInner]
  rw [if_neg]
  rcases h with h|h
  ·simp;omega
  ·simp at h;simp [h]
omit hJ in
theorem insInner_go(h1:a<j)(h2:ltInt d[j]! d[j-1]! =true):insInner ltInt a j d=insInner ltInt a (j-1) (swp d j (j-1)):=by
 cases j with
 |zero=>omega
 |succ j=>
  have h2:ltInt d[j+1]! d[j]! =true:=by simpa using h2
  simp only [insInner]
  rw [if_pos (by simp [h2];omega)]
  rfl
omit hJ in
theorem insOuter_go(h:i<b):insOuter ltInt a b i d=insOuter ltInt a b (i+1) (insInner ltInt a i d):=by rw [insOuter,if_pos h]
omit hJ in
theorem insOuter_stop(h:b≤i):insOuter ltInt a b i d=d:=by rw [insOuter,if_neg O]
theorem insertionSort_c(hn:d.size≤1000000000)(hab:a≤b)(hb:b≤d.size):CallS J 237 p sp d cap [.int .i64 (a:Int), .int .i64 (b:Int)] ro (.tuple #[]) (insertionSort ltInt d a b):=by
 refine CallS.intro hJ Kr fun c cs tail hret=>?_
 let J:=J
 refine enter_X (n:=49) func237 U U (Nl U) ?_
 have C:Ctx prog main J (bf 237 .normal):=⟨hJ,by decide⟩
 refine Xm W W<|Rb Y<|Ae W<|Xb<|X.loopI (ι:=Nat×Array Int) C.1 (fun s=>s.2.size=d.size∧a+1≤s.1∧insOuter ltInt a b s.1 s.2=insertionSort ltInt d a b) (fun s=> [(0, .slice (some ⟨p,0,none⟩) d.size cap),(1, .int .i64 (a:Int)),(2, .int .i64 (b:Int)),(6, .int .i64 (s.1:Int))])
  (fun s=>⟨ro,(p, .cells (vals s.2++sp).toArray 3 (0,0))::tail⟩) (fun s=>b-s.1) (a+1,d) ⟨rfl,Nat.le_refl _,rfl⟩ rfl ⟨rfl,rfl,rfl,by simp [look],trivial⟩ fun s hs hnext=>?_
 obtain⟨i,d1⟩:=s
 obtain⟨h1,h2,h3⟩:=hs
 simp only at h1 h2 h3 hnext⊢
 refine Xx W<|Oo W W<|Ri Z b_lss<|Zj U (fun hlt=>?_) (fun hlt=>?_)
 ·have hi':i<b:=O
  rw [insOuter_go hi'] at h3
  refine Xz<|Xv<|Xb<|Xm W W<|Ae W<|Xb<|X.loopI (ι:=Nat×Array Int) C.1 (fun s=>s.2.size=d.size∧s.1≤i∧insInner ltInt a s.1 s.2=insInner ltInt a i d1) (fun s=> [(0, .slice (some ⟨p,0,none⟩) d.size cap),(1, .int .i64 (a:Int)),(2, .int .i64 (b:Int)),(6, .int .i64 (i:Int)),(7, .int .i64 (s.1:Int))])
   (fun s=>⟨ro,(p, .cells (vals s.2++sp).toArray 3 (0,0))::tail⟩) (fun s=>s.1) (i,d1) ⟨h1,Nat.le_refl _,rfl⟩ rfl ⟨U,U,U,U,U,trivial⟩ fun s hs hnext2=>?_
  obtain⟨j,d2⟩:=s
  obtain⟨k1,k2,k3⟩:=hs
  simp only at k1 k2 k3 hnext2⊢
  refine Xv<|Xv<|Xf fun hok=>Dt 0 Y<|Dt 1 Y<|Dj 2 Y5 b_gtr<|Dt 3 Y<|D.fix (t:=19) U (fun hg=>?_) (fun hg=>?_)
  ·simp only [dT] at hg
   refine Dt 4 Y<|Dt 5 Y<|Dw 6 Y A58 B3<|Db 7 W G3 V (vals_at (k:=j) O O)<|Dt 8 Y<|Dt 9 Y<|Dj 10 Y5 (b_sub O O)<|Dw 11 Y A58 B3<|Db 12 W G3 V (vals_at (k:=j-1) O O)<|De 13 (some 29) [false,false] hok (fun _ _ A hk=>?_)
   refine R.callP C U (A.w U U) (A.x U U) (A.s U U) (less_c hJ _ _ _) (hk _ _ ⟨QFs.nil, ?_⟩)
   refine Dp 14 hok (fun _ _ _ A h=>R.pickT C U (A.w U U) (A.x U U) (A.x U U) h)<|Dn<|Xc U (fun hl=>?_) (fun hl=>?_)
   ·rw [insInner_go O hl] at k3
    refine Xz<|Xv<|Xb<|Xf fun hok=>Dt 0 Y<|Dt 1 Y<|Dt 2 Y<|Dt 3 Y<|Dj 4 Y5 (b_sub O O)<|Dt 5 Y<|Dt 6 Y<|Dj 7 Y5 (b_sub O O)<|Dw 8 Y A58 B3<|Db 9 W G3 V (vals_at (k:=j-1) O O)<|Dt 10 Y<|Dt 11 Y<|Dw 12 Y A58 B3<|Db 13 W G3 V (vals_at (k:=j) O O)<|Dw 14 Y A58 B3<|De 15 none [false,false] hok (fun _ _ A hk=>?_)
    refine R.store C U (A.w U U) (A.x U U) (A.x U U) B3 U U U V (vals_put (k:=j) O O) (hk undef _ ⟨QFs.nil, ?_⟩)
    refine Dw 16 Y A58 B3<|De 17 none [] hok (fun _ _ A hk=>?_)
    refine R.store C U (A.w U U) (A.x U U) (A.x U U) B3 U U U V (vals_put (k:=j-1) O Zo) (hk undef _ ⟨QFs.nil, ?_⟩)
    refine Dn<|Xi<|Xg W<|Ro W<|Ri Z (b_sub O O)<|Ae W<|X.weaken ?_ (hnext2 (j-1,swp d2 j (j-1)) ⟨by simpa [swp] using k1,by simp;omega,k3⟩ Zo)
    exact⟨rfl,rfl,rfl,rfl,congrArg (fun z=>some (Value.int .i64 z)) O,trivial⟩
   ·rw [insInner_stop (.inr hl)] at k3
    refine Xe U<|Xi<|Xg W<|Ro W<|Rb Y<|Ae W ?_
    rw [←k3] at h3
    refine X.weaken ?_ (hnext (i+1,d2) ⟨k1,by simp;omega,h3⟩ Zo)
    exact⟨rfl,rfl,rfl,by simp [look],trivial⟩
  ·simp only [dF] at hg
   rw [insInner_stop (.inl O)] at k3
   refine Dr 4 U<|Dr 5 U<|Dr 6 U<|Dr 7 U<|Dr 8 U<|Dr 9 U<|Dr 10 U<|Dr 11 U<|Dr 12 U<|Dr 13 U<|Dp 14 hok (fun _ _ _ A h=>R.pickF C U (A.w U U) (A.x U U) (A.x U U) h)<|Dn<|Xc U (fun h=>nomatch h) (fun _=>?_)
   refine Xe U<|Xi<|Xg W<|Ro W<|Rb Y<|Ae W ?_
   rw [←k3] at h3
   refine X.weaken ?_ (hnext (i+1,d2) ⟨k1,by simp;omega,h3⟩ Zo)
   exact⟨rfl,rfl,rfl,by simp [look],trivial⟩
 ·rw [insOuter_stop O] at h3
  refine Xe U<|X.fall C U U func237 U (by exact .nil) ?_
  exact hret _ _ rfl h3
end Go.Lg.B
namespace Go.Lg.B
open Go Go.Conc Go.Lg Go.Proofs Go.Proofs.Tryz
open Go.Sort (ltInt swp siftDown heapBuild heapPop heapSort)
variable {F cap hi p root:Nat}{d:Array Int}{sp:List Value}{ro:RO}
theorem sift_end(h:hi≤2*root+1):siftDown ltInt hi F root d=d:=by rw [siftDown,dif_pos h]
theorem sift_two(h:2*root+2<hi)(hl:ltInt d[F+(2*root+1)]! d[F+(2*root+1)+1]! =true):
  siftDown ltInt hi F root d=if !ltInt d[F+root]! d[F+(2*root+2)]! then d else siftDown ltInt hi F (2*root+2) (swp d (F+root) (F+(2*root+2))):=by
 rw [siftDown,dif_neg O,if_pos (by simp [hl];omega)]
 split<;>rfl
theorem sift_one(h:2*root+1<hi)(hl:hi≤2*root+2∨ltInt d[F+(2*root+1)]! d[F+(2*root+1)+1]! =false):
  siftDown ltInt hi F root d=if !ltInt d[F+root]! d[F+(2*root+1)]! then d else siftDown ltInt hi F (2*root+1) (swp d (F+root) (F+(2*root+1))):=by
 rw [siftDown,dif_neg O,if_neg]
 rcases hl with hl|hl
 ·simp;omega
 ·simp [hl]
theorem siftDown_size(hi F:Nat):∀ (n root:Nat) (d:Array Int),hi-root≤n→(siftDown ltInt hi F root d).size=d.size
 |0,root,d,h=>by rw [sift_end O]
 |n+1,root,d,h=>by
  rw [siftDown]
  split
  ·rfl
  ·split
   ·split
    ·rfl
    ·split
     ·rw [siftDown_size hi F n _ _ O];simp [swp]
     ·rfl
   ·split
    ·rfl
    ·rw [siftDown_size hi F n _ _ O];simp [swp]
variable {main:Bool}{J:Goroutine→Mem→Prop}(hJ:Closed prog main J)
include hJ
theorem siftDown_c{lo:Nat}(hn:d.size≤1000000000)(hb:F+hi≤d.size)(hlo:lo≤d.size):CallS J 302 p sp d cap [.int .i64 (lo:Int), .int .i64 (hi:Int), .int .i64 (F:Int)] ro (.tuple #[]) (siftDown ltInt hi F lo d):=by
 refine CallS.intro hJ Kr fun c cs tail hret=>?_
 let J:=J
 refine enter_X (n:=76) func302 U U (Nl U) ?_
 have C:Ctx prog main J (bf 302 .normal):=⟨hJ,by decide⟩
 refine Xm W W<|Ae W<|Xb<|X.loopI (ι:=Nat×Array Int) C.1 (fun s=>s.2.size=d.size∧s.1≤d.size∧siftDown ltInt hi F s.1 s.2=siftDown ltInt hi F lo d) (fun s=> [(0, .slice (some ⟨p,0,none⟩) d.size cap),(2, .int .i64 (hi:Int)),(3, .int .i64 (F:Int)),(8, .int .i64 (s.1:Int))])
  (fun s=>⟨ro,(p, .cells (vals s.2++sp).toArray 3 (0,0))::tail⟩) (fun s=>hi-s.1) (lo,d) ⟨rfl,hlo,rfl⟩ rfl ⟨U,U,U,U,trivial⟩ fun s hs hnext=>?_
 obtain⟨root,d1⟩:=s
 obtain⟨h1,h2,hs⟩:=hs
 simp only at h1 h2 hs hnext⊢
 refine Xb<|Xm W W<|Ri Z (b_mul O O)<|Rb Y<|Ae W<|Xx W<|Oo W W<|Ri Z b_geq<|Zc U (fun hge=>?_) (fun hge=>?_)
 ·simp only [ge_iff_le,decide_eq_true_eq] at hge
  rw [sift_end O] at hs
  refine Xe U<|X.fall C U U func302 U (by exact .nil) ?_
  exact hret _ _ rfl hs
 ·simp only [ge_iff_le,decide_eq_false_iff_not] at hge
  refine Xz<|Xv<|Xv<|Xf fun hok=>Dt 0 Y<|Dj 1 Y5 (b_add O O)<|Dt 2 Y<|Dj 3 Y5 b_lss<|Dt 4 Y<|D.fix (t:=21) U (fun hg=>?_) (fun hg=>?_)
  ·simp only [dT] at hg
   refine Dt 5 Y<|Dt 6 Y<|Dt 7 Y<|Dj 8 Y5 (b_add O O)<|Dw 9 Y A58 B3<|Db 10 W G3 V (vals_at (k:=F+(2*root+1)) O O)<|Dt 11 Y<|Dt 12 Y<|Dt 13 Y<|Dj 14 Y5 (b_add O O)<|Dj 15 Y5 (b_add O O)<|Dw 16 Y A58 B3<|Db 17 W G3 V (vals_at (k:=F+(2*root+1)+1) O O)<|De 18 (some 35) [false,false] hok (fun _ _ A hk=>?_)
   refine R.callP C U (A.w U U) (A.x U U) (A.s U U) (less_c hJ _ _ _) (hk _ _ ⟨QFs.nil, ?_⟩)
   refine Dp 19 hok (fun _ _ _ A h=>R.pickT C U (A.w U U) (A.x U U) (A.x U U) h)<|Dn<|Xc U (fun hch=>?_) (fun hch=>?_)
   ·rw [sift_two O hch] at hs
    refine Xg W<|Ro W<|Rb Y<|Ae W<|Xv<|Xv<|Xf fun hok=>Dt 0 Y<|Dt 1 Y<|Dt 2 Y<|Dj 3 Y5 (b_add O O)<|Dw 4 Y A58 B3<|Db 5 W G3 V (vals_at (k:=F+root) O O)<|Dt 6 Y<|Dt 7 Y<|Dt 8 Y<|Dj 9 Y5 (b_add O O)<|Dw 10 Y A58 B3<|Db 11 W G3 V (vals_at (k:=F+(2*root+2)) O O)<|De 12 (some 51) [false,false] hok (fun _ _ A hk=>?_)
    refine R.callP C U (A.w U U) (A.x U U) (A.s U U) (less_c hJ _ _ _) (hk _ _ ⟨QFs.nil, ?_⟩)
    refine Dp 13 hok (fun _ _ _ A h=>R.not C U (A.w U U) (A.x U U) h)<|Dn<|Xc U (fun hl=>?_) (fun hl=>?_)
    ·simp only [Bool.not_eq_true'] at hl
     rw [if_pos (by simpa using hl)] at hs
     refine X.ret C U U func302 U (by exact .nil) ?_
     exact hret _ _ rfl hs
    ·simp only [Bool.not_eq_false'] at hl
     rw [if_neg (by simp [hl])] at hs
     refine Xz<|Xv<|Xf fun hok=>Dt 0 Y<|Dt 1 Y<|Dt 2 Y<|Dj 3 Y5 (b_add O O)<|Dt 4 Y<|Dt 5 Y<|Dt 6 Y<|Dj 7 Y5 (b_add O O)<|Dt 8 Y<|Dt 9 Y<|Dt 10 Y<|Dj 11 Y5 (b_add O O)<|Dw 12 Y A58 B3<|Db 13 W G3 V (vals_at (k:=F+(2*root+2)) O O)<|Dt 14 Y<|Dt 15 Y<|Dt 16 Y<|Dj 17 Y5 (b_add O O)<|Dw 18 Y A58 B3<|Db 19 W G3 V (vals_at (k:=F+root) O O)<|Dw 20 Y A58 B3<|De 21 none [false,false] hok (fun _ _ A hk=>?_)
     refine R.store C U (A.w U U) (A.x U U) (A.x U U) B3 U U U V (vals_put (k:=F+root) O O) (hk undef _ ⟨QFs.nil, ?_⟩)
     refine Dw 22 Y A58 B3<|De 23 none [] hok (fun _ _ A hk=>?_)
     refine R.store C U (A.w U U) (A.x U U) (A.x U U) B3 U U U V (vals_put (k:=F+(2*root+2)) O Zo) (hk undef _ ⟨QFs.nil, ?_⟩)
     refine Dn<|Xg W<|Ro W<|Ae W<|Xi<|X.weaken ?_ (hnext ((2*root+2),swp d1 (F+root) (F+(2*root+2))) ⟨by simpa [swp] using h1,by simp;omega,hs⟩ Zo)
     exact⟨rfl,rfl,rfl,congrArg (fun z=>some (Value.int .i64 z)) O,trivial⟩
   ·rw [sift_one O (.inr hch)] at hs
    refine Xz<|Xv<|Xv<|Xf fun hok=>Dt 0 Y<|Dt 1 Y<|Dt 2 Y<|Dj 3 Y5 (b_add O O)<|Dw 4 Y A58 B3<|Db 5 W G3 V (vals_at (k:=F+root) O O)<|Dt 6 Y<|Dt 7 Y<|Dt 8 Y<|Dj 9 Y5 (b_add O O)<|Dw 10 Y A58 B3<|Db 11 W G3 V (vals_at (k:=F+(2*root+1)) O O)<|De 12 (some 51) [false,false] hok (fun _ _ A hk=>?_)
    refine R.callP C U (A.w U U) (A.x U U) (A.s U U) (less_c hJ _ _ _) (hk _ _ ⟨QFs.nil, ?_⟩)
    refine Dp 13 hok (fun _ _ _ A h=>R.not C U (A.w U U) (A.x U U) h)<|Dn<|Xc U (fun hl=>?_) (fun hl=>?_)
    ·simp only [Bool.not_eq_true'] at hl
     rw [if_pos (by simpa using hl)] at hs
     refine X.ret C U U func302 U (by exact .nil) ?_
     exact hret _ _ rfl hs
    ·simp only [Bool.not_eq_false'] at hl
     rw [if_neg (by simp [hl])] at hs
     refine Xz<|Xv<|Xf fun hok=>Dt 0 Y<|Dt 1 Y<|Dt 2 Y<|Dj 3 Y5 (b_add O O)<|Dt 4 Y<|Dt 5 Y<|Dt 6 Y<|Dj 7 Y5 (b_add O O)<|Dt 8 Y<|Dt 9 Y<|Dt 10 Y<|Dj 11 Y5 (b_add O O)<|Dw 12 Y A58 B3<|Db 13 W G3 V (vals_at (k:=F+(2*root+1)) O O)<|Dt 14 Y<|Dt 15 Y<|Dt 16 Y<|Dj 17 Y5 (b_add O O)<|Dw 18 Y A58 B3<|Db 19 W G3 V (vals_at (k:=F+root) O O)<|Dw 20 Y A58 B3<|De 21 none [false,false] hok (fun _ _ A hk=>?_)
     refine R.store C U (A.w U U) (A.x U U) (A.x U U) B3 U U U V (vals_put (k:=F+root) O O) (hk undef _ ⟨QFs.nil, ?_⟩)
     refine Dw 22 Y A58 B3<|De 23 none [] hok (fun _ _ A hk=>?_)
     refine R.store C U (A.w U U) (A.x U U) (A.x U U) B3 U U U V (vals_put (k:=F+(2*root+1)) O Zo) (hk undef _ ⟨QFs.nil, ?_⟩)
     refine Dn<|Xg W<|Ro W<|Ae W<|Xi<|X.weaken ?_ (hnext ((2*root+1),swp d1 (F+root) (F+(2*root+1))) ⟨by simpa [swp] using h1,by simp;omega,hs⟩ Zo)
     exact⟨rfl,rfl,rfl,congrArg (fun z=>some (Value.int .i64 z)) O,trivial⟩
  ·simp only [dF] at hg
   refine Dr 5 U<|Dr 6 U<|Dr 7 U<|Dr 8 U<|Dr 9 U<|Dr 10 U<|Dr 11 U<|Dr 12 U<|Dr 13 U<|Dr 14 U<|Dr 15 U<|Dr 16 U<|Dr 17 U<|Dr 18 U<|Dp 19 hok (fun _ _ _ A h=>R.pickF C U (A.w U U) (A.x U U) (A.x U U) h)<|Dn<|Xc U (fun h=>nomatch h) (fun _=>?_)
   refine Xz<|Xv<|Xv<|Xf fun hok=>Dt 0 Y<|Dt 1 Y<|Dt 2 Y<|Dj 3 Y5 (b_add O O)<|Dw 4 Y A58 B3<|Db 5 W G3 V (vals_at (k:=F+root) O O)<|Dt 6 Y<|Dt 7 Y<|Dt 8 Y<|Dj 9 Y5 (b_add O O)<|Dw 10 Y A58 B3<|Db 11 W G3 V (vals_at (k:=F+(2*root+1)) O O)<|De 12 (some 51) [false,false] hok (fun _ _ A hk=>?_)
   refine R.callP C U (A.w U U) (A.x U U) (A.s U U) (less_c hJ _ _ _) (hk _ _ ⟨QFs.nil, ?_⟩)
   refine Dp 13 hok (fun _ _ _ A h=>R.not C U (A.w U U) (A.x U U) h)<|Dn ?_
   rw [sift_one O (.inl O)] at hs
   refine Xc U (fun hl=>?_) (fun hl=>?_)
   ·simp only [Bool.not_eq_true'] at hl
    rw [if_pos (by simpa using hl)] at hs
    refine X.ret C U U func302 U (by exact .nil) ?_
    exact hret _ _ rfl hs
   ·simp only [Bool.not_eq_false'] at hl
    rw [if_neg (by simp [hl])] at hs
    refine Xz<|Xv<|Xf fun hok=>Dt 0 Y<|Dt 1 Y<|Dt 2 Y<|Dj 3 Y5 (b_add O O)<|Dt 4 Y<|Dt 5 Y<|Dt 6 Y<|Dj 7 Y5 (b_add O O)<|Dt 8 Y<|Dt 9 Y<|Dt 10 Y<|Dj 11 Y5 (b_add O O)<|Dw 12 Y A58 B3<|Db 13 W G3 V (vals_at (k:=F+(2*root+1)) O O)<|Dt 14 Y<|Dt 15 Y<|Dt 16 Y<|Dj 17 Y5 (b_add O O)<|Dw 18 Y A58 B3<|Db 19 W G3 V (vals_at (k:=F+root) O O)<|Dw 20 Y A58 B3<|De 21 none [false,false] hok (fun _ _ A hk=>?_)
    refine R.store C U (A.w U U) (A.x U U) (A.x U U) B3 U U U V (vals_put (k:=F+root) O O) (hk undef _ ⟨QFs.nil, ?_⟩)
    refine Dw 22 Y A58 B3<|De 23 none [] hok (fun _ _ A hk=>?_)
    refine R.store C U (A.w U U) (A.x U U) (A.x U U) B3 U U U V (vals_put (k:=F+(2*root+1)) O Zo) (hk undef _ ⟨QFs.nil, ?_⟩)
    refine Dn<|Xg W<|Ro W<|Ae W<|Xi<|X.weaken ?_ (hnext ((2*root+1),swp d1 (F+root) (F+(2*root+1))) ⟨by simpa [swp] using h1,by simp;omega,hs⟩ Zo)
    exact⟨rfl,rfl,rfl,congrArg (fun z=>some (Value.int .i64 z)) O,trivial⟩
theorem heapSort_c{a b:Nat}(hn:d.size≤1000000000)(hab:a≤b)(hb:b≤d.size):CallS J 238 p sp d cap [.int .i64 (a:Int), .int .i64 (b:Int)] ro (.tuple #[]) (heapSort ltInt d a b):=by
 refine CallS.intro hJ Kr fun c cs tail hret=>?_
 let J:=J
 have hq:((b:Int) -a-1).tdiv 2=(((b-a-1) /2:Nat):Int):=by
  rcases Nat.lt_or_eq_of_le hab with h|h
  ·rw [Int.tdiv_eq_ediv_of_nonneg O];omega
  ·subst h;rw [show(a:Int) -a-1= -1 by omega,show a-a-1=0 by omega];rfl
 refine enter_X (n:=56) func238 U U (Nl U) ?_
 have C:Ctx prog main J (bf 238 .normal):=⟨hJ,by decide⟩
 refine Xm W W<|Ae W<|Xo W W<|Xm W W<|Ro W<|Ri Z (b_sub O O)<|Ae W<|Xx W<|Ro W<|Ri Z (b_sub O O)<|Ri Z (b_quo Dd O O)<|R.fixv (t:=17) (v':= .int .i64 ((((b-a-1) /2:Nat):Nat):Int)) U (by exact congrArg (Value.int .i64) hq)<|Ae W<|Xb<|X.loopI (ι:=Nat×Array Int) C.1 (fun s=>s.2.size=d.size∧s.1≤(b-a-1) /2+1∧heapBuild ltInt (b-a) a s.1 s.2=heapBuild ltInt (b-a) a ((b-a-1) /2+1) d) (fun s=> [(0, .slice (some ⟨p,0,none⟩) d.size cap),(6, .int .i64 (a:Int)),(7, .int .i64 0),(8, .int .i64 ((b-a:Nat):Int)),(9, .int .i64 ((s.1:Int) -1))])
  (fun s=>⟨ro,(p, .cells (vals s.2++sp).toArray 3 (0,0))::tail⟩) (fun s=>s.1) ((b-a-1) /2+1,d) ⟨rfl,Nat.le_refl _,rfl⟩ rfl ⟨rfl,rfl,rfl,congrArg (fun z=>some (Value.int .i64 z)) O,congrArg (fun z=>some (Value.int .i64 z)) O,trivial⟩ fun s hs hnext=>?_
 obtain⟨k,d1⟩:=s
 obtain⟨h1,h2,hs⟩:=hs
 simp only at h1 h2 hs hnext⊢
 refine Xx W<|Ro W<|Ri Z b_geq<|Zj U (fun hge=>?_) (fun hge=>?_)
 ·obtain⟨k,rfl⟩:∃k',k=k'+1:=⟨k-1,O⟩
  have hcall:=siftDown_c hJ (p:=p) (sp:=sp) (d:=d1) (cap:=cap) (lo:=k) (hi:=b-a) (F:=a) (ro:=ro) O O O
  unfold CallS at hcall
  rw [h1] at hcall
  refine Xz<|Xv<|Xb<|Xg W<|Oo W W<|R.fixv (t:=23) (v':= .int .i64 (k:Int)) U (by(congr 1;omega))<|Oo W W<|R.call C U U U U U hcall fun v' ro' pre' hle' hp'=>Rz<|Xi<|Xg W ?_
  obtain⟨rfl,rfl,rfl⟩:=hp'
  refine Ro W<|Ri Z (b_sub O O)<|Ae W<|X.weaken ?_ (hnext (k,siftDown ltInt (b-a) a k d1) ⟨by rw [siftDown_size _ _ _ _ _ (Nat.le_refl _)];exact h1,by simp;omega,hs⟩ Zi)
  exact⟨rfl,rfl,rfl,rfl,congrArg (fun z=>some (Value.int .i64 z)) O,trivial⟩
 ·obtain rfl:k=0:=by omega
  simp only [heapBuild] at hs
  refine Xe U<|Xm W W<|Ri Z (b_sub O O)<|Ae W<|Xb<|X.loopI (ι:=Nat×Array Int) C.1 (fun s=>s.2.size=d.size∧s.1≤b-a∧heapPop ltInt a s.1 s.2=heapSort ltInt d a b) (fun s=> [(0, .slice (some ⟨p,0,none⟩) d.size cap),(6, .int .i64 (a:Int)),(7, .int .i64 0),(10, .int .i64 ((s.1:Int) -1))])
   (fun s=>⟨ro,(p, .cells (vals s.2++sp).toArray 3 (0,0))::tail⟩) (fun s=>s.1) (b-a,d1) ⟨h1,Nat.le_refl _,by rw [hs];rfl⟩ rfl ⟨rfl,rfl,rfl,congrArg (fun z=>some (Value.int .i64 z)) O,trivial⟩ fun s hs2 hnext2=>?_
  obtain⟨k,d2⟩:=s
  obtain⟨k1,k2,k3⟩:=hs2
  simp only at k1 k2 k3 hnext2⊢
  refine Xx W<|Ro W<|Ri Z b_geq<|Zj U (fun hge2=>?_) (fun hge2=>?_)
  ·obtain⟨k,rfl⟩:∃k',k=k'+1:=⟨k-1,O⟩
   have hsz:(swp d2 a (a+k)).size=d.size:=by simpa [swp] using k1
   have hcall:=siftDown_c hJ (p:=p) (sp:=sp) (d:=swp d2 a (a+k)) (cap:=cap) (lo:=0) (hi:=k) (F:=a) (ro:=ro) O O O
   unfold CallS at hcall
   rw [hsz] at hcall
   refine Xz<|Xv<|Xb<|Xv<|Xf fun hok=>Dt 0 Y<|Dt 1 Y<|Dt 2 Y<|Dt 3 Y<|Dt 4 Y<|Dj 5 Y5 (b_add O O)<|Dt 6 Y<|Dt 7 Y<|Dt 8 Y<|Dj 9 Y5 (b_add O O)<|Dw 10 Y A58 B3<|Db 11 W G3 V (vals_at (k:=a+k) O O)<|Dt 12 Y<|Dt 13 Y<|Dw 14 Y A58 B3<|Db 15 W G3 V (vals_at (k:=a) O O)<|Dw 16 Y A58 B3<|De 17 none [false,false] hok (fun _ _ A hk=>?_)
   refine R.store C U (A.w U U) (A.x U U) (A.x U U) B3 U U U V (vals_put (k:=a) O O) (hk undef _ ⟨QFs.nil, ?_⟩)
   refine Dw 18 Y A58 B3<|De 19 none [] hok (fun _ _ A hk=>?_)
   refine R.store C U (A.w U U) (A.x U U) (A.x U U) B3 U U U V (vals_put (k:=a+k) O Zo) (hk undef _ ⟨QFs.nil, ?_⟩)
   refine Dn<|Xg W<|Oo W W<|Ro W<|R.fixv (t:=53) (v':= .int .i64 (k:Int)) U (by(congr 1;omega))<|Ro W<|R.call C U U U U U hcall fun v' ro' pre' hle' hp'=>Rz<|Xi<|Xg W ?_
   obtain⟨rfl,rfl,rfl⟩:=hp'
   refine Ro W<|Ri Z (b_sub O O)<|Ae W<|X.weaken ?_ (hnext2 (k,siftDown ltInt k a 0 (swp d2 a (a+k))) ⟨by rw [siftDown_size _ _ _ _ _ (Nat.le_refl _)];exact hsz,by simp;omega,k3⟩ Zi)
   exact⟨rfl,rfl,rfl,congrArg (fun z=>some (Value.int .i64 z)) O,trivial⟩
  ·obtain rfl:k=0:=by omega
   simp only [heapPop] at k3
   refine Xe U<|X.fall C U U func238 U (by exact .nil) ?_
   exact hret _ _ rfl k3
end Go.Lg.B
namespace Go.Lg.B
open Go Go.Conc Go.Lg Go.Proofs Go.Proofs.Tryz
open Go.Sort (ltInt swp order2 median medianAdjacent choosePivot reverseLoop reverseRange Hint)
variable {a b cap i j n p q s:Nat}{d:Array Int}{sp:List Value}{ro:RO}
theorem rev_go(h:i<j):reverseLoop i j d=reverseLoop (i+1) (j-1) (swp d i j):=by rw [reverseLoop,if_pos h]
theorem rev_stop(h:j≤i):reverseLoop i j d=d:=by rw [reverseLoop,if_neg O]
def CallQ(J:Goroutine→Mem→Prop)(f:FuncId)(p q:Nat)(sp:List Value)(d:Array Int)(s:Nat)(args:List Value)(ro:RO)(v:Value)(s':Nat):Prop:=
 CallV prog J (fnv f) args ro [(q, .cells [.int .i64 (s:Int)].toArray 3 (0,0)),(p, .cells (vals d++sp).toArray 3 (0,0))] fun v' ro' pre'=>v'=v∧ro'=ro∧pre'= [(q, .cells [.int .i64 (s':Int)].toArray 3 (0,0)),(p, .cells (vals d++sp).toArray 3 (0,0))]
def BackQ(J:Goroutine→Mem→Prop)(c:Frame)(cs:List Frame)(ro:RO)(tail:List (Nat×Obj))(p q:Nat)(sp:List Value)(d:Array Int)(v:Value)(s':Nat):Prop:=
 ∀v' s2,v'=v→s2=s'→J (G (c.finish v') cs) ⟨ro,(q, .cells [.int .i64 (s2:Int)].toArray 3 (0,0))::(p, .cells (vals d++sp).toArray 3 (0,0))::tail⟩
variable {main:Bool}{J:Goroutine→Mem→Prop}(hJ:Closed prog main J)
include hJ
theorem CallQ.intro{f:FuncId}{s':Nat}{args:List Value}{v:Value}(hc:callableB prog f=true)
  (h:∀c cs tail,BackQ J c cs ro tail p q sp d v s'→J (G (Frame.enter prog f args.toArray .normal) (c::cs)) ⟨ro,(q, .cells [.int .i64 (s:Int)].toArray 3 (0,0))::(p, .cells (vals d++sp).toArray 3 (0,0))::tail⟩):CallQ J f p q sp d s args ro v s':=
 CallV.intro (first:= []) (cap:= []) hJ hc fun c cs tail hret=>by
  have:=h c cs tail fun v' s2 e1 e2=>hret v' ro [(q, .cells [.int .i64 (s2:Int)].toArray 3 (0,0)),(p, .cells (vals d++sp).toArray 3 (0,0))] _ (RO.le_refl _) ⟨e1,rfl,by rw [e2]⟩ (.refl _)
  simpa using this
theorem reverseRange_c(hn:d.size≤1000000000)(hab:a<b)(hb:b≤d.size):CallS J 241 p sp d cap [.int .i64 (a:Int), .int .i64 (b:Int)] ro (.tuple #[]) (reverseRange d a b):=by
 refine CallS.intro hJ Kr fun c cs tail hret=>?_
 let J:=J
 refine enter_X (n:=32) func241 U U (Nl U) ?_
 have C:Ctx prog main J (bf 241 .normal):=⟨hJ,by decide⟩
 refine Xm W W<|Ae W<|Xm W W<|Ri Z (b_sub O O)<|Ae W<|Xb<|X.loopI (ι:=Nat×Nat×Array Int) C.1 (fun s=>s.2.2.size=d.size∧s.2.1<d.size∧s.1≤d.size∧reverseLoop s.1 s.2.1 s.2.2=reverseRange d a b) (fun s=> [(0, .slice (some ⟨p,0,none⟩) d.size cap),(6, .int .i64 (s.1:Int)),(7, .int .i64 (s.2.1:Int))])
  (fun s=>⟨ro,(p, .cells (vals s.2.2++sp).toArray 3 (0,0))::tail⟩) (fun s=>s.2.1-s.1) (a,b-1,d) ⟨rfl,by show b-1<d.size;omega,by show a≤d.size;omega,rfl⟩ rfl ⟨rfl,rfl,congrArg (fun z=>some (Value.int .i64 z)) (by show(b:Int) -1=((b-1:Nat):Int);omega),trivial⟩ fun s hs hnext=>?_
 obtain⟨i,j,d1⟩:=s
 obtain⟨h1,h2,h4,h3⟩:=hs
 simp only at h1 h2 h3 h4 hnext⊢
 refine Xx W<|Oo W W<|Ri Z b_lss<|Zj U (fun hlt=>?_) (fun hlt=>?_)
 ·rw [rev_go O] at h3
  refine Xz<|Xb<|Xv<|Xf fun hok=>Dt 0 Y<|Dt 1 Y<|Dt 2 Y<|Dt 3 Y<|Dt 4 Y<|Dt 5 Y<|Dw 6 Y A58 B3<|Db 7 W G3 V (vals_at (k:=j) O O)<|Dt 8 Y<|Dt 9 Y<|Dw 10 Y A58 B3<|Db 11 W G3 V (vals_at (k:=i) O O)<|Dw 12 Y A58 B3<|De 13 none [false,false] hok (fun _ _ A hk=>?_)
  refine R.store C U (A.w U U) (A.x U U) (A.x U U) B3 U U U V (vals_put (k:=i) O O) (hk undef _ ⟨QFs.nil, ?_⟩)
  refine Dw 14 Y A58 B3<|De 15 none [] hok (fun _ _ A hk=>?_)
  refine R.store C U (A.w U U) (A.x U U) (A.x U U) B3 U U U V (vals_put (k:=j) O Zo) (hk undef _ ⟨QFs.nil, ?_⟩)
  refine Dn<|Xm W W<|Rb Y<|Ae W<|Xg W<|Ro W<|Ri Z (b_sub O O)<|Ae W<|Xi<|X.weaken ?_ (hnext (i+1,j-1,swp d1 i j) ⟨by simpa [swp] using h1,by show j-1<d.size;omega,by show i+1≤d.size;omega,h3⟩ Zo)
  exact⟨rfl,by simp [look],congrArg (fun z=>some (Value.int .i64 z)) (by show(j:Int) -1=((j-1:Nat):Int);omega),trivial⟩
 ·rw [rev_stop O] at h3
  refine Xe U<|X.fall C U U func241 U (by exact .nil) ?_
  exact hret _ _ rfl h3
theorem order2_c(hn:d.size=n)(hn2:n≤1000000000)(ha:a<n)(hb:b<n)(hs:s≤1000):
  CallQ J 322 p q sp d s [.slice (some ⟨p,0,none⟩) n cap, .int .i64 (a:Int), .int .i64 (b:Int), .pointer (some ⟨q,0,none⟩)] ro (.tuple [.int .i64 ((order2 ltInt d a b s).1:Int), .int .i64 ((order2 ltInt d a b s).2.1:Int)].toArray) (order2 ltInt d a b s).2.2:=by
 refine CallQ.intro hJ Kr fun c cs tail hret=>?_
 let J:=J
 refine enter_X (n:=28) func322 U U (Nl U) ?_
 have C:Ctx prog main J (bf 322 .normal):=⟨hJ,by decide⟩
 refine Xu W<|Rg Y<|Ae W<|Xv<|Xv<|Xf fun hok=>Dt 0 Y<|Dt 1 Y<|Dw 2 Y A58 B3<|Db 3 W G3 V (vals_at (k:=b) O O)<|Dt 4 Y<|Dt 5 Y<|Dw 6 Y A58 B3<|Db 7 W G3 V (vals_at (k:=a) O O)<|De 8 (some 18) [false,false] hok (fun _ _ A hk=>?_)
 refine R.callP C U (A.w U U) (A.x U U) (A.s U U) (less_c hJ _ _ _) (hk _ _ ⟨QFs.nil, ?_⟩)
 refine Dn<|Xc U (fun hl=>?_) (fun hl=>?_)
 ·have e:order2 ltInt d a b s=(b,a,s+1):=by rw [order2,if_pos hl]
  rw [e] at hret
  refine Xm W W<|R.nilCheck C U U U<|Rj W G3 V U<|Rb Y<|R.nilCheck C U U U<|Rs Z B3 Y V (.here .nil)<|Rz<|Xm W W<|Ro W<|Rg Y<|Ae W<|X.ret C U U func322 U (by exact .tmp U (.tmp U .nil)) ?_
  exact hret _ (s+1) rfl rfl
 ·have e:order2 ltInt d a b s=(a,b,s):=by rw [order2,if_neg (by simp [hl])]
  rw [e] at hret
  refine Xz<|Xm W W<|Ro W<|Rg Y<|Ae W<|X.ret C U U func322 U (by exact .tmp U (.tmp U .nil)) ?_
  exact hret _ s rfl rfl
omit hJ in
theorem order2_lt(ha:a<n)(hb:b<n):(order2 ltInt d a b s).1<n∧(order2 ltInt d a b s).2.1<n:=by
 rcases Go.Sort.order2_mem ltInt d a b s with⟨h1,h2⟩|⟨h1,h2⟩<;>rw [h1,h2]<;>exact⟨by assumption,by assumption⟩
theorem median_c{e:Nat}(hn:d.size=n)(hn2:n≤1000000000)(ha:a<n)(hb:b<n)(he:e<n)(hs:s≤900):
  CallQ J 306 p q sp d s [.slice (some ⟨p,0,none⟩) n cap, .int .i64 (a:Int), .int .i64 (b:Int), .int .i64 (e:Int), .pointer (some ⟨q,0,none⟩)] ro (.int .i64 ((median ltInt d a b e s).1:Int)) (median ltInt d a b e s).2:=by
 refine CallQ.intro hJ Kr fun c cs tail hret=>?_
 let J:=J
 have hm:median ltInt d a b e s=((order2 ltInt d (order2 ltInt d a b s).1 (order2 ltInt d (order2 ltInt d a b s).2.1 e (order2 ltInt d a b s).2.2).1 (order2 ltInt d (order2 ltInt d a b s).2.1 e (order2 ltInt d a b s).2.2).2.2).2.1,(order2 ltInt d (order2 ltInt d a b s).1 (order2 ltInt d (order2 ltInt d a b s).2.1 e (order2 ltInt d a b s).2.2).1 (order2 ltInt d (order2 ltInt d a b s).2.1 e (order2 ltInt d a b s).2.2).2.2).2.2):=rfl
 rw [hm] at hret
 have hr1:=order2_lt (d:=d) (s:=s) ha hb
 have hc1:=Go.Sort.order2_count (lt:=ltInt) d a b s
 have k1:=order2_c hJ (p:=p) (q:=q) (sp:=sp) (cap:=cap) (ro:=ro) hn hn2 ha hb (s:=s) O
 generalize order2 ltInt d a b s=r1 at hret hr1 hc1 k1
 have hr2:=order2_lt (d:=d) (s:=r1.2.2) hr1.2 he
 have hc2:=Go.Sort.order2_count (lt:=ltInt) d r1.2.1 e r1.2.2
 have k2:=order2_c hJ (p:=p) (q:=q) (sp:=sp) (cap:=cap) (ro:=ro) hn hn2 hr1.2 he (s:=r1.2.2) O
 generalize order2 ltInt d r1.2.1 e r1.2.2=r2 at hret hr2 hc2 k2
 have hr3:=order2_lt (d:=d) (s:=r2.2.2) hr1.1 hr2.1
 have k3:=order2_c hJ (p:=p) (q:=q) (sp:=sp) (cap:=cap) (ro:=ro) hn hn2 hr1.1 hr2.1 (s:=r2.2.2) O
 generalize order2 ltInt d r1.1 r2.1 r2.2.2=r3 at hret hr3 k3
 refine enter_X (n:=36) func306 U U (Nl U) ?_
 have C:Ctx prog main J (bf 306 .normal):=⟨hJ,by decide⟩
 refine Xo W W<|Xm W W<|Oo W W<|Ro W<|R.call C U U U U U k1 fun v1 ro1 pre1 hle1 hp1=>?_
 obtain⟨rfl,rfl,rfl⟩:=hp1
 refine Ro W<|Re Z<|Re Z<|Rg Y<|Ae W<|Xm W W<|Oo W W<|Ro W<|R.call C U U U U U k2 fun v1 ro1 pre1 hle1 hp1=>?_
 obtain⟨rfl,rfl,rfl⟩:=hp1
 refine Ro W<|Re Z<|Re Z<|Rg Y<|Ae W<|Xm W W<|Oo W W<|Ro W<|R.call C U U U U U k3 fun v1 ro1 pre1 hle1 hp1=>?_
 obtain⟨rfl,rfl,rfl⟩:=hp1
 refine Ro W<|Re Z<|Re Z<|Rg Y<|Ae W<|Xm W W<|Ae W<|X.ret C U U func306 U (by exact .tmp U .nil) ?_
 exact hret _ _ rfl rfl
theorem medianAdjacent_c(hn:d.size=n)(hn2:n≤1000000000)(ha:1≤a)(hb:a+1<n)(hs:s≤900):
  CallQ J 305 p q sp d s [.slice (some ⟨p,0,none⟩) n cap, .int .i64 (a:Int), .pointer (some ⟨q,0,none⟩)] ro (.int .i64 ((medianAdjacent ltInt d a s).1:Int)) (medianAdjacent ltInt d a s).2:=by
 refine CallQ.intro hJ Kr fun c cs tail hret=>?_
 let J:=J
 have k1:=median_c hJ (p:=p) (q:=q) (sp:=sp) (cap:=cap) (ro:=ro) (d:=d) (a:=a-1) (b:=a) (e:=a+1) hn hn2 O O O hs
 refine enter_X (n:=15) func305 U U (Nl U) ?_
 have C:Ctx prog main J (bf 305 .normal):=⟨hJ,by decide⟩
 refine Xo W W<|Xm W W<|Ro W<|Ri Z (b_sub O O)<|R.fixv (t:=9) (v':= .int .i64 ((a-1:Nat):Int)) U (by(congr 1;omega))<|Oo W W<|Rb Y<|R.fixv (t:=12) (v':= .int .i64 ((a+1:Nat):Int)) U (by rfl)<|Ro W<|R.call C U U U U U k1 fun v1 ro1 pre1 hle1 hp1=>?_
 obtain⟨rfl,rfl,rfl⟩:=hp1
 refine Ae W<|X.ret C U U func305 U (by exact .tmp U .nil) ?_
 exact hret _ _ rfl rfl
omit hJ in
def hintZ:Hint→Int
 | .unknown=>0
 | .increasing=>1
 | .decreasing=>2
theorem choosePivot_c(hn:d.size≤1000000000)(hab:a<b)(hb:b≤d.size):CallS J 240 p sp d cap [.int .i64 (a:Int), .int .i64 (b:Int)] ro (.tuple [.int .i64 ((choosePivot ltInt d a b).1:Int), .int .i64 (hintZ (choosePivot ltInt d a b).2)].toArray) d:=by
 refine CallS.intro hJ Kr fun c cs tail hret=>?_
 let J:=J
 refine enter_X (n:=57) F240 U U (Nl U) ?_
 have C:Ctx prog main J (bf 240 .normal):=⟨hJ,by decide⟩
 refine Xu W<|Rg Y<|Ae W<|Xm W W<|Ro W<|Ri Z (b_sub O O)<|Ae W<|Xu W<|Al W K3 U fun p9=>Rz<|Xm W W<|Ro W<|Ri Z (b_quoP O O Dd)<|Ri Z (b_mul O O)<|Rb Y<|R.fixv (t:=20) (v':= .int .i64 ((a+(b-a) /4*1:Nat):Int)) U (by(congr 1;omega))<|Ae W<|Xm W W<|Ro W<|Ri Z (b_quoP O O Dd)<|Ri Z (b_mul O O)<|Rb Y<|R.fixv (t:=25) (v':= .int .i64 ((a+(b-a) /4*2:Nat):Int)) U (by(congr 1;omega))<|Ae W<|Xm W W<|Ro W<|Ri Z (b_quoP O O Dd)<|Ri Z (b_mul O O)<|Rb Y<|R.fixv (t:=30) (v':= .int .i64 ((a+(b-a) /4*3:Nat):Int)) U (by(congr 1;omega))<|Ae W<|Xx W<|Ro W<|Ri Z b_geq<|Rz ?_;refine Xc U (fun h8=>?_) (fun h8=>?_)
 ·simp only [ge_iff_le,decide_eq_true_eq] at h8
  refine Xx W<|Ro W<|Ri Z b_geq<|Zc U (fun h50=>?_) (fun h50=>?_)
  ·simp only [ge_iff_le,decide_eq_true_eq] at h50
   have ki:=fun q=>medianAdjacent_c hJ (p:=p) (q:=q) (sp:=sp) (cap:=cap) (ro:=ro) (d:=d) (a:=a+(b-a) /4*1) (s:=0) rfl hn O O O
   have mi:=Go.Sort.medianAdjacent_mem ltInt d (a+(b-a) /4*1) 0
   have ci:=Go.Sort.medianAdjacent_count (lt:=ltInt) d (a+(b-a) /4*1) 0
   have hcp0:choosePivot ltInt d a b=((median ltInt d (medianAdjacent ltInt d (a+(b-a) /4*1) 0).1 (medianAdjacent ltInt d (a+(b-a) /4*2) (medianAdjacent ltInt d (a+(b-a) /4*1) 0).2).1 (medianAdjacent ltInt d (a+(b-a) /4*3) (medianAdjacent ltInt d (a+(b-a) /4*2) (medianAdjacent ltInt d (a+(b-a) /4*1) 0).2).2).1 (medianAdjacent ltInt d (a+(b-a) /4*3) (medianAdjacent ltInt d (a+(b-a) /4*2) (medianAdjacent ltInt d (a+(b-a) /4*1) 0).2).2).2).1,
     if(median ltInt d (medianAdjacent ltInt d (a+(b-a) /4*1) 0).1 (medianAdjacent ltInt d (a+(b-a) /4*2) (medianAdjacent ltInt d (a+(b-a) /4*1) 0).2).1 (medianAdjacent ltInt d (a+(b-a) /4*3) (medianAdjacent ltInt d (a+(b-a) /4*2) (medianAdjacent ltInt d (a+(b-a) /4*1) 0).2).2).1 (medianAdjacent ltInt d (a+(b-a) /4*3) (medianAdjacent ltInt d (a+(b-a) /4*2) (medianAdjacent ltInt d (a+(b-a) /4*1) 0).2).2).2).2=0 then Hint.increasing else if(median ltInt d (medianAdjacent ltInt d (a+(b-a) /4*1) 0).1 (medianAdjacent ltInt d (a+(b-a) /4*2) (medianAdjacent ltInt d (a+(b-a) /4*1) 0).2).1 (medianAdjacent ltInt d (a+(b-a) /4*3) (medianAdjacent ltInt d (a+(b-a) /4*2) (medianAdjacent ltInt d (a+(b-a) /4*1) 0).2).2).1 (medianAdjacent ltInt d (a+(b-a) /4*3) (medianAdjacent ltInt d (a+(b-a) /4*2) (medianAdjacent ltInt d (a+(b-a) /4*1) 0).2).2).2).2=12 then .decreasing else .unknown):=by
    unfold choosePivot
    simp only [ge_iff_le,if_pos (show 8≤b-a by omega),if_pos (show 50≤b-a by omega)]
   generalize medianAdjacent ltInt d (a+(b-a) /4*1) 0=ri at*
   have kj:=fun q=>medianAdjacent_c hJ (p:=p) (q:=q) (sp:=sp) (cap:=cap) (ro:=ro) (d:=d) (a:=a+(b-a) /4*2) (s:=ri.2) rfl hn O O O
   have mj:=Go.Sort.medianAdjacent_mem ltInt d (a+(b-a) /4*2) ri.2
   have cj:=Go.Sort.medianAdjacent_count (lt:=ltInt) d (a+(b-a) /4*2) ri.2
   generalize medianAdjacent ltInt d (a+(b-a) /4*2) ri.2=rj at*
   have kk:=fun q=>medianAdjacent_c hJ (p:=p) (q:=q) (sp:=sp) (cap:=cap) (ro:=ro) (d:=d) (a:=a+(b-a) /4*3) (s:=rj.2) rfl hn O O O
   have mk:=Go.Sort.medianAdjacent_mem ltInt d (a+(b-a) /4*3) rj.2
   have ck:=Go.Sort.medianAdjacent_count (lt:=ltInt) d (a+(b-a) /4*3) rj.2
   generalize medianAdjacent ltInt d (a+(b-a) /4*3) rj.2=rk at*
   have km:=fun q=>median_c hJ (p:=p) (q:=q) (sp:=sp) (cap:=cap) (ro:=ro) (d:=d) (a:=ri.1) (b:=rj.1) (e:=rk.1) (s:=rk.2) rfl hn O O O O
   generalize median ltInt d ri.1 rj.1 rk.1 rk.2=rr at*
   have hcp:choosePivot ltInt d a b=(rr.1,if rr.2=0 then Hint.increasing else if rr.2=12 then .decreasing else .unknown):=hcp0
   refine Xm W W<|Ro W<|R.call C U U U U U (ki p9) fun v1 ro1 pre1 hle1 hp1=>?_
   obtain⟨rfl,rfl,rfl⟩:=hp1
   refine Ae W<|Xm W W<|Ro W<|R.call C U U U U U (kj p9) fun v1 ro1 pre1 hle1 hp1=>?_
   obtain⟨rfl,rfl,rfl⟩:=hp1
   refine Ae W<|Xg W<|Oo W W<|R.call C U U U U U (kk p9) fun v1 ro1 pre1 hle1 hp1=>?_
   obtain⟨rfl,rfl,rfl⟩:=hp1
   refine Ae W<|Xg W<|Oo W W<|Oo W W<|R.call C U U U U U (km p9) fun v1 ro1 pre1 hle1 hp1=>?_
   obtain⟨rfl,rfl,rfl⟩:=hp1
   refine Ae W<|Xu W<|Rj W G3 V U<|Rz<|Xb<|Xu W<|Ri Z b_eql<|Ae W<|Xc U (fun hz=>?_) (fun hz=>?_)
   ·have hz':rr.2=0:=by simpa using hz
    rw [hcp,if_pos hz'] at hret
    refine Xm W W<|Rg Y<|Ae W<|X.drop C.1 (own':=_::tail) (List.sublist_cons_self _ _)<|X.ret C U U F240 U (by exact .tmp U (.tmp U .nil)) ?_
    exact hret _ _ rfl rfl
   ·have hz':¬rr.2=0:=by simpa using hz
    rw [hcp,if_neg hz'] at hret
    refine Xu W<|Ri Z b_eql<|Ae W<|Xc U (fun hy=>?_) (fun hy=>?_)
    ·have hy':rr.2=12:=by simp at hy;omega
     rw [if_pos hy'] at hret
     refine Xm W W<|Rg Y<|Ae W<|X.drop C.1 (own':=_::tail) (List.sublist_cons_self _ _)<|X.ret C U U F240 U (by exact .tmp U (.tmp U .nil)) ?_
     exact hret _ _ rfl rfl
    ·have hy':¬rr.2=12:=by simp at hy;omega
     rw [if_neg hy'] at hret
     refine Xm W W<|Rg Y<|Ae W<|X.drop C.1 (own':=_::tail) (List.sublist_cons_self _ _)<|X.ret C U U F240 U (by exact .tmp U (.tmp U .nil)) ?_
     exact hret _ _ rfl rfl
  ·simp only [ge_iff_le,decide_eq_false_iff_not] at h50
   have km:=fun q=>median_c hJ (p:=p) (q:=q) (sp:=sp) (cap:=cap) (ro:=ro) (d:=d) (a:=a+(b-a) /4*1) (b:=a+(b-a) /4*2) (e:=a+(b-a) /4*3) (s:=0) rfl hn O O O O
   have hcp0:choosePivot ltInt d a b=((median ltInt d (a+(b-a) /4*1) (a+(b-a) /4*2) (a+(b-a) /4*3) 0).1,if(median ltInt d (a+(b-a) /4*1) (a+(b-a) /4*2) (a+(b-a) /4*3) 0).2=0 then Hint.increasing else if(median ltInt d (a+(b-a) /4*1) (a+(b-a) /4*2) (a+(b-a) /4*3) 0).2=12 then .decreasing else .unknown):=by
    unfold choosePivot
    simp only [ge_iff_le,if_pos (show 8≤b-a by omega),if_neg (show¬50≤b-a by omega)]
   generalize median ltInt d (a+(b-a) /4*1) (a+(b-a) /4*2) (a+(b-a) /4*3) 0=rr at*
   have hcp:=hcp0
   refine Xz<|Xg W<|Oo W W<|Oo W W<|R.call C U U U U U (km p9) fun v1 ro1 pre1 hle1 hp1=>?_
   obtain⟨rfl,rfl,rfl⟩:=hp1
   refine Ae W<|Xu W<|Rj W G3 V U<|Rz<|Xb<|Xu W<|Ri Z b_eql<|Ae W<|Xc U (fun hz=>?_) (fun hz=>?_)
   ·have hz':rr.2=0:=by simpa using hz
    rw [hcp,if_pos hz'] at hret
    refine Xm W W<|Rg Y<|Ae W<|X.drop C.1 (own':=_::tail) (List.sublist_cons_self _ _)<|X.ret C U U F240 U (by exact .tmp U (.tmp U .nil)) ?_
    exact hret _ _ rfl rfl
   ·have hz':¬rr.2=0:=by simpa using hz
    rw [hcp,if_neg hz'] at hret
    refine Xu W<|Ri Z b_eql<|Ae W<|Xc U (fun hy=>?_) (fun hy=>?_)
    ·have hy':rr.2=12:=by simp at hy;omega
     rw [if_pos hy'] at hret
     refine Xm W W<|Rg Y<|Ae W<|X.drop C.1 (own':=_::tail) (List.sublist_cons_self _ _)<|X.ret C U U F240 U (by exact .tmp U (.tmp U .nil)) ?_
     exact hret _ _ rfl rfl
    ·have hy':¬rr.2=12:=by simp at hy;omega
     rw [if_neg hy'] at hret
     refine Xm W W<|Rg Y<|Ae W<|X.drop C.1 (own':=_::tail) (List.sublist_cons_self _ _)<|X.ret C U U F240 U (by exact .tmp U (.tmp U .nil)) ?_
     exact hret _ _ rfl rfl
 ·simp only [ge_iff_le,decide_eq_false_iff_not] at h8
  have hcp:choosePivot ltInt d a b=(a+(b-a) /4*2,Hint.increasing):=by
   unfold choosePivot
   simp only [ge_iff_le,if_neg (show¬8≤b-a by omega)]
   rfl
  rw [hcp] at hret
  refine Xz<|Xu W<|Rj W G3 V U<|Rz<|Xb<|Xu W<|Ri Z b_eql<|Ae W<|Xc U (fun hz=>?_) (fun hz=>?_)
  ·refine Xm W W<|Rg Y<|Ae W<|X.drop C.1 (own':=_::tail) (List.sublist_cons_self _ _)<|X.ret C U U F240 U (by exact .tmp U (.tmp U .nil)) ?_
   exact hret _ _ rfl rfl
  ·simp at hz
end Go.Lg.B
