/-
  A part of the proof of Back: what its functions reckon, and plain laws. Conditions: the premises that each theorem states.
-/
import Derived.Test.YtlkmnfdipiielaaGreatDoorKD
import Derived.Laws.Strings
import Derived.Lib.UnsafeStr
import Derived.Lib.Bytealg
import Derived.Test.YtlkmnfdipiielaaGreatDoorProg
set_option maxRecDepth 100000
set_option maxHeartbeats 2000000
set_option linter.all false
namespace Go.Lg
open Go
theorem Bv{a c:Bool}(h:a=c):Value.bool a=Value.bool c:=congrArg _ h
end Go.Lg
namespace Go.Lg
open Go Go.Conc
variable {hi lo x y:Operand}{M:Mem}{ik ik':IntKind}{z:Int}
theorem bts_toList(l:List UInt8):(⟨l.toArray⟩:ByteArray).toList=l:=by rw [ByteArray.toList_eq]
theorem bts_append(p q:List UInt8):(⟨p.toArray⟩:ByteArray)++⟨q.toArray⟩=⟨(p++q).toArray⟩:=by
 apply ByteArray.ext
 rw [ByteArray.data_append]
 simp
theorem bts_size(l:List UInt8):(⟨l.toArray⟩:ByteArray).size=l.length:=rfl
theorem bts_extract(l:List UInt8)(i j:Nat):(⟨l.toArray⟩:ByteArray).extract i j=⟨((l.take j).drop i).toArray⟩:=by
 apply ByteArray.ext
 rw [ByteArray.data_extract]
 by_cases h:i≤j
 ·simp [List.take_drop,show i+(j-i)=j by omega]
 ·have e:(l.take j).drop i= []:=List.drop_of_length_le (by rw [List.length_take];omega)
  rw [e]
  simp [List.take_drop]
  omega
theorem bts_get(l:List UInt8)(i:Nat):(⟨l.toArray⟩:ByteArray)[i]? =l[i]? :=by
 by_cases h:i<l.length
 ·rw [List.getElem?_eq_getElem h]
  have:i<(⟨l.toArray⟩:ByteArray).size:=h
  rw [getElem?_pos (⟨l.toArray⟩:ByteArray) i this];rfl
 ·rw [List.getElem?_eq_none O]
  have:¬i<(⟨l.toArray⟩:ByteArray).size:=h
  rw [getElem?_neg (⟨l.toArray⟩:ByteArray) i this]
section
variable {P:Program}{t:TypeId}{p q:List UInt8}
theorem b_sadd(h:p.length+q.length≤9223372036854775807):∀M K,K (.string ⟨(p++q).toArray⟩) M→Sm P M (binOp .add t (.string ⟨p.toArray⟩) (.string ⟨q.toArray⟩)) K:=fun M K hk=>by
 have h2:¬(((⟨p.toArray⟩:ByteArray).size+(⟨q.toArray⟩:ByteArray).size:Nat):Int)>IntKind.i64.max:=by
  rw [bts_size,bts_size]
  simp only [IntKind.max,IntKind.signed,IntKind.bits]
  omega
 unfold binOp Op.stringOp
 simp only [if_neg h2,bts_append]
 exact Sm.pure hk
theorem b_seql:∀M K,K (.bool (p==q)) M→Sm P M (binOp .eql t (.string ⟨p.toArray⟩) (.string ⟨q.toArray⟩)) K:=fun M K hk=>by
 unfold binOp Op.stringOp
 simp only [bts_toList]
 exact Sm.pure hk
theorem b_sneq:∀M K,K (.bool (!(p==q))) M→Sm P M (binOp .neq t (.string ⟨p.toArray⟩) (.string ⟨q.toArray⟩)) K:=fun M K hk=>by
 unfold binOp Op.stringOp
 simp only [bts_toList]
 exact Sm.pure hk
end
section
variable {P:Program}{main:Bool}{J:Goroutine→Mem→Prop}{b:Frame}(C:Ctx P main J b){cs:List Frame}{n:Nat}{ds:List Deferred}{σ:Slots}{ro:RO}{own:List (Nat×Obj)}{k:List Item}{ops:Array Oper}{i:Nat}{rest:List Nat}
 {d:Nat} {ty:TypeId} {pos:String} {af:Array Edge} {g:Option (Nat×Bool)}
include C
theorem R.str{op:BinOp}{t t':TypeId}{p q:List UInt8}{v:Value}(ho:ops[i]? =some ⟨some d, .binOp op t x y t',ty,pos,af,g⟩)(hg:wantedS ops σ ⟨some d, .binOp op t x y t',ty,pos,af,g⟩=some true)
  (hx:ev σ x=some (.string ⟨p.toArray⟩)) (hy:ev σ y=some (.string ⟨q.toArray⟩)) (hv:∀M K,K v M→Sm P M (binOp op t (.string ⟨p.toArray⟩) (.string ⟨q.toArray⟩)) K) (h:R J b cs n ops rest k ds ((d,v)::σ) M):R J b cs n ops (i::rest) k ds σ M:=
 R.v C ho hg rfl (fun _ ha _ hk=>by
  unfold execOp
  simp only [ha.ev hx,ha.ev hy]
  exact Sm.bind (Sm.bind (eqGuard_string (hv _ _ (Sm.pure hk))))) h
theorem R.sLen{t:TypeId}{p:List UInt8}(ho:ops[i]? =some ⟨some d, .call ⟨.builtin .len, #[x], #[t]⟩,ty,pos,af,g⟩)(hg:wantedS ops σ ⟨some d, .call ⟨.builtin .len, #[x], #[t]⟩,ty,pos,af,g⟩=some true)(hx:ev σ x=some (.string ⟨p.toArray⟩))
  (hu:∀w,Sem.run P (Go.underlying t) w= .ok .string w) (h:R J b cs n ops rest k ds ((d, .int .i64 (p.length:Int))::σ) M):R J b cs n ops (i::rest) k ds σ M:=
 R.v C ho hg rfl (fun a ha K hk=>by
  unfold execOp
  refine Sm.bind ?_
  unfold resolve
  refine Sm.pure ?_
  unfold invoke builtin Builtin.len_
  have e1:(#[x].map a.eval)[0]? =some (.string ⟨p.toArray⟩):=by simp [ha.ev hx]
  simp only [e1]
  refine Sm.bind<|Sm.bind (Sm.underlying hu ?_)
  exact Sm.pure (Sm.pure hk)) h
theorem R.sIndex{t:TypeId}{p:List UInt8}{c:UInt8}(ho:ops[i]? =some ⟨some d, .index t x y,ty,pos,af,g⟩)(hg:wantedS ops σ ⟨some d, .index t x y,ty,pos,af,g⟩=some true)(hx:ev σ x=some (.string ⟨p.toArray⟩))(hy:ev σ y=some (.int ik z))
  (hu:∀w,Sem.run P (Go.underlying t) w= .ok .string w) (h0:0≤z) (hc:p[z.toNat]? =some c) (h:R J b cs n ops rest k ds ((d, .int .u8 (c.toNat:Int))::σ) M):R J b cs n ops (i::rest) k ds σ M:=
 R.v C ho hg rfl (fun a ha K hk=>by
  unfold execOp
  simp only [ha.ev hx,ha.ev hy]
  refine ex_v ?_
  unfold Instr.index asIntOf
  refine Sm.bind (Sm.pure (Sm.bind (Sm.underlying hu ?_)))
  simp only [h0,if_true,bts_get,hc]
  exact Sm.pure hk) h
theorem R.sSlice{t:TypeId}{p:List UInt8}{y:Int}(ho:ops[i]? =some ⟨some d, .slice t x (some lo) (some hi) none,ty,pos,af,g⟩)(hg:wantedS ops σ ⟨some d, .slice t x (some lo) (some hi) none,ty,pos,af,g⟩=some true)
  (hx:ev σ x=some (.string ⟨p.toArray⟩)) (hl:ev σ lo=some (.int ik y)) (hh:ev σ hi=some (.int ik' z)) (hu:∀w,Sem.run P (Go.underlying t) w= .ok .string w) (h0:0≤y) (h1:y≤z) (h2:z≤p.length)
  (h:R J b cs n ops rest k ds ((d, .string ⟨((p.take z.toNat).drop y.toNat).toArray⟩)::σ) M):R J b cs n ops (i::rest) k ds σ M:=
 R.v C ho hg rfl (fun _ ha _ hk=>by
  unfold execOp
  simp only [ha.ev hx,Option.map_some,Option.map_none,ha.ev hl,ha.ev hh]
  refine ex_v ?_
  unfold Instr.sliceAt
  refine Sm.bind (Sm.underlying hu ?_)
  simp only
  unfold Instr.slice
  refine Sm.bind (Sm.underlying hu ?_)
  simp only [Option.isSome_none,Bool.false_eq_true,if_false]
  unfold Instr.sliceBounds
  refine Sm.bind (Sm.bind (Sm.pure (Sm.bind (Sm.sliceBound O (by rw [bts_size];omega) (Sm.bind (Sm.sliceBound h0 O (Sm.pure ?_)))))))
  simp only [bts_extract]
  exact Sm.pure hk) h
theorem R.sFrom{t:TypeId}{p:List UInt8}{y:Int}(ho:ops[i]? =some ⟨some d, .slice t x (some lo) none none,ty,pos,af,g⟩)(hg:wantedS ops σ ⟨some d, .slice t x (some lo) none none,ty,pos,af,g⟩=some true)
  (hx:ev σ x=some (.string ⟨p.toArray⟩)) (hl:ev σ lo=some (.int ik y)) (hu:∀w,Sem.run P (Go.underlying t) w= .ok .string w) (h0:0≤y) (h1:y≤p.length)
  (h:R J b cs n ops rest k ds ((d, .string ⟨(p.drop y.toNat).toArray⟩)::σ) M):R J b cs n ops (i::rest) k ds σ M:=
 R.v C ho hg rfl (fun _ ha _ hk=>by
  unfold execOp
  simp only [ha.ev hx,Option.map_some,Option.map_none,ha.ev hl]
  refine ex_v ?_
  unfold Instr.sliceAt
  refine Sm.bind (Sm.underlying hu ?_)
  simp only
  unfold Instr.slice
  refine Sm.bind (Sm.underlying hu ?_)
  simp only [Option.isSome_none,Bool.false_eq_true,if_false]
  unfold Instr.sliceBounds
  refine Sm.bind (Sm.bind (Sm.pure (Sm.bind (Sm.pure (Sm.bind (Sm.sliceBound h0 (by rw [bts_size];omega) (Sm.pure ?_)))))))
  simp only [bts_extract,bts_size,List.take_length]
  exact Sm.pure hk) h
theorem R.sTo{t:TypeId}{p:List UInt8}(ho:ops[i]? =some ⟨some d, .slice t x none (some hi) none,ty,pos,af,g⟩)(hg:wantedS ops σ ⟨some d, .slice t x none (some hi) none,ty,pos,af,g⟩=some true)
  (hx:ev σ x=some (.string ⟨p.toArray⟩)) (hh:ev σ hi=some (.int ik' z)) (hu:∀w,Sem.run P (Go.underlying t) w= .ok .string w) (h0:0≤z) (h2:z≤p.length)
  (h:R J b cs n ops rest k ds ((d, .string ⟨(p.take z.toNat).toArray⟩)::σ) M):R J b cs n ops (i::rest) k ds σ M:=
 R.v C ho hg rfl (fun _ ha _ hk=>by
  unfold execOp
  simp only [ha.ev hx,Option.map_some,Option.map_none,ha.ev hh]
  refine ex_v ?_
  unfold Instr.sliceAt
  refine Sm.bind (Sm.underlying hu ?_)
  simp only
  unfold Instr.slice
  refine Sm.bind (Sm.underlying hu ?_)
  simp only [Option.isSome_none,Bool.false_eq_true,if_false]
  unfold Instr.sliceBounds
  refine Sm.bind (Sm.bind (Sm.pure (Sm.bind (Sm.sliceBound h0 (by rw [bts_size];omega) (Sm.bind (Sm.pure (Sm.pure ?_)))))))
  simp only [bts_extract,List.drop_zero]
  exact Sm.pure hk) h
end
end Go.Lg
namespace Go.Lg
open Go Go.Conc
variable {t:TypeId}
theorem Sm.freeze_own{P:Program}{M:Mem}{b n:Nat}{c:Array Value}{own':List (Nat×Obj)}{K:Unit→Mem→Prop}(hu:Upd M.own b (.cells c t (0,0)) (.cells c t (n,n+1)) own')(h:K () ⟨M.ro,own'⟩):Sm P M (Go.freeze {block:=b,off:=n} 1) K:=by
 intro w es hs
 have hb:=hs.own _ _ hu.mem
 refine⟨(),w.freeze {block:=b,off:=n} 1, #[],_,by rw [Array.append_empty];simp [Go.freeze,Sem.runT, -Sem.runT_eq],heap_upd hs hu #[] Zi (w':=w.freeze {block:=b,off:=n} 1) (fun x=>?_) ?_ U U rfl,h⟩
 ·simp only [World.freeze,show((1:Nat)=0)=False by simp,if_false]
  rw [getElem?_modify' _ _ _ _ hb]
  simp
 ·simp [World.freeze]
abbrev strV(s:List UInt8):Value:= .string ⟨s.toArray⟩
def bys(s:List UInt8):List Value:=s.map fun c=> .int .u8 (c.toNat:Int)
section
variable {P:Program}{main:Bool}{J:Goroutine→Mem→Prop}{b:Frame}(C:Ctx P main J b){cs:List Frame}{n:Nat}{ds:List Deferred}{σ:Slots}{ro:RO}{own:List (Nat×Obj)}{k:List Item}{ops:Array Oper}{i:Nat}{rest:List Nat}
 {d:Nat} {ty:TypeId} {pos:String} {af:Array Edge} {g:Option (Nat×Bool)}
include C
theorem R.toBytes{t' e:TypeId}{x:Operand}{s:List UInt8}(ho:ops[i]? =some ⟨some d, .convert t t' x,ty,pos,af,g⟩)(hg:wantedS ops σ ⟨some d, .convert t t' x,ty,pos,af,g⟩=some true)(hx:ev σ x=some (strV s))
  (hu:∀w,Sem.run P (Go.underlying t) w= .ok .string w) (hu':∀w,Sem.run P (Go.underlying t') w= .ok (.slice e) w) (he:∀w,Sem.run P (Go.underlying e) w= .ok (.int .u8) w)
  (h:∀p cap sp fq,s.length≤cap→R J b cs n ops rest k ds ((d, .slice (some ⟨p,0,none⟩) s.length cap)::σ) ⟨ro,(p, .cells (bys s++sp).toArray e fq)::own⟩):R J b cs n ops (i::rest) k ds σ ⟨ro,own⟩:=
 R.op C ho hg rfl fun a ha=>by
  unfold execOp
  simp only [ha.ev hx]
  refine ex_v ?_
  unfold Go.convert
  refine Sm.bind (Sm.underlying hu (Sm.bind (Sm.underlying hu' ?_)))
  simp only
  refine Sm.bind (Sm.underlying he ?_)
  simp only
  unfold Conv.stringToBytes
  refine Sm.bind (Sm.choose fun nc hnc=>?_)
  have hge:s.length≤nc:=by
   rcases hnc with⟨h,_⟩|⟨_,t,rfl⟩
   ·simp [Question.forced] at h
   ·simp only [Question.cut,bts_size];omega
  unfold newRow
  have e1:(s.toArray.map (fun c:UInt8=>Value.int .u8 (c.toNat:Int))++Array.replicate (nc- (⟨s.toArray⟩:ByteArray).size) (Value.int .u8 0))=(bys s++List.replicate (nc-s.length) (Value.int .u8 0)).toArray:=by
   apply Array.ext';simp [bys,bts_size]
  simp only [e1]
  refine Sm.bind (Sm.bind (Sm.newObj fun p _ _=>Sm.pure ?_))
  refine Sm.bind ?_
  unfold markStringish
  refine Sm.bind (Sm.shape_own List.mem_cons_self ?_)
  refine Sm.freeze_own .here ?_
  exact Sm.pure (h p nc _ _ hge)
end
end Go.Lg
namespace Go.Lg
open Go Go.Conc
variable {e t:TypeId}{M:Mem}
theorem R.neEq{P:Program}{main:Bool}{J:Goroutine→Mem→Prop}{b:Frame}(C:Ctx P main J b){cs:List Frame}{n:Nat}{ds:List Deferred}{σ:Slots}{k:List Item}{ops:Array Oper}{i:Nat}{rest:List Nat}{d:Nat}{ty:TypeId}{pos:String}{af:Array Edge}{g:Option (Nat×Bool)}
  {t':TypeId} {x y:Operand} {p q:List Value} {r:Bool} (ho:ops[i]? =some ⟨some d, .binOp .neq t x y t',ty,pos,af,g⟩) (hg:wantedS ops σ ⟨some d, .binOp .neq t x y t',ty,pos,af,g⟩=some true)
  (hx:ev σ x=some (.agg p.toArray)) (hy:ev σ y=some (.agg q.toArray)) (ht:Eq1 P 10000 t (.agg p.toArray) (.agg q.toArray) r) (hd:P.eqGuardType P.depth t=false)
  (h:R J b cs n ops rest k ds ((d, .bool (!r))::σ) M):R J b cs n ops (i::rest) k ds σ M:=
 R.v C ho hg rfl (fun a ha K hk=>by
  unfold execOp
  simp only [ha.ev hx,ha.ev hy]
  refine ex_v (Sm.bind ?_)
  unfold eqGuard
  refine Sm.bind (Sm.program (Sm.bind (Sm.program ?_)))
  rw [hd]
  refine Sm.pure ?_
  show Sm P M (binOp .neq t (.agg p.toArray) (.agg q.toArray)) _
  unfold binOp
  simp only
  exact Sm.bind (ht _ _ (Sm.pure hk))) h
def capOk(v:Value):Prop:= ∃bs len cap,v= .slice bs len cap∧len≤cap
theorem Buf.capOk{k:Nat}{tail own:List (Nat×Obj)}{v:Value}{cells:List Value}(h:Buf e k tail v cells own):capOk v:=by
 cases h with
 |nil=>exact⟨_,_,_,rfl,Nat.le_refl _⟩
 |blk c1 c2 c3=>exact⟨_,_,_,rfl,c3⟩
theorem X.afterI{J:Goroutine→Mem→Prop}{b:Frame}{cs:List Frame}{n:Nat}{ds:List Deferred}{σ:Slots}{k:List Item}{it:Item}{ι:Type}(Ex:ι→Prop)(σe:ι→Slots)(Me:ι→Mem)(hk:∀s,Ex s→X J b cs n k ds (σe s) (Me s))
  (h:(∀s,Ex s→X J b cs n k ds (σe s) (Me s))→X J b cs n (it::k) ds σ M):X J b cs n (it::k) ds σ M:=h hk
section
variable {P:Program}{main:Bool}{J:Goroutine→Mem→Prop}{b:Frame}(C:Ctx P main J b){cs:List Frame}{n:Nat}{ds:List Deferred}{σ:Slots}{k:List Item}{ops:Array Oper}{i:Nat}{rest:List Nat}
 {d:Nat} {ty:TypeId} {pos:String} {af:Array Edge} {g:Option (Nat×Bool)}
include C
theorem R.buildA{len kk:Nat}{z:Value}{zl out vs:List Value}{parts:List (Nat×Operand)}(ho:ops[i]? =some ⟨some d, .build t parts.toArray,ty,pos,af,g⟩)(hg:wantedS ops σ ⟨some d, .build t parts.toArray,ty,pos,af,g⟩=some true)
  (hp:pvals σ parts=some (numbered 0 vs)) (hz:∀w,Sem.run P (Go.zeroValue t) w= .ok z w) (hzl:z.cells=zl.toArray) (hu:∀w,Sem.run P (Go.underlying t) w= .ok (.array len e) w) (hs:∀w,Sem.run P (Go.sizeOf e) w= .ok kk w) (hl:zl.length=vs.length*kk) (hc:Cat kk vs out)
  (h:R J b cs n ops rest k ds ((d, .agg out.toArray)::σ) M):R J b cs n ops (i::rest) k ds σ M:=
 R.v C ho hg rfl (fun a ha K hk=>by
  unfold execOp
  have e:(parts.toArray.map fun(x:Nat×Operand)=>(x.1,a.eval x.2))=(numbered 0 vs).toArray:=by rw [List.map_toArray,ha.pvals hp]
  refine ex_v ?_
  show Sm P M (Instr.build t (parts.toArray.map fun(x:Nat×Operand)=>(x.1,a.eval x.2))) _
  rw [e]
  unfold Instr.build
  refine Sm.bind (Sm.zeroValue hz (Sm.bind (Sm.underlying hu ?_)))
  simp only
  refine Sm.bind (Sm.sizeOf hs ?_)
  have hf:=fill_cat hc 0 [] zl Zi hl
  rw [List.nil_append,List.nil_append] at hf
  rw [hzl,hf]
  exact Sm.pure hk) h
end
end Go.Lg
namespace Go.Lg
open Go Go.Conc
variable {op:BinOp}{v x y:Value}{r:Bool}{tt tx u:TypeId}{a:Addr}{bb m off:Nat}{c:Array Value}{fq:Nat×Nat}{s:List UInt8}{l:List Value}{K:Value→Mem→Prop}
section
variable {P:Program}{main:Bool}{J:Goroutine→Mem→Prop}{b:Frame}(C:Ctx P main J b){cs:List Frame}{n:Nat}{ds:List Deferred}{σ:Slots}{k:List Item}{ops:Array Oper}{i:Nat}{rest:List Nat}
 {d:Nat} {dst:Option Nat} {ty:TypeId} {pos:String} {af:Array Edge} {g:Option (Nat×Bool)} {ro:RO} {own:List (Nat×Obj)} {M:Mem}
def Cmp(P:Program)(op:BinOp)(t:TypeId)(X Y:Operand)(x y:Value)(r:Bool):Prop:=
 ∀ (M:Mem) (K:Value→Mem→Prop),K (.bool r) M→Sm P M (do eqGuard op t X Y x y;binOp op t x y) K
include C in
theorem R.cmp{t t':TypeId}{X Y:Operand}(ho:ops[i]? =some ⟨some d, .binOp op t X Y t',ty,pos,af,g⟩)(hg:wantedS ops σ ⟨some d, .binOp op t X Y t',ty,pos,af,g⟩=some true)(hx:ev σ X=some x)(hy:ev σ Y=some y)
  (hc:Cmp P op t X Y x y r) (h:R J b cs n ops rest k ds ((d, .bool r)::σ) M):R J b cs n ops (i::rest) k ds σ M:=
 R.v C ho hg rfl (fun a ha K hk=>by
  unfold execOp
  simp only [ha.ev hx,ha.ev hy]
  exact ex_v (hc _ _ hk)) h
theorem Cmp.eql{t:TypeId}{X Y:Operand}(hgd:∀M (K:Unit→Mem→Prop),K () M→Sm P M (eqGuard .eql t X Y x y) K)(hb:binOp .eql t x y=(do pure (.bool (←Op.equal t x y))))(he:∀M (K:Bool→Mem→Prop),K r M→Sm P M (Op.equal t x y) K):Cmp P .eql t X Y x y r:=
 fun M K hk=>Sm.bind (hgd _ _ (by rw [hb];exact Sm.bind (he _ _ (Sm.pure hk))))
theorem Cmp.neq{t:TypeId}{X Y:Operand}(hgd:∀M (K:Unit→Mem→Prop),K () M→Sm P M (eqGuard .neq t X Y x y) K)(hb:binOp .neq t x y=(do pure (.bool (!(←Op.equal t x y)))))(he:∀M (K:Bool→Mem→Prop),K r M→Sm P M (Op.equal t x y) K):Cmp P .neq t X Y x y (!r):=
 fun M K hk=>Sm.bind (hgd _ _ (by rw [hb];exact Sm.bind (he _ _ (Sm.pure hk))))
theorem guardPtr{t:TypeId}{X Y:Operand}{p q:Option Addr}:∀M (K:Unit→Mem→Prop),K () M→Sm P M (eqGuard op t X Y (.pointer p) (.pointer q)) K:=fun M K hk=>by
 unfold eqGuard
 cases op<;>exact Sm.pure hk
theorem guardIf{t:TypeId}{X Y:Operand}:∀M (K:Unit→Mem→Prop),K () M→Sm P M (eqGuard op t X Y (.iface tx v) .nilIface) K:=fun M K hk=>by
 unfold eqGuard
 cases op<;>exact Sm.pure hk
theorem guardNil{t:TypeId}{X:Operand}{c:Value}:∀M (K:Unit→Mem→Prop),K () M→Sm P M (eqGuard op t X (.const c) .nilIface .nilIface) K:=fun M K hk=>by
 unfold eqGuard
 cases op<;>first|exact Sm.pure hk|(cases X<;>exact Sm.pure hk)
section
variable {t e:TypeId}{X Y:Operand}(hu:∀w,Sem.run P (Go.underlying t) w= .ok (.pointer e) w)
include hu
theorem ptr_nn:∀M (K:Bool→Mem→Prop),K true M→Sm P M (Op.equal t (.pointer none) (.pointer none)) K:=fun M K hk=>by
 unfold Op.equal Op.equalIn
 exact Sm.bind (Sm.underlying hu (Sm.pure hk))
theorem ptr_sn:∀M (K:Bool→Mem→Prop),K false M→Sm P M (Op.equal t (.pointer (some a)) (.pointer none)) K:=fun M K hk=>by
 unfold Op.equal Op.equalIn
 exact Sm.bind (Sm.underlying hu (Sm.pure hk))
theorem ptr_ss(hz:∀w,Sem.run P (Go.sizeOf e) w= .ok (m+1) w):∀M (K:Bool→Mem→Prop),K true M→Sm P M (Op.equal t (.pointer (some a)) (.pointer (some a))) K:=fun M K hk=>by
 unfold Op.equal Op.equalIn
 refine Sm.bind (Sm.underlying hu (Sm.bind (Sm.sizeOf hz ?_)))
 rw [if_pos O]
 unfold sameAddr
 simp only [beq_self_eq_true,if_true]
 exact Sm.pure hk
end
section
variable {t:TypeId}{ms:Array (String×TypeId)}(hu:∀w,Sem.run P (Go.underlying t) w= .ok (.interface ms) w)
include hu
theorem if_nn:∀M (K:Bool→Mem→Prop),K true M→Sm P M (Op.equal t .nilIface .nilIface) K:=fun M K hk=>by
 unfold Op.equal Op.equalIn
 exact Sm.bind (Sm.underlying hu (Sm.pure hk))
theorem if_sn:∀M (K:Bool→Mem→Prop),K false M→Sm P M (Op.equal t (.iface tx v) .nilIface) K:=fun M K hk=>by
 unfold Op.equal Op.equalIn
 exact Sm.bind (Sm.underlying hu (Sm.pure hk))
end
theorem Sm.viewAt_own{r:Nat}{t:TypeId}{K:Option (Addr×TypeId)→Mem→Prop}(hm:(r,Obj.cells c t fq)∈M.own)(h:K none M):Sm P M (viewAt r) K:=by
 unfold viewAt
 refine Sm.bind (Sm.shape_own hm ?_)
 simp only [Option.isSome_some,if_true]
 exact Sm.pure h
theorem Sm.seenAt_own{t:TypeId}{K:Addr→Mem→Prop}(hm:(a.block,Obj.cells c t fq)∈M.own)(h:K a M):Sm P M (Conv.seenAt a) K:=by
 unfold Conv.seenAt
 exact Sm.bind (Sm.viewAt_own hm (Sm.pure h))
include C in
theorem R.toUns{s t:TypeId}{X:Operand}(ho:ops[i]? =some ⟨some d, .convert s t X,ty,pos,af,g⟩)(hg:wantedS ops σ ⟨some d, .convert s t X,ty,pos,af,g⟩=some true)(hx:ev σ X=some (.pointer (some ⟨bb,off,none⟩)))
  (hs:∀w,Sem.run P (Go.underlying s) w= .ok (.pointer u) w) (ht:∀w,Sem.run P (Go.underlying t) w= .ok .unsafePointer w) (hz:∀w,Sem.run P (Go.sizeOf u) w= .ok (m+1) w) (hm:(bb,Obj.cells l.toArray tt fq)∈own) (hlt:off<l.length)
  (h:R J b cs n ops rest k ds ((d, .pointer (some ⟨bb,off,none⟩))::σ) ⟨ro,own⟩):R J b cs n ops (i::rest) k ds σ ⟨ro,own⟩:=
 R.v C ho hg rfl (fun a ha K hk=>by
  unfold execOp
  simp only [ha.ev hx]
  refine ex_v ?_
  unfold Go.convert
  refine Sm.bind (Sm.underlying hs (Sm.bind (Sm.underlying ht ?_)))
  simp only
  unfold Conv.unsafePointer
  refine Sm.bind (Sm.underlying hs (Sm.bind (Sm.underlying ht ?_)))
  simp only
  refine Sm.bind (Sm.seenAt_own (M:=⟨ro,own⟩) hm ?_)
  unfold cellsIn
  refine Sm.bind (Sm.bind (Sm.shape_own (M:=⟨ro,own⟩) hm ?_))
  simp only
  refine Sm.pure<|Sm.bind (Sm.sizeOf hz ?_)
  have e:(decide (m+1=0)||(decide (off≥l.toArray.size) && (none:Option Nat).isNone))=false:=by simp;omega
  rw [if_neg (by rw [e];simp)]
  exact Sm.pure hk) h
include C in
theorem R.ofUns{s t:TypeId}{X:Operand}(ho:ops[i]? =some ⟨some d, .convert s t X,ty,pos,af,g⟩)(hg:wantedS ops σ ⟨some d, .convert s t X,ty,pos,af,g⟩=some true)(hx:ev σ X=some (.pointer (some ⟨bb,off,none⟩)))
  (hs:∀w,Sem.run P (Go.underlying s) w= .ok .unsafePointer w) (ht:∀w,Sem.run P (Go.underlying t) w= .ok (.pointer u) w) (hz:∀w,Sem.run P (Go.sizeOf u) w= .ok (m+1) w) (hm:(bb,Obj.cells l.toArray tt fq)∈own) (hl:liesAt P P.depth tt (l.length/P.cellsOf tt) off u 1=true)
  (h:R J b cs n ops rest k ds ((d, .pointer (some ⟨bb,off,none⟩))::σ) ⟨ro,own⟩):R J b cs n ops (i::rest) k ds σ ⟨ro,own⟩:=
 R.v C ho hg rfl (fun a ha K hk=>by
  unfold execOp
  simp only [ha.ev hx]
  refine ex_v ?_
  unfold Go.convert
  refine Sm.bind (Sm.underlying hs (Sm.bind (Sm.underlying ht ?_)))
  simp only
  unfold Conv.unsafePointer
  refine Sm.bind (Sm.underlying hs (Sm.bind (Sm.underlying ht ?_)))
  simp only
  refine Sm.bind (Sm.seenAt_own (M:=⟨ro,own⟩) hm ?_)
  refine Sm.bind (Sm.sizeOf hz ?_)
  unfold variablesAt
  refine Sm.bind (Sm.bind (Sm.program (Sm.bind (Sm.shape_own (M:=⟨ro,own⟩) hm ?_))))
  simp only [List.size_toArray]
  refine Sm.pure ?_
  rw [hl,if_pos Zi]
  exact Sm.pure hk) h
include C in
theorem R.nilC{x:Operand}{ad:Addr}(ho:ops[i]? =some ⟨some d, .nilCheck x,ty,pos,af,g⟩)(hg:wantedS ops σ ⟨some d, .nilCheck x,ty,pos,af,g⟩=some true)(hx:ev σ x=some (.pointer (some ad)))
  (h:R J b cs n ops rest k ds ((d, .pointer (some ad))::σ) M):R J b cs n ops (i::rest) k ds σ M:=
 R.v C ho hg rfl (fun _ ha _ hk=>by unfold execOp;simp only [ha.ev hx];exact Sm.pure hk) h
include C in
theorem R.convN{x:Operand}{s t:TypeId}{td:TypeDesc}{k1 k2:IntKind}{m v:Int}(ho:ops[i]? =some ⟨some d, .convert s t x,ty,pos,af,g⟩)(hg:wantedS ops σ ⟨some d, .convert s t x,ty,pos,af,g⟩=some true)(hx:ev σ x=some (.int k1 m))
  (hs:∀w,Sem.run P (Go.underlying s) w= .ok td w) (ht:∀w,Sem.run P (Go.underlying t) w= .ok (.int k2) w) (hv:k2.wrap m=v) (h:R J b cs n ops rest k ds ((d, .int k2 v)::σ) M):R J b cs n ops (i::rest) k ds σ M:=
 R.v C ho hg rfl (fun _ ha _ hk=>by
  unfold execOp;simp only [ha.ev hx]
  refine ex_v ?_
  unfold convert
  refine Sm.bind (Sm.underlying hs (Sm.bind (Sm.underlying ht ?_)))
  unfold Conv.intToInt
  subst hv
  exact Sm.pure hk) h
include C in
theorem R.extS{f:FuncId}{fn:Func}{xs:List Operand}{vs:List Value}{ats:Array TypeId}{row:Array Value→Sem Value}(ho:ops[i]? =some ⟨dst, .call ⟨.value (.func f),xs.toArray,ats⟩,ty,pos,af,g⟩)(hg:wantedS ops σ ⟨dst, .call ⟨.value (.func f),xs.toArray,ats⟩,ty,pos,af,g⟩=some true)
  (hx:evs σ xs=some vs) (hf:P.funcs[f]? =some fn) (hname:(fn.name== "runtime.NumGoroutine")=false) (hb:fn.body.isNone=true) (hn:Extern.findNext fn=none) (he:Extern.find fn=some row)
  (h:Sm P M (row vs.toArray) fun v M'=>R J b cs n ops rest k ds (putS dst v σ) M'):R J b cs n ops (i::rest) k ds σ M:=
 R.op C ho hg rfl fun a ha=>by
  unfold execOp
  refine Sm.bind ?_
  unfold resolve
  simp only [List.map_toArray,ha.evs hx]
  unfold Deferred.ofValue
  refine Sm.pure ?_
  unfold invoke
  unfold Go.callFunc
  refine Sm.bind (Sm.program ?_)
  simp only [hf,hname,hb,Bool.false_eq_true,if_false,if_true]
  refine Sm.bind (Sm.mark (.inl ⟨_,rfl⟩) ?_)
  rw [hn]
  simp only
  rw [he]
  simp only
  have e:(#[]:Array Value)++vs.toArray++(#[]:Array Value)=vs.toArray:=by simp
  rw [e]
  exact Sm.bind (h.mono fun v M' hv=>Sm.pure hv)
theorem Sm.indexByte{c:UInt8}(h:K (.int .i64 (match s.findIdx? (· ==c) with|some j=>(j:Int)|none=> -1)) M):Sm P M (Extern.BytealgIndexByte.indexByte #[strV s, .int .u8 (c.toNat:Int)]) K:=by
 show Sm P M (do
  let b←Extern.Bytes.bytesOf (strV s)
  let c←Extern.Bytes.asByte (.int .u8 (c.toNat:Int))
  match(List.range b.size).find? fun i=>b[i]! ==c with
  |some i=>Pure.pure (goInt i)
  |none=>Pure.pure (goInt (-1))) K
 refine Sm.bind (Sm.pure (Sm.bind (Sm.pure ?_)))
 have e1:((c.toNat:Int)).toNat.toUInt8=c:=by simp
 have e2:((List.range (⟨s.toArray⟩:ByteArray).size).find? fun i=>(⟨s.toArray⟩:ByteArray)[i]! ==((c.toNat:Int)).toNat.toUInt8)=s.findIdx? (· ==c):=by
  rw [e1,bts_size]
  have key:∀ (l:List UInt8) (m:Nat) (f:Nat→UInt8),(∀j,j<l.length→f (m+j)=l[j]!)→((List.range' m l.length).find? fun i=>f i==c)=(l.findIdx? (· ==c)).map (m+ ·):=by
   intro l
   induction l with
   |nil=>intro m f _;rfl
   |cons x l ih=>
    intro m f hf
    have h0:=hf 0 Zi
    simp only [Nat.add_zero,List.getElem!_cons_zero] at h0
    simp only [List.length_cons,List.range'_succ,List.find?_cons,h0,List.findIdx?_cons]
    cases hxc:(x==c) with
    |true=>simp
    |false=>
     rw [ih (m+1) f (fun j hj=>by
      have:=hf (j+1) Zo
      simp only [List.getElem!_cons_succ] at this
      rw [←this];congr 1;omega)]
     simp only [Bool.false_eq_true,if_false,Option.map_map]
     congr 1
     funext j;simp;omega
  have hk:=key s 0 (fun i=>(⟨s.toArray⟩:ByteArray)[i]!) (fun j hj=>by
   rw [Nat.zero_add]
   have hj2:j<(⟨s.toArray⟩:ByteArray).size:=hj
   rw [getElem!_pos (⟨s.toArray⟩:ByteArray) j hj2,getElem!_pos s j hj]
   rfl)
  rw [List.range_eq_range',hk]
  cases s.findIdx? (· ==c)<;>simp
 rw [e2]
 cases hfi:s.findIdx? (· ==c) with
 |none=>rw [hfi] at h;exact Sm.pure h
 |some j=>rw [hfi] at h;exact Sm.pure h
theorem Sm.countByte{c:UInt8}(h:K (.int .i64 (s.count c:Nat)) M):Sm P M (Extern.BytealgCount.count #[strV s, .int .u8 (c.toNat:Int)]) K:=by
 show Sm P M (do
  let b←Extern.Bytes.bytesOf (strV s)
  let c←Extern.Bytes.asByte (.int .u8 (c.toNat:Int))
  Pure.pure (goInt (b.foldl (fun n x=>if x==c then n+1 else n) (0:Nat)))) K
 refine Sm.bind (Sm.pure (Sm.bind (Sm.pure (Sm.pure ?_))))
 have e1:((c.toNat:Int)).toNat.toUInt8=c:=by simp
 have key:∀ (l:List UInt8) (m:Int),l.foldl (fun(n:Int) x=>if(x==c)=true then n+1 else n) m=m+(l.count c:Nat):=by
  intro l
  induction l with
  |nil=>intro m;simp
  |cons x l ih=>
   intro m
   rw [List.foldl_cons,ih,List.count_cons]
   split<;>omega
 have e2:=key s 0
 rw [Int.zero_add] at e2
 rw [e1,Lib.foldl_data]
 show K (goInt (s.foldl (fun(n:Int) x=>if(x==c)=true then n+1 else n) 0)) M
 rw [e2];exact h
end
end Go.Lg
namespace Go.Lg
open Go Go.Conc
variable {e t tp u:TypeId}{cap kk len m:Nat}{bs:Option Addr}{A ob tail:List (Nat×Obj)}{ps:Array TypeId}{v z:Value}{td:TypeDesc}{s:List UInt8}{c:UInt8}{name:String}{recv:Operand}{args:List Operand}{vs:List Value}
section
variable {P:Program}{main:Bool}{J:Goroutine→Mem→Prop}{b:Frame}(C:Ctx P main J b){cs:List Frame}{n:Nat}{ds:List Deferred}{σ:Slots}{k:List Item}{ops:Array Oper}{i:Nat}{rest:List Nat}
 {d:Nat} {dst:Option Nat} {ty:TypeId} {pos:String} {af:Array Edge} {g:Option (Nat×Bool)} {ro:RO} {own:List (Nat×Obj)} {M:Mem}
include C in
theorem R.capSlice{x:Operand}{bb:Option Addr}{M:Mem}(ho:ops[i]? =some ⟨some d, .call ⟨.builtin .cap, #[x], #[t]⟩,ty,pos,af,g⟩)(hg:wantedS ops σ ⟨some d, .call ⟨.builtin .cap, #[x], #[t]⟩,ty,pos,af,g⟩=some true)(hx:ev σ x=some (.slice bb len cap))
  (hu:∀w,Sem.run P (Go.underlying t) w= .ok (.slice e) w) (h:R J b cs n ops rest k ds ((d, .int .i64 (cap:Int))::σ) M):R J b cs n ops (i::rest) k ds σ M:=
 R.v C ho hg rfl (fun a ha K hk=>by
  unfold execOp
  refine Sm.bind ?_
  unfold resolve
  refine Sm.pure ?_
  unfold invoke builtin Builtin.cap_
  have e1:(#[x].map a.eval)[0]? =some (.slice bb len cap):=by simp [ha.ev hx]
  simp only [e1]
  refine Sm.bind<|Sm.bind (Sm.underlying hu ?_)
  exact Sm.pure (Sm.pure hk)) h
include C in
theorem R.sliceData{x:Operand}{cells:List Value}(ho:ops[i]? =some ⟨some d, .call ⟨.builtin .unsafeSliceData, #[x], #[t]⟩,tp,pos,af,g⟩)(hg:wantedS ops σ ⟨some d, .call ⟨.builtin .unsafeSliceData, #[x], #[t]⟩,tp,pos,af,g⟩=some true)
  (hx:ev σ x=some (.slice bs len cap)) (hu:∀w,Sem.run P (Go.underlying tp) w= .ok (.pointer u) w) (hb:Buf e kk tail (.slice bs len cap) cells ob) (hM:own=A++ob) (h:∀q,(0<len→q=bs)→R J b cs n ops rest k ds ((d, .pointer q)::σ) ⟨ro,own⟩):R J b cs n ops (i::rest) k ds σ ⟨ro,own⟩:=
 R.op C ho hg rfl fun a ha=>by
  unfold execOp
  refine Sm.bind ?_
  unfold resolve
  refine Sm.pure ?_
  unfold invoke builtin
  simp only [List.map_toArray,List.map_cons,List.map_nil,ha.ev hx]
  refine Sm.bind ?_
  unfold Builtin.unsafeSliceData_
  cases hb with
  |nil=>exact Sm.pure (Sm.pure (h _ fun _=>rfl))
  |blk c1 c2 c3=>
   rename_i p spare
   by_cases hc:cap=0
   ·subst hc
    have hm:(p,Obj.cells (cells++spare).toArray e (0,0))∈(⟨ro,own⟩:Mem).own:=by
     subst hM;exact List.mem_append.2 (.inr List.mem_cons_self)
    show Sm P ⟨ro,own⟩ (do
     if(0:Nat)≠0 then Pure.pure (Value.pointer (some ⟨p,0,none⟩))
     else if(←viewAt p).isSome then Pure.pure (Value.pointer (some ⟨p,0,none⟩))
     else Pure.pure (Value.pointer (some ⟨←newObj (.view ⟨p,0,none⟩ (←elemOf tp)),0,none⟩))) _
    rw [if_neg Zi]
    refine Sm.bind (Sm.viewAt_own hm ?_)
    simp only [Option.isSome_none,Bool.false_eq_true,if_false]
    unfold elemOf
    refine Sm.bind (Sm.bind (Sm.underlying hu ?_))
    simp only
    refine Sm.pure (Sm.bind (Sm.newObj fun q _ _=>?_))
    refine Sm.ghost fun w hs=>⟨_,Weak.sub (List.sublist_cons_self _ _) w hs,Sm.pure (Sm.pure (h _ fun hl=>?_))⟩
    omega
   ·obtain⟨m,rfl⟩:∃m,cap=m+1:=⟨cap-1,O⟩
    exact Sm.pure (Sm.pure (h _ fun _=>rfl))
theorem Sm.loadBytes_own{p:Nat}{L:List Value}{t:TypeId}{fq:Nat×Nat}(hm:(p,Obj.cells L.toArray t fq)∈M.own):∀ (l:List UInt8) (off:Nat) (acc:ByteArray) {K:ByteArray→Mem→Prop},(∀j (h:j<l.length),L[off+j]? =some (.int .u8 (l[j].toNat:Int)))→K ⟨acc.data++l.toArray⟩ M→Sm P M (Go.loadBytes ⟨p,off,none⟩ acc l.length) K
 | [],off,acc,K,_,hk=>by
  unfold Go.loadBytes
  exact Sm.pure (by simpa using hk)
 |x::l,off,acc,K,h,hk=>by
  unfold Go.loadBytes
  have h0:=h 0 Zi
  refine Sm.bind (Sm.load_own hm U (v:= .int .u8 (x.toNat:Int)) (by simpa using h0) ?_)
  simp only [add_addr]
  have e1:((x.toNat:Int)).toNat.toUInt8=x:=by simp
  rw [e1]
  refine Sm.loadBytes_own hm l (off+1) (acc.push x) (fun j hj=>?_) ?_
  ·have:=h (j+1) Zo
   rw [show off+1+j=off+(j+1) by omega]
   simpa using this
  ·have e:(acc.push x).data++l.toArray=acc.data++(x::l).toArray:=by
    show acc.data.push x++l.toArray=_
    apply Array.ext';simp
   rw [e];exact hk
theorem Sm.freezeN_own{p:Nat}{c:Array Value}{own':List (Nat×Obj)}{K:Unit→Mem→Prop}(hu:Upd M.own p (.cells c t (0,0)) (.cells c t (0,m+1)) own')(h:K () ⟨M.ro,own'⟩):Sm P M (Go.freeze {block:=p,off:=0} (m+1)) K:=by
 intro w es hs
 have hb:=hs.own _ _ hu.mem
 refine⟨(),w.freeze {block:=p,off:=0} (m+1), #[],_,by rw [Array.append_empty];simp [Go.freeze,Sem.runT, -Sem.runT_eq],heap_upd hs hu #[] Zi (w':=w.freeze {block:=p,off:=0} (m+1)) (fun x=>?_) ?_ U U rfl,h⟩
 ·simp only [World.freeze,show(m+1=0)=False by simp,if_false]
  rw [getElem?_modify' _ _ _ _ hb]
  simp
 ·simp [World.freeze]
theorem unsafeStr_def(tp ti ty:TypeId)(a:Addr)(N:Int):Builtin.unsafeString_ #[tp,ti] ty #[.pointer (some a), .int .i64 N]=(do
   let n←asInt (.int .i64 N)
   if n<0 then runtimePanic (.error "unsafe.String: len out of range")
   if n>IntKind.i64.max then unsupported (.unsafePointer "String: a length above the largest int")
   if n=0 then Pure.pure (.string .empty)
   else if←variablesAt a (←elemOf tp) n.toNat then do
    let s←Go.loadBytes a .empty n.toNat
    freeze a n.toNat
    Pure.pure (.string s)
   else unsupported (.unsafePointer "String: not so many bytes at ptr")):=rfl
include C in
theorem R.unsafeStr{ti:TypeId}{x y:Operand}{q:Option Addr}{l:List UInt8}(ho:ops[i]? =some ⟨some d, .call ⟨.builtin .unsafeString, #[x,y], #[tp,ti]⟩,ty,pos,af,g⟩)(hg:wantedS ops σ ⟨some d, .call ⟨.builtin .unsafeString, #[x,y], #[tp,ti]⟩,ty,pos,af,g⟩=some true)
  (hx:ev σ x=some (.pointer q)) (hy:ev σ y=some (.int .i64 (len:Int))) (hu:∀w,Sem.run P (Go.underlying tp) w= .ok (.pointer e) w) (hc:P.cellsOf e=1) (hb:Buf e 1 tail (.slice bs len cap) (bys l) ob) (hM:own=A++ob) (hq:0<len→q=bs) (hmax:l.length≤1000000000)
  (h:R J b cs n ops rest k ds ((d,strV l)::σ) ⟨ro,A++tail⟩):R J b cs n ops (i::rest) k ds σ ⟨ro,own⟩:=
 R.op C ho hg rfl fun a ha=>by
  have hll:l.length=len:=by
   generalize hz:bys l=z at hb
   cases hb with
   |nil=>have:=congrArg List.length hz;simpa [bys] using this
   |blk c1 _ _=>rw [←hz] at c1;simpa [bys] using c1
  have hdrop:∀ob',tail.Sublist ob'→Sm P ⟨ro,A++ob'⟩ (Pure.pure (Next.value (strV l)):Sem Next) (uponX P J b cs n (some d) ops i rest k ds σ):=fun ob' hs=>
   Sm.ghost fun w hw=>⟨_,Weak.sub (List.Sublist.append (List.Sublist.refl A) hs) w hw,Sm.pure h⟩
  unfold execOp
  refine Sm.bind ?_
  unfold resolve
  refine Sm.pure ?_
  unfold invoke builtin
  simp only [List.map_toArray,List.map_cons,List.map_nil,ha.ev hx,ha.ev hy]
  refine Sm.bind ?_
  subst hM
  by_cases h0:len=0
  ·subst h0
   have hl0:l= []:=List.length_eq_zero_iff.1 hll
   subst hl0
   have hpure:Sm P ⟨ro,A++ob⟩ (Builtin.unsafeString_ #[tp,ti] ty #[.pointer q, .int .i64 ((0:Nat):Int)]) fun v M'=>v=strV []∧M'=⟨ro,A++ob⟩:=by
    cases q with
    |none=>exact Sm.pure ⟨rfl,rfl⟩
    |some ad=>exact Sm.pure ⟨rfl,rfl⟩
   exact hpure.mono fun v M' ⟨e1,e2⟩=>by subst e1;subst e2;exact hdrop ob hb.sub
  ·obtain⟨m,rfl⟩:∃m,len=m+1:=⟨len-1,O⟩
   have hqb:=hq O
   subst hqb
   generalize hz:bys l=z at hb
   cases hb with
   |blk c1 c2 c3=>
    rename_i p spare
    subst hz
    rw [unsafeStr_def]
    have hm:(p,Obj.cells (bys l++spare).toArray e (0,0))∈(⟨ro,A++(p,Obj.cells (bys l++spare).toArray e (0,0))::tail⟩:Mem).own:=List.mem_append.2 (.inr List.mem_cons_self)
    have hmx:IntKind.i64.max=9223372036854775807:=rfl
    refine Sm.bind (Sm.pure (Sm.ite (fun h=>absurd h O) fun _=>Sm.ite (fun h=>absurd h (by rw [hmx];omega)) fun _=>Sm.ite (fun h=>absurd h O) fun _=>?_))
    unfold elemOf variablesAt
    refine Sm.bind (Sm.bind (Sm.underlying hu ?_))
    simp only
    refine Sm.pure (Sm.bind (Sm.bind (Sm.program (Sm.bind (Sm.shape_own hm ?_)))))
    simp only [List.size_toArray]
    refine Sm.pure ?_
    have hcl:(bys l++spare).length/P.cellsOf e=cap:=by rw [hc,c2];simp
    rw [hcl,Lib.liesAt_bytes hc cap _ (by simpa using c3),if_pos rfl]
    have e1:((m+1:Nat):Int).toNat=l.length:=O
    rw [e1]
    refine Sm.bind (Sm.loadBytes_own hm l 0 .empty (fun j hj=>?_) ?_)
    ·rw [Nat.zero_add,List.getElem?_append_left (by simpa [bys] using hj)]
     simp [bys,hj]
    ·rw [hll]
     refine Sm.bind (Sm.freezeN_own (own':=A++(p, .cells (bys l++spare).toArray e (0,m+1))::tail) (Upd.app A .here) ?_)
     have e2:(⟨ByteArray.empty.data++l.toArray⟩:ByteArray)=⟨l.toArray⟩:=by
      congr 1;simp
     rw [e2]
     exact Sm.pure (hdrop _ (List.sublist_cons_self _ _))
theorem digits_size:∀ (m t:Nat) (acc:Array Value),(Extern.BytealgMakeNoZero.digits m t acc).size=acc.size+m
 |0,_,acc=>rfl
 |m+1,t,acc=>by
  unfold Extern.BytealgMakeNoZero.digits
  rw [digits_size m];simp;omega
theorem smNoZero{K:Value→Mem→Prop}(hu:∀w,Sem.run P (Go.underlying t) w= .ok (.slice e) w)(hm:m≤1000000000000)(h:∀p cap (l:List Value),m≤cap→l.length=cap→K (.slice (some ⟨p,0,none⟩) m cap) ⟨M.ro,(p, .cells l.toArray e (0,0))::M.own⟩):
  Sm P M (Extern.BytealgMakeNoZero.makeNoZero ps #[t] #[.int .i64 (m:Int)]) K:=by
 have hroom:∀ {n:Nat} {K:Unit→Mem→Prop} {M:Mem},K () M→Sm P M (askRoom n) K:=by
  intro n K M hK
  unfold askRoom
  exact Sm.ite (fun _=>Sm.mark (.inr rfl) hK) (fun _=>Sm.pure hK)
 have key:Sm P M (do
   let cap←choose (.appendCap (m:Int).toNat 0 e)
   askRoom cap
   let bytes←choose (.extern "internal/bytealg.MakeNoZero.bytes" 0)
   let a←newRow e (Extern.BytealgMakeNoZero.digits cap bytes #[])
   Pure.pure (Value.slice (some a) (m:Int).toNat cap)) K:=by
  refine Sm.bind (Sm.choose fun cap hcap=>?_)
  have hge:m≤cap:=by
   rcases hcap with⟨h,_⟩|⟨_,t,rfl⟩
   ·simp [Question.forced] at h
   ·simp only [Question.cut];omega
  refine Sm.bind (hroom (Sm.bind (Sm.choose fun by' _=>?_)))
  unfold newRow
  refine Sm.bind (Sm.bind (Sm.newObj fun p _ _=>Sm.pure (Sm.pure ?_)))
  have:=h p cap (Extern.BytealgMakeNoZero.digits cap by' #[]).toList hge (by simp [digits_size])
  rw [Array.toArray_toList] at this
  simpa using this
 have e0:(decide ((m:Int)<0)||decide ((m:Int)>2^48))=false:=by
  rw [Bool.or_eq_false_iff];exact⟨by simp,by rw [dF];omega⟩
 show Sm P M (do
  match←Go.underlying t with
  | .slice elem=>
   if(decide ((m:Int)<0)||decide ((m:Int)>2^48))=true then runtimePanic (.error "makeslice: len out of range")
   let cap←choose (.appendCap (m:Int).toNat 0 elem)
   askRoom cap
   let bytes←choose (.extern "internal/bytealg.MakeNoZero.bytes" 0)
   let a←newRow elem (Extern.BytealgMakeNoZero.digits cap bytes #[])
   Pure.pure (.slice (some a) (m:Int).toNat cap)
  |_=>stuck "bytealg.MakeNoZero: slice type expected") K
 refine Sm.bind (Sm.underlying hu ?_)
 simp only
 rw [e0,if_neg Zi]
 exact key
include C in
theorem R.makeSlice{tin:TypeInfo}{x:Operand}{zl out:List Value}(ho:ops[i]? =some ⟨some d, .makeSlice t x x,ty,pos,af,g⟩)(hg:wantedS ops σ ⟨some d, .makeSlice t x x,ty,pos,af,g⟩=some true)(hx:ev σ x=some (.int .i64 (m:Int)))
  (hu:∀w,Sem.run P (Go.underlying t) w= .ok (.slice e) w) (hi:P.info? e=some tin) (hks:tin.size=kk) (hby:tin.bytes≤1000) (hz:tin.zero=some z) (hzl:z.cells=zl.toArray) (hzk:zl.length=kk) (hm:m≤1000000000)
  (hout:out.toArray=(Array.range (m*kk)).map (zl.toArray[· %zl.toArray.size]!))
  (h:∀p,R J b cs n ops rest k ds ((d, .slice (some ⟨p,0,none⟩) m m)::σ) ⟨ro,(p, .cells out.toArray e (0,0))::own⟩):R J b cs n ops (i::rest) k ds σ ⟨ro,own⟩:=
 R.op C ho hg rfl fun a ha=>by
  unfold execOp
  simp only [ha.ev hx]
  refine ex_v ?_
  unfold Instr.makeSlice
  refine Sm.bind (Sm.underlying hu ?_)
  simp only
  refine Sm.bind (Sm.pure (Sm.bind (Sm.pure (Sm.bind (Sm.typeInfo (info_type hi) ?_)))))
  have hw:IntKind.i64.wrap (m:Int)=m:=wrap64 O O
  have hb:(tin.bytes:Int)*(m:Int)≤1000*1000000000:=by
   have h1:tin.bytes*m≤1000*1000000000:=Nat.mul_le_mul hby hm
   omega
  simp only [asIntOf,hw]
  have e0:((decide ((m:Int)<0)||decide ((tin.bytes:Int)*(m:Int)>2^48))||decide ((m:Int)<0)||decide ((m:Int)>(m:Int)))=false:=by
   simp only [Bool.or_eq_false_iff,decide_eq_false_iff_not]
   refine⟨⟨⟨O,O⟩,O⟩,O⟩
  rw [e0,if_neg Zi]
  have hroom:∀ {n:Nat} {K:Unit→Mem→Prop} {M:Mem},K () M→Sm P M (askRoom n) K:=by
   intro n K M hK
   unfold askRoom
   exact Sm.ite (fun _=>Sm.mark (.inr rfl) hK) (fun _=>Sm.pure hK)
  have hsize:∀w,Sem.run P (Go.sizeOf e) w= .ok kk w:=fun w=>by rw [info_size hi w,hks]
  have hzv:∀w,Sem.run P (Go.zeroValue e) w= .ok z w:=fun w=>by simp [Go.zeroValue,Go.typeInfo,hi,hz]
  refine Sm.bind (hroom (Sm.bind (Sm.sizeOf hsize ?_)))
  simp only [Int.toNat_natCast]
  have hend:∀zz:Array Value,(m*kk=0→zz= #[])→(m*kk≠0→zz=zl.toArray)→Sm P ⟨ro,own⟩ (do
    let a←newRow e ((Array.range (m*kk)).map (zz[· %zz.size]!))
    Pure.pure (Value.slice (some a) m m)) fun v M'=>uponX P J b cs n (some d) ops i rest k ds σ (.value v) M':=by
   intro zz h1 h2
   have e1:(Array.range (m*kk)).map (zz[· %zz.size]!)=out.toArray:=by
    rw [hout]
    by_cases h0:m*kk=0
    ·rw [h0];simp
    ·rw [h2 h0]
   rw [e1]
   unfold newRow
   exact Sm.bind (Sm.bind (Sm.newObj fun p _ _=>Sm.pure (Sm.pure (h p))))
  exact Sm.ite (fun h0=>Sm.bind (Sm.pure (hend _ (fun _=>rfl) (fun h=>absurd h0 h)))) (fun h0=>Sm.bind (Sm.zeroValue hzv (Sm.bind (Sm.pure (hend _ (fun h=>absurd h h0) (fun _=>hzl))))))
include C in
theorem R.assertT{x:Operand}(ho:ops[i]? =some ⟨some d, .typeAssert x t u true,ty,pos,af,g⟩)(hg:wantedS ops σ ⟨some d, .typeAssert x t u true,ty,pos,af,g⟩=some true)(hx:ev σ x=some (.iface u v))
  (hu:∀w,Sem.run P (Go.underlying u) w= .ok td w) (hn:∀ms,td≠ .interface ms) (h:R J b cs n ops rest k ds ((d, .tuple [v, .bool true].toArray)::σ) M):R J b cs n ops (i::rest) k ds σ M:=
 R.v C ho hg rfl (fun a ha K hk=>by
  unfold execOp
  simp only [ha.ev hx]
  refine ex_v ?_
  unfold Instr.typeAssert
  refine Sm.bind (Sm.underlying hu ?_)
  cases td<;>first|exact absurd rfl (hn _)|(simp only [if_true];exact Sm.pure hk)) h
include C in
theorem R.assertF{tx:TypeId}{x:Operand}(ho:ops[i]? =some ⟨some d, .typeAssert x t u true,ty,pos,af,g⟩)(hg:wantedS ops σ ⟨some d, .typeAssert x t u true,ty,pos,af,g⟩=some true)(hx:ev σ x=some (.iface tx v))
  (hu:∀w,Sem.run P (Go.underlying u) w= .ok td w) (hn:∀ms,td≠ .interface ms) (hne:tx≠u) (hz:∀w,Sem.run P (Go.zeroValue u) w= .ok z w) (h:R J b cs n ops rest k ds ((d, .tuple [z, .bool false].toArray)::σ) M):R J b cs n ops (i::rest) k ds σ M:=
 R.v C ho hg rfl (fun a ha K hk=>by
  unfold execOp
  simp only [ha.ev hx]
  refine ex_v ?_
  unfold Instr.typeAssert
  refine Sm.bind (Sm.underlying hu ?_)
  cases td<;>first|exact absurd rfl (hn _)|(simp only [hne,if_false,if_true];exact Sm.bind (Sm.zeroValue hz (Sm.pure hk)))) h
section
variable {f:FuncId}{fn:Func}{ats:Array TypeId}{x y:Operand}
include C
theorem R.extByte(ho:ops[i]? =some ⟨dst, .call ⟨.value (.func f), [x,y].toArray,ats⟩,ty,pos,af,g⟩)(hg:wantedS ops σ ⟨dst, .call ⟨.value (.func f), [x,y].toArray,ats⟩,ty,pos,af,g⟩=some true)
  (hx:ev σ x=some (strV s)) (hy:ev σ y=some (.int .u8 (c.toNat:Int))) (hf:P.funcs[f]? =some fn) (hname:(fn.name== "runtime.NumGoroutine")=false) (hb:fn.body.isNone=true) (hn:Extern.findNext fn=none) (he:Extern.find fn=some Extern.BytealgIndexByte.indexByte)
  (h:R J b cs n ops rest k ds (putS dst (.int .i64 (match s.findIdx? (· ==c) with|some j=>(j:Int)|none=> -1)) σ) M):R J b cs n ops (i::rest) k ds σ M:=
 R.extS C ho hg (show evs σ [x,y]=some [strV s, .int .u8 (c.toNat:Int)] by simp only [evs,hx,hy]) hf hname hb hn he (Sm.indexByte h)
theorem R.extCount(ho:ops[i]? =some ⟨dst, .call ⟨.value (.func f), [x,y].toArray,ats⟩,ty,pos,af,g⟩)(hg:wantedS ops σ ⟨dst, .call ⟨.value (.func f), [x,y].toArray,ats⟩,ty,pos,af,g⟩=some true)
  (hx:ev σ x=some (strV s)) (hy:ev σ y=some (.int .u8 (c.toNat:Int))) (hf:P.funcs[f]? =some fn) (hname:(fn.name== "runtime.NumGoroutine")=false) (hb:fn.body.isNone=true) (hn:Extern.findNext fn=none) (he:Extern.find fn=some Extern.BytealgCount.count)
  (h:R J b cs n ops rest k ds (putS dst (.int .i64 (s.count c:Nat)) σ) M):R J b cs n ops (i::rest) k ds σ M:=
 R.extS C ho hg (show evs σ [x,y]=some [strV s, .int .u8 (c.toNat:Int)] by simp only [evs,hx,hy]) hf hname hb hn he (Sm.countByte h)
theorem R.extSame(ho:ops[i]? =some ⟨dst, .call ⟨.value (.func f), [x].toArray,ats⟩,ty,pos,af,g⟩)(hg:wantedS ops σ ⟨dst, .call ⟨.value (.func f), [x].toArray,ats⟩,ty,pos,af,g⟩=some true)
  (hx:ev σ x=some v) (hf:P.funcs[f]? =some fn) (hname:(fn.name== "runtime.NumGoroutine")=false) (hb:fn.body.isNone=true) (hn:Extern.findNext fn=none) (he:Extern.find fn=some Extern.AbiNoEscape.same)
  (h:R J b cs n ops rest k ds (putS dst v σ) M):R J b cs n ops (i::rest) k ds σ M:=
 R.extS C ho hg (show evs σ [x]=some [v] by simp only [evs,hx]) hf hname hb hn he (show Sm P M (Pure.pure v) _ from Sm.pure h)
theorem R.extNoZero(ho:ops[i]? =some ⟨dst, .call ⟨.value (.func f), [x].toArray,ats⟩,ty,pos,af,g⟩)(hg:wantedS ops σ ⟨dst, .call ⟨.value (.func f), [x].toArray,ats⟩,ty,pos,af,g⟩=some true)
  (hx:ev σ x=some (.int .i64 (m:Int))) (hf:P.funcs[f]? =some fn) (hname:(fn.name== "runtime.NumGoroutine")=false) (hb:fn.body.isNone=true) (hn:Extern.findNext fn=none) (he:Extern.find fn=some (Extern.BytealgMakeNoZero.makeNoZero ps #[t])) (hu:∀w,Sem.run P (Go.underlying t) w= .ok (.slice e) w) (hm:m≤1000000000000)
  (h:∀p cap (l:List Value),m≤cap→l.length=cap→R J b cs n ops rest k ds (putS dst (.slice (some ⟨p,0,none⟩) m cap) σ) ⟨ro,(p, .cells l.toArray e (0,0))::own⟩):R J b cs n ops (i::rest) k ds σ ⟨ro,own⟩:=
 R.extS C ho hg (show evs σ [x]=some [.int .i64 (m:Int)] by simp only [evs,hx]) hf hname hb hn he (smNoZero hu hm h)
end
structure MethOk(P:Program)(t:TypeId)(name:String)(f:FuncId):Prop where
 ex:∃ti m td,P.info? t=some ti∧ti.methods.find? (·.name==name)=some m∧m.path= #[]∧m.func=some (f,false)∧(∀w,Sem.run P (Go.underlying t) w= .ok td w)∧(∀e,td≠ .pointer e)
def methB(P:Program)(t:TypeId)(name:String)(f:FuncId):Bool:=
 match P.info? t,P.underlying t with
 |some ti,some td=>(match ti.methods.find? (·.name==name) with
  |some m=>m.path.isEmpty && m.func==some (f,false)
  |none=>false) && (match td with
  | .pointer _=>false
  |_=>true)
 |_,_=>false
theorem MethOk.of{f:FuncId}(h:methB P t name f=true):MethOk P t name f:=by
 unfold methB at h
 split at h
 ·rename_i ti td h1 h2
  rw [Bool.and_eq_true] at h
  obtain⟨h3,h4⟩:=h
  split at h3
  ·rename_i m hm
   rw [Bool.and_eq_true] at h3
   exact⟨ti,m,td,h1,hm,by simpa using h3.1,by simpa using h3.2,fun w=>run_underlying h2 w,fun e he=>by subst he;cases h4⟩
  ·cases h3
 ·cases h
theorem Sm.method{f:FuncId}{fuel:Nat}{K:FuncId×Value→Mem→Prop}(h:MethOk P t name f)(hk:K (f,v) M):Sm P M (Go.method (fuel+1) t v name) K:=by
 obtain⟨ti,m,td,hi,hf,hp,hm,hu,hn⟩:=h.ex
 unfold Go.method
 refine Sm.bind (Sm.typeInfo (info_type hi) ?_)
 simp only [hf,hp]
 refine Sm.bind ?_
 show Sm P M (follow [] t (.val v)) _
 unfold follow
 refine Sm.pure ?_
 simp only [hm]
 refine Sm.bind ?_
 unfold receiverAt
 refine Sm.bind (Sm.underlying hu ?_)
 cases td<;>first|exact absurd rfl (hn _)|exact Sm.pure (Sm.pure hk)
include C in
theorem R.invoke{ats:Array TypeId}{x:Value}{f:FuncId}{pre:List (Nat×Obj)}{Post:Value→RO→List (Nat×Obj)→Prop}(ho:ops[i]? =some ⟨dst, .call ⟨.invoke recv name,args.toArray,ats⟩,ty,pos,af,g⟩)
  (hg:wantedS ops σ ⟨dst, .call ⟨.invoke recv name,args.toArray,ats⟩,ty,pos,af,g⟩=some true) (hr:ev σ recv=some (.iface t x)) (ha:evs σ args=some vs) (hm:MethOk P t name f) (hown:own=pre++tail) (hc:CallV P J (fnv f) (x::vs) ro pre Post)
  (h:∀v ro' pre',ro.le ro'→Post v ro' pre'→R J b cs n ops rest k ds (putS dst v σ) ⟨ro',pre'++tail⟩):R J b cs n ops (i::rest) k ds σ ⟨ro,own⟩:=by
 subst hown
 intro hok a hh
 have hdst:dstOk n dst=true:=by
  cases e:dst with
  |none=>rfl
  |some d=>simpa [dstOk] using dsts_of hok i d (by rw [ho];exact e)
 refine J_op C.1 C.kind ho (wanted_of hh (dsts_of hok) hg) U ?_
 have hfin:∀v,(fr b a (.inRegion ops (i::rest)::k)).finish v=fr b (a.put dst v) (.inRegion ops rest::k):=by
  intro v;rw [fr_finish,ho];rfl
 have hent:=hc (fr b a (.inRegion ops (i::rest)::k)) cs tail fun v ro' pre' hl hp=>by
  rw [hfin]
  exact h v ro' pre' hl hp hok _ (hh.putS hdst v)
 unfold execOp
 refine Sm.bind ?_
 unfold resolve
 simp only [List.map_toArray,hh.evs ha,hh.ev hr]
 refine Sm.pure ?_
 have e0:(#[Value.iface t x]++vs.toArray)[0]? =some (.iface t x):=by simp
 unfold Go.invoke
 simp only [e0]
 unfold callMethod
 refine Sm.bind (Sm.program (Sm.bind ?_))
 refine Sm.method hm<|Sm.callFunc hent.1 ?_
 have e:((#[]:Array Value).toList++(x::vs)++(#[]:Array Value).toList).toArray= #[x]++(#[Value.iface t x]++vs.toArray).extract 1 (#[Value.iface t x]++vs.toArray).size:=by apply Array.ext';simp
 have h2:=hent.2
 rw [e] at h2
 exact h2
include C in
theorem R.invokeP{ats:Array TypeId}{x w:Value}{f:FuncId}{d:Nat}(ho:ops[i]? =some ⟨some d, .call ⟨.invoke recv name,args.toArray,ats⟩,ty,pos,af,g⟩)
  (hg:wantedS ops σ ⟨some d, .call ⟨.invoke recv name,args.toArray,ats⟩,ty,pos,af,g⟩=some true) (hr:ev σ recv=some (.iface t x)) (ha:evs σ args=some vs) (hm:MethOk P t name f) (hc:CallP P J (fnv f) (x::vs) ro w)
  (h:R J b cs n ops rest k ds ((d,w)::σ) ⟨ro,own⟩):R J b cs n ops (i::rest) k ds σ ⟨ro,own⟩:=
 R.invoke C ho hg hr ha hm (pre:= []) rfl hc fun v ro' pre' _ ⟨e1,e2,e3⟩=>by subst e1;subst e2;subst e3;exact h
end
end Go.Lg
namespace Go.Lg
open Go Go.Conc
variable {P:Program}{d:Nat}{t:TypeId}
inductive FsOk(P:Program)(d:Nat)(a b:List Value):List Field→Bool→Prop
 |nil:FsOk P d a b [] true
 |cons {f:Field} {fs:List Field} {x y:Value} {r rs:Bool}:f.name≠ "_" →(∀ (M:Mem) (K:Value→Mem→Prop),K x M→Sm P M (part f.type a.toArray f.offset) K)→(∀ (M:Mem) (K:Value→Mem→Prop),K y M→Sm P M (part f.type b.toArray f.offset) K)→Eq1 P d f.type x y r→FsOk P d a b fs rs→FsOk P d a b (f::fs) (r && rs)
theorem Eq1.int{x y:Int}(hu:∀w,Sem.run P (Go.underlying t) w= .ok (.int .i64) w):Eq1 P (d+1) t (.int .i64 x) (.int .i64 y) (x==y):=by
 intro M K hk
 unfold Op.equalIn
 refine Sm.bind (Sm.underlying hu ?_)
 simp only [if_true]
 exact Sm.pure hk
theorem Eq1.bool{x y:Bool}(hu:∀w,Sem.run P (Go.underlying t) w= .ok .bool w):Eq1 P (d+1) t (.bool x) (.bool y) (x==y):=by
 intro M K hk
 unfold Op.equalIn
 refine Sm.bind (Sm.underlying hu ?_)
 exact Sm.pure hk
theorem bts_beq(x y:List UInt8):((⟨x.toArray⟩:ByteArray)==⟨y.toArray⟩)=(x==y):=by
 show(x.toArray==y.toArray)=(x==y)
 simp
theorem Eq1.str{x y:List UInt8}(hu:∀w,Sem.run P (Go.underlying t) w= .ok .string w):Eq1 P (d+1) t (strV x) (strV y) (x==y):=by
 intro M K hk
 unfold Op.equalIn
 refine Sm.bind (Sm.underlying hu ?_)
 simp only [bts_beq]
 exact Sm.pure hk
end Go.Lg
namespace Go.Lg.S
open Go Go.Conc Go.Lg Go.Proofs Go.Proofs.Tryz
variable {v:Value}{l:List UInt8}{tt:TypeId}{p:Nat}{own:List (Nat×Obj)}
abbrev tyB:TypeId:=158
def BOk(tt:TypeId):Prop:=liesAt prog prog.depth tt (2/prog.cellsOf tt) 0 tyB 1=true
inductive Bd(tt:TypeId)(p:Nat)(l:List UInt8):List (Nat×Obj)→Prop
 |mk {self:Option Addr} {v:Value} {ob:List (Nat×Obj)}:BOk tt→(self=none∨self=some ⟨p,0,none⟩)→Buf 5 1 [] v (bys l) ob→Bd tt p l ((p, .cells [.pointer self,v].toArray tt (0,0))::ob)
abbrev bdV(p:Nat):Value:= .pointer (some ⟨p,0,none⟩)
theorem bys_app(a c:List UInt8):bys (a++c)=bys a++bys c:=by simp [bys]
theorem bys_len(a:List UInt8):(bys a).length=a.length:=by simp [bys]
theorem ones_bys(a:List UInt8):ones (bys a)=true:=by
 induction a with
 |nil=>rfl
 |cons x a ih=>simp only [bys,List.map_cons,ones,Bool.and_eq_true];exact⟨rfl,ih⟩
theorem bufForm{e:TypeId}{tail ob:List (Nat×Obj)}(h:Buf e 1 tail v (bys l) ob):∃bs cap,v= .slice bs l.length cap∧l.length≤cap:=by
 generalize hz:bys l=z at h
 cases h with
 |nil=>have:=congrArg List.length hz;rw [bys_len] at this;exact⟨none,0,by rw [this];rfl,by rw [this];simp⟩
 |blk c1 c2 c3=>rw [←hz,bys_len,Nat.mul_one] at c1;subst c1;exact⟨_,_,rfl,c3⟩
variable {main:Bool}{J:Goroutine→Mem→Prop}(hJ:Closed prog main J)
include hJ
theorem check_c{self:Option Addr}(hla:BOk tt)(hs:self=none∨self=some ⟨p,0,none⟩)(ro:RO):
  CallV prog J (fnv 214) [bdV p] ro [(p, .cells [.pointer self,v].toArray tt (0,0))] fun r ro' pre'=>r= .tuple #[]∧ro'=ro∧pre'= [(p, .cells [bdV p,v].toArray tt (0,0))]:=by
 refine CallV.intro (first:= []) (vs:= [_]) (cap:= []) hJ Kr fun c cs tail hret=>enter_X (n:=20) func214 U U (Nl U) ?_
 have C:Ctx prog main J (bf 214 .normal):=⟨hJ,by decide⟩
 rcases hs with rfl|rfl
 ·have _:=0
  refine Xr C U U<|Rm C U U<|R.nilC C U U U<|Rf C 0 U U runUnderlying158 U sizeOf155<|Rl C U U isAgg155 V U<|R.cmp C U U U U (.eql guardPtr U (ptr_nn runUnderlying155))<|R.fixv (t:=6) (v':= .bool true) U (by rfl)<|R.done C<|X.cond C.1 U (fun _=>?_) (fun h=>nomatch h)
  refine X.region C U U<|Rm C U U<|Rm C U U<|R.toUns C U U U runUnderlying155 runUnderlying218 sizeOf158 V Zi<|R.extSame C U U U func242 Kr Kr Kr Kr<|R.ofUns C U U U runUnderlying218 runUnderlying155 sizeOf158 V (by exact hla)<|R.nilC C U U U<|Rf C 0 U U runUnderlying158 U sizeOf155<|R.store C U U U U sizeOf155 U U U V (.here .nil)<|R.done C<|X.fall C U U func214 U (by exact .nil) ?_
  exact hret _ _ _ _ (RO.le_refl _) ⟨rfl,rfl,rfl⟩ Vs
 ·have _:=0
  refine Xr C U U<|Rm C U U<|R.nilC C U U U<|Rf C 0 U U runUnderlying158 U sizeOf155<|Rl C U U isAgg155 V U<|R.cmp C U U U U (.eql guardPtr U (ptr_sn runUnderlying155))<|R.fixv (t:=6) (v':= .bool false) U (by rfl)<|R.done C<|X.cond C.1 U (fun h=>nomatch h) (fun _=>?_)
  refine Xr C U U<|Rm C U U<|R.nilC C U U U<|Rf C 0 U U runUnderlying158 U sizeOf155<|Rl C U U isAgg155 V U<|Rm C U U<|R.cmp C U U U U (.neq guardPtr U (ptr_ss runUnderlying155 sizeOf158))<|R.fixv (t:=19) (v':= .bool false) U (by rfl)<|R.done C<|X.cond C.1 U (fun h=>nomatch h) (fun _=>?_)
  refine X.skip C.1<|X.fall C U U func214 U (by exact .nil) ?_
  exact hret _ _ _ _ (RO.le_refl _) ⟨rfl,rfl,rfl⟩ Vs
theorem write_c{s:List UInt8}(hb:Bd tt p l own)(hl:l.length+s.length≤1000000000)(ro:RO):
  CallV prog J (fnv 166) [bdV p,strV s] ro own fun r ro' pre'=>r= .tuple [.int .i64 (s.length:Int), .nilIface].toArray∧ro'=ro∧Bd tt p (l++s) pre':=by
 cases hb with
 |mk hla hs hbuf=>
  rename_i self v ob
  refine CallV.intro (first:= []) (vs:= [_,_]) (cap:= []) hJ Kr fun c cs tail hret=>enter_X (n:=19) func166 U U (Nl U) ?_
  have C:Ctx prog main J (bf 166 .normal):=⟨hJ,by decide⟩
  refine Xr C U U<|R.asg C U U U<|Ad C U U<|Xr C U U<|Rm C U U<|R.call C U U U U (tail:=ob++tail) U (check_c hJ hla hs ro) fun w1 ro1 pre1 hl1 hp1=>?_
  obtain⟨rfl,rfl,rfl⟩:=hp1
  have hb2:=(hbuf.app tail).front [(p, .cells [bdV p,v].toArray tt (0,0))]
  refine R.done C<|Xr C U U<|Rm C U U<|Rm C U U<|R.nilC C U U U<|Rf C 1 U U runUnderlying158 U sizeOf156<|Rl C U U isAgg156 V U<|Rm C U U ?_
  obtain⟨own2,hp2,hb3⟩:=hb2
  refine R.perm C.1 hp2<|R.append (kk:=1) C U U U U runUnderlying156 runUnderlying9 (fun _=>nofun) (show prog.info? 5=some Tryz.t5 by kernel_rfl) U U U Dd Dd hb3 (.str U) (ones_bys s) (by rw [bys_len];show _+(bys s).length≤_;rw [bys_len];omega) fun v3 own3 hb4=>?_
  obtain⟨own4,hp4,hb5⟩:=Buf.back (tail:= []++tail) [(p, .cells [bdV p,v].toArray tt (0,0))] hb4
  refine R.perm C.1 hp4 ?_
  obtain⟨own5,rfl,hb6⟩:=Buf.unapp hb5
  have hb7:Buf 5 1 [] v3 (bys (l++s)) own5:=by rw [bys_app];exact hb6
  clear hb6 hb5 hb4
  obtain⟨bs3,cap3,rfl,hc3⟩:=bufForm hb7
  refine R.nilC C U U U<|Rf C 1 U U runUnderlying158 U sizeOf156<|R.store C U U U U sizeOf156 U U U V (.skip (.here .nil))<|R.done C<|Xr C U U<|Rm C U U<|R.sLen C U U U runUnderlying9<|R.asg C U U U<|Ad C U U<|X.ret C U U func166 U (by exact(.tmp U (.tmp U .nil)))<|hret _ _ _ _ (RO.le_refl _) ⟨rfl,rfl, .mk hla (.inr U) ?_⟩ (List.Sublist.refl _)
  exact hb7
theorem grow_c(hla:BOk tt)(m:Nat)(hm:m≤1000000000)(ro:RO):
  CallV prog J (fnv 243) [bdV p, .int .i64 (m:Int)] ro [(p, .cells [bdV p, .slice none 0 0].toArray tt (0,0))] fun r ro' pre'=>r= .tuple #[]∧ro'=ro∧Bd tt p [] pre':=by
 refine CallV.intro (first:= []) (vs:= [_,_]) (cap:= []) hJ Kr fun c cs tail hret=>enter_X (n:=30) func243 U U (Nl U) ?_
 have C:Ctx prog main J (bf 243 .normal):=⟨hJ,by decide⟩
 refine Xs C<|Xd C fun hok=>Dm C 0 hok U U U<|Dp 1 hok (fun _ _ _ A h=>R.nilC C U (A.w U U) (A.x U U) h)<|Df (off':=1) C 2 hok U U U runUnderlying158 U sizeOf156 U<|D1 C 3 hok U U isAgg156 V U<|Dp 4 hok (fun _ _ _ A h=>R.capSlice C U (A.w U U) (A.x U U) runUnderlying156 h)<|Di C 5 hok U U U U U (b_mul O O)<|Dm C 6 hok U U U<|Di C 7 hok U U U U U (b_add O O)<|D.fixv (t:=12) (v':= .int .i64 (m:Int)) U Zi<|Dm C 9 hok U U U<|Dp 10 hok (fun _ _ _ A h=>R.nilC C U (A.w U U) (A.x U U) h)<|Df (off':=1) C 11 hok U U U runUnderlying158 U sizeOf156 U<|D1 C 12 hok U U isAgg156 V U<|Ds C 13 hok U U runUnderlying156<|De 8 (some 13) [true,false] hok (fun _ _ A hk=>?_)
 refine R.extNoZero (ps:= #[3]) C U (A.w U U) (A.x U U) func257 Kr Kr Kr Kr runUnderlying156 O fun p13 cap13 l13 h13 hl13=>hk _ _ ⟨(QFs.cons (QF.of U (fun _ _ A h=>R.loadOne C U (A.w U U) (A.x U U) isAgg156 V U h)) QFs.nil), ?_⟩
 refine Dp 14 hok (fun _ _ _ A h=>R.sliceTo C U (A.w U U) (A.x U U) (A.x U U) runUnderlying156 sizeOf5 O O h)<|Da C 15 hok U U<|D.done C hok Kr<|Xr C U U<|Rm C U U<|Rm C U U<|R.nilC C U U U<|Rf C 1 U U runUnderlying158 U sizeOf156<|Rl C U U isAgg156 V U<|R.copy C U U U U runUnderlying156 sizeOf5 (Rd.zero (k:=1)) O U V (Put.mid [] [] _ (Nat.zero_le _))<|R.done C<|X.region C U U<|Rm C U U<|Rm C U U<|R.nilC C U U U<|Rf C 1 U U runUnderlying158 U sizeOf156 ?_;refine R.store C U U U U sizeOf156 U U U V (.skip (.here .nil))<|R.done C<|X.perm C.1 (List.Perm.swap _ _ _)<|X.fall C U U func243 U (by exact .nil)<|hret _ _ [_,_] _ (RO.le_refl _) ⟨rfl,rfl, .mk hla (.inr U) (Buf.blk (cells:= []) U ?_ (Nat.zero_le _))⟩ (List.Sublist.refl _)
 simp [hl13]
theorem growX_c(hla:BOk tt)(m:Nat)(hm:m≤1000000000)(ro:RO):
  CallV prog J (fnv 215) [bdV p, .int .i64 (m:Int)] ro [(p, .cells [.pointer none, .slice none 0 0].toArray tt (0,0))] fun r ro' pre'=>r= .tuple #[]∧ro'=ro∧Bd tt p [] pre':=by
 refine CallV.intro (first:= []) (vs:= [_,_]) (cap:= []) hJ Kr fun c cs tail hret=>enter_X (n:=25) func215 U U (Nl U) ?_
 have C:Ctx prog main J (bf 215 .normal):=⟨hJ,by decide⟩
 refine Xr C U U<|Rm C U U<|R.call C U U U U U (check_c hJ hla (.inl U) ro) fun w1 ro1 pre1 hl1 hp1=>?_
 obtain⟨rfl,rfl,rfl⟩:=hp1
 refine R.done C<|Xs C<|Xr C U U<|Rm C U U<|R.int C U U U U b_lss<|R.done C<|X.cond C.1 U (fun hn=>?_) (fun hn=>?_)
 ·simp only [dT] at hn;omega
 ·refine X.skip C.1<|Xs C<|Xd C fun hok=>Dm C 0 hok U U U<|Dp 1 hok (fun _ _ _ A h=>R.nilC C U (A.w U U) (A.x U U) h)<|Df (off':=1) C 2 hok U U U runUnderlying158 U sizeOf156 U<|D1 C 3 hok U U isAgg156 V U<|Dp 4 hok (fun _ _ _ A h=>R.capSlice C U (A.w U U) (A.x U U) runUnderlying156 h)<|Dm C 5 hok U U U<|Dp 6 hok (fun _ _ _ A h=>R.nilC C U (A.w U U) (A.x U U) h)<|Df (off':=1) C 7 hok U U U runUnderlying158 U sizeOf156 U<|D1 C 8 hok U U isAgg156 V U<|Ds C 9 hok U U runUnderlying156<|Di C 10 hok U U U U U (b_sub O O)<|Dm C 11 hok U U U<|Di C 12 hok U U U U U b_lss<|D.done C hok Kr<|X.cond C.1 U (fun hg=>?_) (fun hg=>?_)
  ·refine X.region C U U<|Rm C U U<|Rm C U U<|R.call C U U U U U (grow_c hJ hla m hm ro1) fun w2 ro2 pre2 hl2 hp2=>?_
   obtain⟨rfl,rfl,hb⟩:=hp2
   refine R.done C<|X.fall C U U func215 U (by exact .nil) ?_
   exact hret _ _ _ _ (RO.le_refl _) ⟨rfl,rfl,hb⟩ (List.Sublist.refl _)
  ·refine X.skip C.1<|X.fall C U U func215 U (by exact .nil) ?_
   exact hret _ _ [_] _ (RO.le_refl _) ⟨rfl,rfl, .mk hla (.inr rfl) .nil⟩ (List.Sublist.refl _)
theorem string_c(hb:Bd tt p l own)(hl:l.length≤1000000000)(ro:RO):
  CallV prog J (fnv 137) [bdV p] ro own fun r ro' pre'=>r=strV l∧ro'=ro∧pre'= []:=by
 cases hb with
 |mk hla hs hbuf=>
  rename_i self v ob
  obtain⟨bs,cap,rfl,hlc⟩:=bufForm hbuf
  refine CallV.intro (first:= []) (vs:= [_]) (cap:= []) hJ Kr fun c cs tail hret=>enter_X (n:=14) func137 U U (Nl U) ?_
  have C:Ctx prog main J (bf 137 .normal):=⟨hJ,by decide⟩
  refine Xr C U U<|Ad C U U<|Xs C<|Xd C fun hok=>Dm C 0 hok U U U<|Dp 1 hok (fun _ _ _ A h=>R.nilC C U (A.w U U) (A.x U U) h)<|Df (off':=1) C 2 hok U U U runUnderlying158 U sizeOf156 U<|D1 C 3 hok U U isAgg156 V U<|Dm C 5 hok U U U<|Dp 6 hok (fun _ _ _ A h=>R.nilC C U (A.w U U) (A.x U U) h)<|Df (off':=1) C 7 hok U U U runUnderlying158 U sizeOf156 U<|D1 C 8 hok U U isAgg156 V U<|Ds C 9 hok U U runUnderlying156<|De 4 (some 7) [true,false] hok (fun _ _ A hk=>?_)
  refine R.sliceData C U (A.w U U) (A.x U U) runUnderlying207 (hbuf.app tail) (A:= [(p,_)]) U fun q7 hq7=>hk _ _ ⟨(QFs.cons (QF.of U (fun _ _ A h=>R.loadOne C U (A.w U U) (A.x U U) isAgg156 V U h)) QFs.nil), ?_⟩
  refine De 10 (some 13) [false] hok (fun _ _ A hk=>?_)
  refine R.unsafeStr C U (A.w U U) (A.x U U) (A.x U U) runUnderlying207 Kr (hbuf.app tail) (A:= [(p,_)]) U hq7 hl (hk _ _ ⟨QFs.nil, ?_⟩)
  refine Da C 11 hok U U<|D.done C hok Kr<|Xt C func137 ?_
  exact hret _ _ _ _ (RO.le_refl _) ⟨rfl,rfl,rfl⟩ Vs
end Go.Lg.S
namespace Go.Lg.S
open Go Go.Conc Go.Lg Go.Proofs Go.Proofs.Tryz
variable {xs:List (List UInt8)}{α β:Type}
def joinL(sep:List UInt8):List (List UInt8)→List UInt8
 | []=> []
 |x::r=>x++r.flatMap (sep++ ·)
def sumL(xs:List (List UInt8)):Nat:=(xs.map List.length).sum
theorem sumL_take{i:Nat}(h:i<xs.length):sumL (xs.take (i+1))=sumL (xs.take i)+xs[i].length:=by
 unfold sumL
 rw [List.take_succ_eq_append_getElem h,List.map_append,List.sum_append];simp
theorem sumL_le(xs:List (List UInt8))(i:Nat):sumL (xs.take i)≤sumL xs:=by
 have:sumL xs=sumL (xs.take i)+sumL (xs.drop i):=by
  unfold sumL
  rw [←List.sum_append, ←List.map_append,List.take_append_drop]
 omega
theorem flat_len(sep:List UInt8):∀r:List (List UInt8),(r.flatMap (sep++ ·)).length=sep.length*r.length+sumL r
 | []=>by simp [sumL]
 |x::r=>by
  have:=flat_len sep r
  simp only [sumL,List.flatMap_cons,List.length_append,List.length_cons,List.map_cons,List.sum_cons,Nat.mul_add] at this⊢
  omega
theorem joinL_len(sep:List UInt8)(h:xs≠ []):(joinL sep xs).length=sep.length*(xs.length-1)+sumL xs:=by
 cases xs with
 |nil=>exact absurd rfl h
 |cons x r=>
  simp only [joinL,List.length_append,flat_len,List.length_cons,Nat.add_sub_cancel]
  simp only [sumL,List.map_cons,List.sum_cons]
  omega
theorem flat_take(f:α→List β){r:List α}{j:Nat}(h:j<r.length):(r.take (j+1)).flatMap f=(r.take j).flatMap f++f r[j]:=by
 rw [List.take_succ_eq_append_getElem h,List.flatMap_append];simp
theorem flat_le(f:α→List β)(r:List α)(j:Nat):((r.take j).flatMap f).length≤(r.flatMap f).length:=by
 have e:r.flatMap f=(r.take j).flatMap f++(r.drop j).flatMap f:=by rw [←List.flatMap_append,List.take_append_drop]
 rw [e,List.length_append];omega
abbrev LsT(ro:RO)(v:Value)(xs:List (List UInt8)):Prop:=Ls (fun s=> [strV s]) 1 ro v xs
variable {main:Bool}{J:Goroutine→Mem→Prop}(hJ:Closed prog main J)
include hJ
theorem join_c{v:Value}{sep:List UInt8}{ro:RO}(hv:LsT ro v xs)(hcp:capOk v)(hn:xs.length≤1000000)(hl:(joinL sep xs).length≤1000000000)(hs:sep.length≤1000000):
  CallP prog J (fnv 167) [v,strV sep] ro (strV (joinL sep xs)):=by
 by_cases h0:xs= []
 ·subst h0
  obtain⟨bs,cap,rfl⟩:=hv.form
  refine CallP.intro hJ Kr fun c cs tail hret=>enter_X (n:=75) func167 U U (Nl U) ?_
  have C:Ctx prog main J (bf 167 .normal):=⟨hJ,by decide⟩
  refine Xr C U U<|Ad C U U<|Xs C<|Xr C U U<|Rm C U U<|Rn C U U runUnderlying167<|R.done C<|X.block C.1<|Xr C U U<|R.int C U U U U b_eql<|Ad C U U<|X.cond C.1 U (fun g1=>?_) (fun g1=>?_)
  ·refine Xr C U U<|Ad C U U<|Xt C func167<|Hp hret ?_
   rfl
  ·simp at g1
 have hpos:0<xs.length:=List.length_pos_iff.2 h0
 obtain⟨p,off,cap,l,t,fq,rfl,hro,hsub⟩:=hv.at (fun _=>rfl) hpos
 have hcap:xs.length≤cap:=by
  obtain⟨_,_,_,e,h⟩:=hcp
  cases e;exact h
 have hat:∀i (h:i<xs.length),l[off+i]? =some (strV xs[i]):=fun i h=>by
  have:=(hsub i h).get 0 O
  simpa using this
 have hjl:=joinL_len sep h0
 by_cases h1:xs.length=1
 ·have _:=h1
  refine CallP.intro hJ Kr fun c cs tail hret=>enter_X (n:=75) func167 U U (Nl U) ?_
  have C:Ctx prog main J (bf 167 .normal):=⟨hJ,by decide⟩
  refine Xr C U U<|Ad C U U<|Xs C<|Xr C U U<|Rm C U U<|Rn C U U runUnderlying167<|R.done C<|X.block C.1<|Xr C U U<|R.int C U U U U b_eql<|Ad C U U<|X.cond C.1 U (fun g1=>?_) (fun g1=>?_)
  ·have g9:=eq_of_beq g1;omega
  ·refine Xr C U U<|R.int C U U U U b_eql<|Ad C U U<|X.cond C.1 U (fun g2=>?_) (fun g2=>?_)
   ·refine Xr C U U<|Rm C U U<|Rx C U U U runUnderlying167 sizeOf9<|R.loadOneRo C U U U isAgg9 hro (hat 0 hpos)<|Ad C U U<|Xt C func167<|Hp hret ?_
    obtain⟨x,rfl⟩:∃x,xs= [x]:=List.length_eq_one_iff.1 h1
    simp [joinL,retVal]
   ·simp [h1] at g2
 have h2:2≤xs.length:=O
 refine CallP.intro hJ Kr fun c cs tail hret=>enter_X (n:=75) func167 U U (Nl U) ?_
 have C:Ctx prog main J (bf 167 .normal):=⟨hJ,by decide⟩
 refine Xr C U U<|Ad C U U<|Xs C<|Xr C U U<|Rm C U U<|Rn C U U runUnderlying167<|R.done C<|X.block C.1<|Xr C U U<|R.int C U U U U b_eql<|Ad C U U<|X.cond C.1 U (fun g1=>?_) (fun g1=>?_)
 ·have g9:=eq_of_beq g1;omega
 ·refine Xr C U U<|R.int C U U U U b_eql<|Ad C U U<|X.cond C.1 U (fun g2=>?_) (fun g2=>?_)
  ·have g9:=eq_of_beq g2;omega
  ·have hk:sep.length*(xs.length-1)≤1000000000:=O
   have hsl:=sumL_le xs
   refine X.skip C.1<|X.inBlock C.1<|Xr C U U<|Ad C U U<|Xs C<|Xr C U U<|Rm C U U<|R.sLen C U U U runUnderlying9<|R.int C U U U U b_gtr<|R.done C<|X.afterI (ι:=Unit) (fun _=>True) (fun _=> [(0, .slice (some ⟨p,off,none⟩) xs.length cap),(1,strV sep),(5, .int .i64 ((sep.length*(xs.length-1):Nat):Int))]) (fun _=>⟨ro,tail⟩) (fun _ _=>?_) (fun hcont=>?_)
   rotate_left
   ·have _:=hk
    refine X.cond C.1 U (fun g3=>?_) (fun g3=>?_)
    ·refine Xs C<|Xr C U U<|Rm C U U<|R.sLen C U U U runUnderlying9<|Rm C U U<|Rn C U U runUnderlying167<|R.int C U U U U (b_sub O O)<|R.int C U U U U (b_quoP O O O)<|R.int C U U U U b_geq<|R.fixv (t:=29) (v':= .bool false) U (Bv (by rw [dF];have:=Int.le_ediv_of_mul_le (a:=1000000000000) (b:=9223372036854775807) (c:=(xs.length:Int) -1) O O;omega)) ?_;refine R.done C<|X.cond C.1 U (fun h=>nomatch h) (fun _=>?_)
     refine X.skip C.1<|X.region C U U<|Rm C U U<|Rm C U U<|R.sLen C U U U runUnderlying9<|Rm C U U<|Rn C U U runUnderlying167<|R.int C U U U U (b_sub O O)<|R.int C U U U U (b_mul (by rw [show(xs.length:Int) -1=((xs.length-1:Nat):Int) by omega, ←Int.natCast_mul];omega) (by rw [show(xs.length:Int) -1=((xs.length-1:Nat):Int) by omega, ←Int.natCast_mul];omega))<|R.fixv (t:=37) (v':= .int .i64 ((sep.length*(xs.length-1):Nat):Int)) U (by(rw [show(xs.length:Int) -1=((xs.length-1:Nat):Int) by omega, ←Int.natCast_mul]))<|Ra C U U U<|R.fixv (t:=38) (v':= .int .i64 ((sep.length*(xs.length-1):Nat):Int)) U (by(rw [Int.zero_add]))<|Ad C U U<|X.weaken ?_ (hcont () trivial)
     exact⟨U,U,U,trivial⟩
    ·have h9:sep.length=0:=by simp only [dF] at g3;omega
     refine X.skip C.1<|X.weaken ?_ (hcont () trivial)
     exact⟨rfl,rfl,by rw [h9,Nat.zero_mul];rfl,trivial⟩
   refine Xs C<|Xr C U U<|Rm C U U<|Rn C U U runUnderlying167<|Rm C U U<|R.done C<|X.block C.1<|X.loopI (ι:=Nat) C.1 (fun i=>i≤xs.length) (fun i=> [(0, .slice (some ⟨p,off,none⟩) xs.length cap),(1,strV sep),(5, .int .i64 ((sep.length*(xs.length-1)+sumL (xs.take i):Nat):Int)),(39, .slice (some ⟨p,off,none⟩) xs.length cap),(40, .int .i64 (xs.length:Int)),(41, .int .i64 (i:Int))])
    (fun _=>⟨ro,tail⟩) (fun i=>xs.length-i) 0 (Nat.zero_le _) rfl ⟨rfl,rfl,by simp [look,sumL],rfl,rfl,rfl,trivial⟩ fun i hi hnext=>?_
   refine Xr C U U<|R.int C U U U U b_lss<|R.done C<|Xs C<|X.cond C.1 U (fun g4=>?_) (fun g4=>?_)
   ·have hi':i<xs.length:=by simp only [dT] at g4;omega
    have hti:=sumL_take hi'
    have hle1:=hsl (i+1)
    refine X.skip C.1<|Xs C<|X.block C.1<|Xr C U U<|Rx C U U U runUnderlying167 sizeOf9<|R.loadOneRo C U U U isAgg9 hro (show l[off+((i:Int)).toNat*1]? =some (strV xs[i]) by rw [Int.toNat_natCast,Nat.mul_one];exact hat i hi')<|Ad C U U<|Xs C<|Xr C U U<|Rm C U U<|R.sLen C U U U runUnderlying9<|Rm C U U<|R.int C U U U U (b_sub O O)<|R.int C U U U U b_gtr<|R.fixv (t:=49) (v':= .bool false) U (Bv (by rw [dF];omega)) ?_;refine R.done C<|X.cond C.1 U (fun h=>nomatch h) (fun _=>?_)
    refine X.skip C.1<|X.region C U U<|Rm C U U<|Rm C U U<|R.sLen C U U U runUnderlying9<|Ra C U U U<|Ad C U U<|X.inBlock C.1<|X.region C U U<|Ra C U U U<|Rm C U U<|R.done C<|X.weaken ?_ (hnext (i+1) hi' O)
    exact⟨rfl,rfl,by simp [look,hti];omega,rfl,rfl,by simp [look],trivial⟩
   ·have hi':i=xs.length:=by simp only [dF] at g4;omega
    subst hi'
    rw [List.take_length]
    obtain⟨x,r,rfl⟩:∃x r,xs=x::r:=by
     cases xs with
     |nil=>exact absurd rfl h0
     |cons x r=>exact⟨x,r,rfl⟩
    have hrl:(x::r).length=r.length+1:=rfl
    have hjx:joinL sep (x::r)=x++r.flatMap (sep++ ·):=rfl
    have hfx:(joinL sep (x::r)).length=x.length+(r.flatMap (sep++ ·)).length:=by rw [hjx,List.length_append]
    refine X.exit C.1 U<|Xr C U U<|R.alloc C U U zeroValue158 U fun p8=>R.done C<|Xr C U U<|Rm C U U<|R.call C U U U U (pre:= [_]) U (growX_c hJ (show BOk tyB by unfold BOk;kernel_rfl) (sep.length*((x::r).length-1)+sumL (x::r)) O ro) fun w1 ro1 pre1 hl1 hp1=>?_
    obtain⟨rfl,rfl,hbd⟩:=hp1
    refine R.done C<|Xr C U U<|Rm C U U<|Rx C U U U runUnderlying167 sizeOf9<|R.loadOneRo C U U U isAgg9 hro (hat 0 hpos)<|R.call C U U U U U (write_c hJ hbd (by simp only [List.length_nil,List.getElem_cons_zero];omega) ro1) fun w2 ro2 pre2 hl2 hp2=>?_
    obtain⟨rfl,rfl,hbd2⟩:=hp2
    refine R.done C<|Xs C<|Xr C U U<|Rm C U U<|R.sliceFrom C U U U U runUnderlying167 sizeOf9 O O<|R.fixv (t:=63) (v':= .slice (some ⟨p,off+1,none⟩) r.length (cap-1)) U (by(rw [if_neg Zo];simp [add_addr]))<|Rn C U U runUnderlying167<|Rm C U U<|R.done C<|X.block C.1<|X.loopI (ι:=Nat×List (Nat×Obj)) C.1 (fun s=>s.1≤r.length∧Bd tyB p8 (x++(r.take s.1).flatMap (sep++ ·)) s.2) (fun s=> [(1,strV sep),(8,bdV p8),(63, .slice (some ⟨p,off+1,none⟩) r.length (cap-1)),(64, .int .i64 (r.length:Int)),(65, .int .i64 (s.1:Int))])
     (fun s=>⟨ro2,s.2++tail⟩) (fun s=>r.length-s.1) (0,pre2) ⟨Nat.zero_le _,by simpa using hbd2⟩ rfl ⟨U,U,U,U,U,trivial⟩ fun s hs hnext=>?_
    obtain⟨j,own⟩:=s
    obtain⟨hj,hb3⟩:=hs
    simp only at hj hb3 hnext⊢
    have hfl:=flat_le (sep++ ·) r j
    refine Xr C U U<|R.int C U U U U b_lss<|R.done C<|Xs C<|X.cond C.1 U (fun g5=>?_) (fun g5=>?_)
    ·have hj':j<r.length:=by simp only [dT] at g5;omega
     have hft:=flat_take (sep++ ·) hj'
     have hfl1:=flat_le (sep++ ·) r (j+1)
     have hlen1:=congrArg List.length hft
     simp only [List.length_append] at hlen1
     refine X.skip C.1<|Xs C<|X.block C.1<|Xr C U U<|Rx C U U U runUnderlying167 sizeOf9<|R.loadOneRo C U U U isAgg9 hro (show l[off+1+((j:Int)).toNat*1]? =some (strV r[j]) by rw [Int.toNat_natCast,Nat.mul_one,show off+1+j=off+(j+1) by omega];exact hat (j+1) O)<|Ad C U U<|Xr C U U<|Rm C U U<|R.call C U U U U U (write_c hJ hb3 (by simp only [List.length_append];omega) ro2) fun w3 ro3 pre3 hl3 hp3=>?_
     obtain⟨rfl,rfl,hb4⟩:=hp3
     refine R.done C<|X.region C U U<|Rm C U U<|R.call C U U U U U (write_c hJ hb4 (by simp only [List.length_append];omega) ro3) fun w4 ro4 pre4 hl4 hp4=>?_
     obtain⟨rfl,rfl,hb5⟩:=hp4
     refine R.done C<|X.inBlock C.1<|X.region C U U<|Ra C U U U<|Rm C U U<|R.done C<|X.weaken ?_ (hnext (j+1,pre4) ⟨hj', ?_⟩ (by simp only;omega))
     ·exact⟨rfl,rfl,rfl,rfl,by simp [look],trivial⟩
     ·rw [hft];simpa [List.append_assoc] using hb5
    ·have hj':j=r.length:=by simp only [dF] at g5;omega
     subst hj'
     rw [List.take_length] at hb3
     refine X.exit C.1 U<|Xr C U U<|R.call C U U U U U (string_c hJ hb3 (by rw [←hjx];exact hl) ro2) fun w3 ro3 pre3 hl3 hp3=>?_
     obtain⟨rfl,rfl,rfl⟩:=hp3
     refine Ad C U U<|Xt C func167<|Hp hret ?_
     rfl
end Go.Lg.S
namespace Go.Lg
open Go Go.Conc
def IterV(P:Program)(J:Goroutine→Mem→Prop)(fv:Value)(items:List (List Value))(ro:RO)(W W':RO→List (Nat×Obj)→Prop):Prop:=
 ∀ (yv:Value) (I:Nat→RO→List (Nat×Obj)→Prop) (E:RO→List (Nat×Obj)→Prop),fnV yv→(∀k r r' q,r.le r'→I k r q→I k r' q)→
  (∀k (hk:k<items.length) ro1 p1,ro.le ro1→I k ro1 p1→CallV P J yv items[k] ro1 p1 fun v ro' p'=>(v= .bool true∧I (k+1) ro' p')∨(v= .bool false∧E ro' p'))→
  ∀ro0 p0 w0,ro.le ro0→I 0 ro0 p0→W ro0 w0→CallV P J fv [yv] ro0 (p0++w0) fun v ro' p=>v= .tuple #[]∧∃p' w',p=p'++w'∧W' ro' w'∧(I items.length ro' p'∨E ro' p')
section
variable {P:Program}{main:Bool}{J:Goroutine→Mem→Prop}{b:Frame}(C:Ctx P main J b){cs:List Frame}{n:Nat}{ds:List Deferred}{σ:Slots}{ro:RO}{own:List (Nat×Obj)}{k:List Item}
include C
theorem X.rangeFuncW{W W':RO→List (Nat×Obj)→Prop}{w0:List (Nat×Obj)}{f:Operand}{ps:List Nat}{assign body:Code}{fv:Value}{items:List (List Value)}{ro0:RO}(I:Nat→RO→List (Nat×Obj)→Prop)(Q:Code→RO→List (Nat×Obj)→Prop)
  (hro:b.roundOf=none) (hf:ev σ f=some fv) (hit:IterV P J fv items ro0 W W') (hW0:W ro w0) (hle:ro0.le ro) (hps:allLt n ps=true) (hlen:∀x∈items,x.length=ps.length) (h0:I 0 ro own) (hmono:∀k r r' q,r.le r'→I k r q→I k r' q)
  (hbody:∀kk (hk:kk<items.length) (l:Nat) (cs:List Frame) (H H1:List (Nat×Obj)) ro1 q,ro0.le ro1→I kk ro1 q→Ctx P main J (rf b.fn l)→
   (∀σ' ro' q',X J (rf b.fn l) cs n [.code body] [] σ' ⟨ro',q'++H1⟩→X J (rf b.fn l) cs n [.beginRound, .code body] [] σ' ⟨ro',q'++H⟩)→
   (∀σ' ro' q',ro1.le ro'→I (kk+1) ro' q'→X J (rf b.fn l) cs n [] [] σ' ⟨ro',q'++H1⟩)→
   (∀σ' x k' ro' q',ro1.le ro'→jumps x k'→Q x ro' q'→X J (rf b.fn l) cs n (.code x::k') [] σ' ⟨ro',q'++H1⟩)→
   X J (rf b.fn l) cs n [.code assign, .beginRound, .code body] [] (roundSlots ps items[kk] σ) ⟨ro1,q++H⟩)
  (hdone:∀r ro' q' z',ro.le ro'→W' ro' z'→I items.length ro' q'→X J b cs n k (⟨.collected r, #[]⟩::ds) σ ⟨ro',(r, .deferred (some []))::(q'++z')⟩)
  (hjump:∀r x ro' q' z',ro.le ro'→W' ro' z'→Q x ro' q'→X J b cs n (.code x::k) (⟨.collected r, #[]⟩::ds) σ ⟨ro',(r, .deferred (some []))::(q'++z')⟩):
  X J b cs n (.code (.rangeFunc f ps.toArray assign body)::k) ds σ ⟨ro,own++w0⟩:=fun a ha=>by
 have hend:∀ (l r:Nat) (L:Loop) (ro':RO) (q' z':List (Nat×Obj)),ro.le ro'→W' ro' z'→L.state≠ .busy→(L.pending=none∧I items.length ro' q'∨∃x,L.pending=some x∧Q x ro' q')→
   J (G {fr b ⟨a.tmps,⟨.collected r, #[]⟩::ds⟩ (.endRangeFunc l::k) with mode:= .run} cs) ⟨ro',q'++(l, .loop L)::(r, .deferred (some []))::z'⟩:=by
  intro l r L ro' q' z' hl hz' hst hq
  refine C.1.step _ _ U fun w hs=>?_
  have hu:=upd_end q' l (.loop L) (.loop {L with state:= .exhausted}) ((r, .deferred (some []))::z')
  have hsm:Sm P ⟨ro',q'++(l, .loop L)::(r, .deferred (some []))::z'⟩ (Instr.endLoop l) fun x M'=>x=L.pending∧M'=⟨ro',q'++(l, .loop {L with state:= .exhausted})::(r, .deferred (some []))::z'⟩:=by
   unfold Instr.endLoop Instr.getLoop
   refine Sm.bind (Sm.bind (Sm.getObj_own hu.mem U U (Sm.pure ?_)))
   have hb:(L.state==LoopState.busy)=false:=by simpa using hst
   simp only [hb,Bool.false_eq_true,if_false]
   exact Sm.bind (Sm.setObj_own hu rfl rfl (Sm.pure ⟨rfl,rfl⟩))
  obtain⟨x,w',es,M',h1,h2,h3,h4⟩:=hsm w #[] hs
  subst h3;subst h4
  rw [Array.empty_append] at h1
  refine⟨G (fr b ⟨a.tmps,⟨.collected r, #[]⟩::ds⟩ ((L.pending.map Item.code).toList++k)) cs,w',seen P b.fn es,_, ?_,{h2 with evs:=fun e he=>h2.evs e (mem_seen he) }, ?_⟩
  ·simp only [G,stepG,stepG.exec,fr]
   rw [h1]
   simp [GStep.after]
  ·have hh:Holds n (⟨.collected r, #[]⟩::ds) σ ⟨a.tmps,⟨.collected r, #[]⟩::ds⟩:=⟨ha.size,rfl,ha.slots⟩
   have hw:Weak ⟨ro',q'++(l, .loop {L with state:= .exhausted})::(r, .deferred (some []))::z'⟩ ⟨ro',(r, .deferred (some []))::(q'++z')⟩:=by
    refine Weak.trans (Weak.sub (own':=q'++(r, .deferred (some []))::z') ?_) (Weak.perm List.perm_middle)
    exact List.Sublist.append_left (List.Sublist.cons _ (List.Sublist.refl _)) q'
   rcases hq with⟨e,hi⟩|⟨x,e,hi⟩
   ·have:=X.weak C.1 hw (hdone r ro' q' z' hl hz' hi) _ hh
    have e2:(L.pending.map Item.code).toList++k=k:=by rw [e];rfl
    rw [e2];exact this
   ·have:=X.weak C.1 hw (hjump r x ro' q' z' hl hz' hi) _ hh
    have e2:(L.pending.map Item.code).toList++k= .code x::k:=by rw [e];rfl
    rw [e2];exact this
 have hround:∀ (l r:Nat) (kk:Nat) (hk:kk<items.length) ro1 q,ro0.le ro1→ro.le ro1→I kk ro1 q→∀ (L:Loop),L.state= .ready→L.pending=none→L.fn=b.fn→L.tmps=a.tmps→L.params=ps.toArray→L.assign=assign→L.body=body→
   CallV P J (.func (.yield l) #[] #[]) items[kk] ro1 (q++ [(l, .loop L),(r, .deferred (some []))]) fun v ro' p'=>
    (v= .bool true∧∃q',ro.le ro'∧p'=q'++ [(l, .loop L),(r, .deferred (some []))]∧I (kk+1) ro' q')∨
    (v= .bool false∧∃q' x,ro.le ro'∧p'=q'++ [(l, .loop {L with state:= .done,pending:=some x}),(r, .deferred (some []))]∧Q x ro' q'):=by
  intro l r kk hk ro1 q hle1 hle2 hI L hst hpe hfn htm hpa has hbo c cs1 tail hret
  refine⟨L,by simp, ?_, ?_⟩
  ·rw [hpa];simpa using hlen _ (List.getElem_mem hk)
  have hC:Ctx P main J (rf b.fn l):=⟨C.1,by simp [rf]⟩
  have hX:=hbody kk hk l (c::cs1) ([(l, .loop L),(r, .deferred (some []))]++tail) ([(l, .loop {L with state:= .busy}),(r, .deferred (some []))]++tail) ro1 q hle1 hI hC
   (fun σ' ro' q' h=>X.beginRound hC rfl hst (upd_end q' l _ _ _) h)
   (fun σ' ro' q' hl hi=>X.roundDone hC rfl rfl (upd_end q' l _ _ _) (by
    have:=hret (.bool true) ro' (q'++ [(l, .loop L),(r, .deferred (some []))]) hl (.inl ⟨rfl,q',RO.le_trans hle2 hl,rfl,hi⟩)
    have e:({L with state:= .busy}:Loop)={L with state:= .busy}:=rfl
    have e2:({ ({L with state:= .busy}:Loop) with state:= .ready,pending:=none}:Loop)=L:=by cases L;simp only at hst hpe;subst hst;subst hpe;rfl
    rw [e2]
    simpa [List.append_assoc] using this))
   (fun σ' x k' ro' q' hl hx hq=>X.roundJump hC rfl rfl hx (upd_end q' l _ _ _) (by
    have:=hret (.bool false) ro' (q'++ [(l, .loop {L with state:= .done,pending:=some x}),(r, .deferred (some []))]) hl (.inr ⟨rfl,q',x,RO.le_trans hle2 hl,rfl,hq⟩)
    simpa [List.append_assoc] using this))
  have hh:=round_holds ps items[kk] (σ:=σ) (a:=⟨a.tmps, []⟩) (ds:= []) ⟨ha.size,rfl,ha.slots⟩ hps
  have:=hX _ hh
  have e3:Frame.round l L.fn ((L.params.zip ((#[]:Array Value).toList++items[kk]).toArray).foldl (fun tmps (t,a)=>tmps.setIfInBounds t a) L.tmps) L.assign L.body .normal=
    fr (rf b.fn l) ⟨(ps.zip items[kk]).foldl (fun tmps (x:Nat×Value)=>tmps.setIfInBounds x.1 x.2) a.tmps, []⟩ [.code assign, .beginRound, .code body]:=by
   rw [hfn,htm,hpa,has,hbo]
   simp only [Frame.round,fr,rf,List.nil_append]
   congr 1
   simp
  rw [e3]
  simpa [List.append_assoc] using this
 refine C.1.step _ _ U fun w hs=>?_
 let L0:Nat→Loop:=fun r=>{state:= .ready,pending:=none,fn:=b.fn,tmps:=a.tmps,params:=ps.toArray,assign:=assign,body:=body,defers:=r}
 have hsm:Sm P ⟨ro,own++w0⟩ (Instr.enterLoop b.fn a.tmps ps.toArray assign body none) fun x M'=>∃r,x.2= [⟨.collected r, #[]⟩]∧M'=⟨ro,(x.1, .loop (L0 r))::(r, .deferred (some []))::(own++w0)⟩:=by
  have e:Instr.enterLoop b.fn a.tmps ps.toArray assign body none=((newObj (.deferred (some [])))>>=fun r=>(newObj (.loop (L0 r)))>>=fun l=>(pure (l, [⟨.collected r, #[]⟩]):Sem (Nat×List Deferred))):=rfl
  rw [e]
  exact Sm.bind (Sm.newObj fun r _ _=>Sm.bind (Sm.newObj fun l _ _=>Sm.pure ⟨r,rfl,rfl⟩))
 obtain⟨⟨l,mark⟩,w₁,es₁,M₁,h1,h2,r,h3,h4⟩:=hsm w #[] hs
 simp only at h3 h4
 subst h3;subst h4
 rw [Array.empty_append] at h1
 have hwk:Weak ⟨ro,(l, .loop (L0 r))::(r, .deferred (some []))::(own++w0)⟩ ⟨ro,(own++ [(l, .loop (L0 r)),(r, .deferred (some []))])++w0⟩:=Weak.perm (by
  have:([(l,Obj.loop (L0 r)),(r, .deferred (some []))]++own).Perm (own++ [(l, .loop (L0 r)),(r, .deferred (some []))]):=List.perm_append_comm
  simpa using this.append_right w0)
 have h2':=h2.trans (hwk w₁ h2.sat)
 rw [Array.append_empty] at h2'
 have hcall:=hit (.func (.yield l) #[] #[]) (fun kk ro' p'=>∃q',ro.le ro'∧p'=q'++ [(l, .loop (L0 r)),(r, .deferred (some []))]∧I kk ro' q')
  (fun ro' p'=>∃q' x,ro.le ro'∧p'=q'++ [(l, .loop {L0 r with state:= .done,pending:=some x}),(r, .deferred (some []))]∧Q x ro' q')
  ⟨_,_,_,rfl⟩ (fun k r1 r2 q1 hl ⟨q,h1,h2,h3⟩=>⟨q,RO.le_trans h1 hl,h2,hmono k r1 r2 q hl h3⟩) (fun kk hk ro1 p1 hle1 ⟨q,hl,e,hi⟩=>by subst e;exact hround l r kk hk ro1 q hle1 hl hi (L0 r) rfl rfl rfl rfl rfl rfl rfl)
  ro (own++ [(l, .loop (L0 r)),(r, .deferred (some []))]) w0 hle ⟨own,RO.le_refl _,rfl,h0⟩ hW0
 let fr1:Frame:=fr b ⟨a.tmps,⟨.collected r, #[]⟩::a.defers⟩ (.inRangeFunc l::k)
 have hent:=hcall fr1 cs [] (fun v ro' p' hl hp=>by
  rw [List.append_nil]
  obtain⟨_,p',z',e0,hz',hp⟩:=hp
  subst e0
  have hfin:fr1.finish v={fr b ⟨a.tmps,⟨.collected r, #[]⟩::ds⟩ (.endRangeFunc l::k) with mode:= .run}:=by
   simp [fr1,Frame.finish,fr,ha.defers]
  rw [hfin]
  rcases hp with⟨q',hl',e,hi⟩|⟨q',x,hl',e,hi⟩
  ·subst e;simpa using hend l r _ ro' q' z' hl' hz' (by simp [L0]) (.inl ⟨rfl,hi⟩)
  ·subst e;simpa using hend l r _ ro' q' z' hl' hz' Zi (.inr ⟨x,rfl,hi⟩))
 rw [List.append_nil] at hent
 have hk':(b.kind==CallKind.early)=false:=by simpa using C.kind
 have hev:fr1.eval f=fv:=by
  have:fr1.eval f=a.eval f:=by cases f<;>rfl
  rw [this];exact ha.ev hf
 have hstep:stepG P main (G (fr b a (.code (.rangeFunc f ps.toArray assign body)::k)) cs) w=
   GStep.after (seen P b.fn es₁) (stepG.apply P true fr1 cs none (do let d←resolve fr1.eval {callee:= .value f,args:= #[.const (.func (.yield l) #[] #[])],argTypes:= #[] } 0;invoke d.target d.args) w₁):=by
  simp only [G,stepG,stepG.exec,fr,hro]
  rw [h1]
  simp only [fr1,fr,hro,List.cons_append,List.nil_append]
 unfold Entry at hent
 split at hent
 ·rename_i f' first cap
  have hsm2:Sm P ⟨ro,(own++ [(l, .loop (L0 r)),(r, .deferred (some []))])++w0⟩ (do let d←resolve fr1.eval {callee:= .value f,args:= #[.const (.func (.yield l) #[] #[])],argTypes:= #[] } 0;invoke d.target d.args) fun x M'=>
    x= .enter f' (first.toList++ [Value.func (.yield l) #[] #[]]++cap.toList).toArray∧M'=⟨ro,(own++ [(l, .loop (L0 r)),(r, .deferred (some []))])++w0⟩:=by
   refine Sm.bind ?_
   unfold resolve
   simp only [hev]
   unfold Deferred.ofValue
   refine Sm.pure ?_
   unfold invoke
   refine Sm.callFunc hent.1 ⟨?_,rfl⟩
   congr 1
   apply Array.ext'
   simp [Frame.eval]
  obtain⟨x,w₂,es₂,M₂,k1,k2,k3,k4⟩:=hsm2 w₁ #[] h2'.sat
  subst k3;subst k4
  rw [Array.empty_append] at k1
  have hg:=h2'.trans k2
  refine⟨_,w₂,seen P b.fn es₁++seen P b.fn es₂,_, ?_,{hg with evs:=fun e he=>hg.evs e (by
   rcases Array.mem_append.1 he with h|h
   ·exact Array.mem_append.2 (.inl (mem_seen h))
   ·exact Array.mem_append.2 (.inr (mem_seen h))) },hent.2⟩
  rw [hstep]
  simp only [stepG.apply,if_true]
  rw [k1]
  simp only [fr1,fr_kind,fr_fn,fr_todo,hk',GStep.after]
  simp [G]
 ·rename_i l' first cap
  obtain⟨r',hr',hlen',hj⟩:=hent
  have hsm2:Sm P ⟨ro,(own++ [(l, .loop (L0 r)),(r, .deferred (some []))])++w0⟩ (do let d←resolve fr1.eval {callee:= .value f,args:= #[.const (.func (.yield l) #[] #[])],argTypes:= #[] } 0;invoke d.target d.args) fun x M'=>
    x= .round l' r'.fn ((r'.params.zip (first.toList++ [Value.func (.yield l) #[] #[]]).toArray).foldl (fun tmps (t,a)=>tmps.setIfInBounds t a) r'.tmps) r'.assign r'.body∧M'=⟨ro,(own++ [(l, .loop (L0 r)),(r, .deferred (some []))])++w0⟩:=by
   refine Sm.bind ?_
   unfold resolve
   simp only [hev]
   unfold Deferred.ofValue
   refine Sm.pure ?_
   unfold invoke
   show Sm P _ (Instr.yield l' _) _
   unfold Instr.yield Instr.getLoop
   refine Sm.bind (Sm.bind (Sm.getObj_own hr' U U (Sm.pure ?_)))
   have e:(first++Array.map fr1.eval #[.const (.func (.yield l) #[] #[])])=(first.toList++ [Value.func (.yield l) #[] #[]]).toArray:=by
    apply Array.ext'
    simp [Frame.eval]
   rw [e]
   have hs':(first.toList++ [Value.func (.yield l) #[] #[]]).toArray.size=r'.params.size:=by rw [←hlen'];simp
   simp only [hs',ne_eq,not_true_eq_false,if_false]
   exact Sm.pure ⟨rfl,rfl⟩
  obtain⟨x,w₂,es₂,M₂,k1,k2,k3,k4⟩:=hsm2 w₁ #[] h2'.sat
  subst k3;subst k4
  rw [Array.empty_append] at k1
  have hg:=h2'.trans k2
  refine⟨_,w₂,seen P b.fn es₁++seen P b.fn es₂,_, ?_,{hg with evs:=fun e he=>hg.evs e (by
   rcases Array.mem_append.1 he with h|h
   ·exact Array.mem_append.2 (.inl (mem_seen h))
   ·exact Array.mem_append.2 (.inr (mem_seen h))) },hj⟩
  rw [hstep]
  simp only [stepG.apply,if_true]
  rw [k1]
  simp only [fr1,fr_kind,fr_fn,hk',GStep.after]
  simp [G]
 ·exact hent.elim
end
end Go.Lg
namespace Go.Lg.S
open Go Go.Conc Go.Lg Go.Proofs Go.Proofs.Tryz
variable {s suf:List UInt8}{c:UInt8}
def idxB(s:List UInt8)(c:UInt8):Int:=match s.findIdx? (· ==c) with|some j=>(j:Int)|none=> -1
def line1(s:List UInt8):List UInt8:=match s.findIdx? (· ==10) with|some j=>s.take (j+1)|none=>s
def rest1(s:List UInt8):List UInt8:=match s.findIdx? (· ==10) with|some j=>s.drop (j+1)|none=> []
def linesF:Nat→List UInt8→List (List UInt8)
 |0,_=> []
 |k+1,s=>if s= [] then [] else line1 s::linesF k (rest1 s)
def linesL(s:List UInt8):List (List UInt8):=linesF s.length s
theorem rest_lt(h:s≠ []):(rest1 s).length<s.length:=by
 have:0<s.length:=List.length_pos_iff.2 h
 unfold rest1
 split
 ·rw [List.length_drop];omega
 ·simpa using this
theorem linesF_eq:∀ (k:Nat) (s:List UInt8),s.length≤k→linesF k s=linesL s
 |0,s,h=>by
  obtain rfl:s= []:=List.length_eq_zero_iff.1 O
  rfl
 |k+1,s,h=>by
  by_cases h0:s= []
  ·subst h0;rfl
  ·have hl:=rest_lt h0
   obtain⟨m,hm⟩:∃m,s.length=m+1:=⟨s.length-1,O⟩
   unfold linesL
   rw [hm]
   simp only [linesF,h0,if_false]
   rw [linesF_eq k _ O,linesF_eq m _ O]
theorem linesL_nil:linesL []= []:=rfl
theorem linesL_cons(h:s≠ []):linesL s=line1 s::linesL (rest1 s):=by
 rw [←linesF_eq (s.length+1) s O]
 simp only [linesF,h,if_false]
 rw [linesF_eq _ _ (Nat.le_of_lt (rest_lt h))]
variable {main:Bool}{J:Goroutine→Mem→Prop}(hJ:Closed prog main J)
include hJ
theorem indexByteIn_c(ro:RO):CallP prog J (fnv 248) [strV s, .int .u8 (c.toNat:Int)] ro (.int .i64 (idxB s c)):=by
 refine CallP.intro hJ Kr fun c cs tail hret=>enter_X (n:=8) func248 U U (Nl U) ?_
 have C:Ctx prog main J (bf 248 .normal):=⟨hJ,by decide⟩
 refine Xr C U U<|Ad C U U<|Xr C U U<|Rm C U U<|Rm C U U<|R.extByte C U U U U func262 Kr Kr Kr Kr<|Ad C U U<|Xt C func248<|Hp hret ?_
 rfl
theorem indexByte_c(ro:RO):CallP prog J (fnv 218) [strV s, .int .u8 (c.toNat:Int)] ro (.int .i64 (idxB s c)):=by
 refine CallP.intro hJ Kr fun c cs tail hret=>enter_X (n:=8) func218 U U (Nl U) ?_
 have C:Ctx prog main J (bf 218 .normal):=⟨hJ,by decide⟩
 refine Xr C U U<|Ad C U U<|Xr C U U<|Rm C U U<|Rm C U U<|R.callP C U U U U (indexByteIn_c hJ _)<|Ad C U U<|Xt C func218<|Hp hret ?_
 rfl
theorem lines_it{p:Nat}{ro:RO}(hl:s.length≤1000000000):IterV prog J (.func (.func 217) #[] #[bdV p]) ((linesL s).map fun l=> [strV l]) ro (fun _ w=>w= [(p, .cells [strV s].toArray 9 (0,0))]) (fun _ w=>∃r,w= [(p, .cells [strV r].toArray 9 (0,0))]):=by
 intro yv I E hyf hmono hy ro0 p0 w0 hle hI0 hW
 subst hW
 refine CallV.intro (first:= []) (vs:= [yv]) (cap:= [_]) hJ Kr fun c cs tail hret=>enter_X (n:=25) func217 U U (Nl U) ?_
 have C:Ctx prog main J (bf 217 .normal):=⟨hJ,by decide⟩
 refine X.perm C.1 (own':=(p, .cells [strV s].toArray 9 (0,0))::(p0++tail)) (by rw [List.append_assoc];exact List.perm_middle)<|X.block C.1<|X.loopI (ι:=Nat×RO×List (Nat×Obj)×List UInt8) C.1 (fun s'=>ro0.le s'.2.1∧I s'.1 s'.2.1 s'.2.2.1∧(linesL s).drop s'.1=linesL s'.2.2.2∧s'.2.2.2.length≤s.length∧s'.1≤(linesL s).length) (fun _=> [(0,yv),(1,bdV p)])
  (fun s'=>⟨s'.2.1,(p, .cells [strV s'.2.2.2].toArray 9 (0,0))::(s'.2.2.1++tail)⟩) (fun s'=>s'.2.2.2.length) (0,ro0,p0,s) ⟨RO.le_refl _,hI0,rfl,Nat.le_refl _,Nat.zero_le _⟩ rfl ⟨U,U,trivial⟩ fun s' hs' hnext=>?_
 obtain⟨j,ro1,p1,r⟩:=s'
 obtain⟨hle1,hI,hdr,hrl,hjl⟩:=hs'
 simp only at hle1 hI hdr hrl hjl hnext⊢
 refine Xs C<|Xr C U U<|Rl C U U isAgg9 V U<|R.sLen C U U U runUnderlying9<|R.int C U U U U b_gtr<|R.done C<|X.cond C.1 U (fun g1=>?_) (fun g1=>?_)
 ·have hr:r≠ []:=by intro e;subst e;simp at g1
  have hcons:=linesL_cons hr
  have hdrop:(linesL s).drop j=line1 r::linesL (rest1 r):=by rw [hdr,hcons]
  have hj:j<(linesL s).length:=by
   have:=congrArg List.length hdrop
   rw [List.length_drop,List.length_cons] at this;omega
  have hitem:((linesL s).map fun l=> [strV l])[j]'(by simpa using hj)= [strV (line1 r)]:=by
   have:=congrArg (·[0]?) hdrop
   simp only [List.getElem?_drop,Nat.add_zero,List.getElem?_cons_zero] at this
   rw [List.getElem?_eq_getElem hj] at this
   rw [List.getElem_map,Option.some.inj this]
  have hnext1:(linesL s).drop (j+1)=linesL (rest1 r):=by
   rw [←List.drop_drop,hdrop];rfl
  have hrest:=rest_lt hr
  have hcall:=hy j (by simpa using hj) ro1 p1 (RO.le_trans hle hle1) hI
  rw [hitem] at hcall
  refine X.skip C.1<|X.block C.1<|Xr C U U<|Ad C U U<|Xs C<|Xr C U U<|Rl C U U isAgg9 V U<|R.callP C U U U U (indexByte_c hJ (c:=10) _)<|Ad C U U<|Xr C U U<|Rm C U U<|R.int C U U U U b_geq<|R.done C<|X.afterI (ι:=Unit) (fun _=>True) (fun _=> [(0,yv),(1,bdV p),(3,strV (line1 r))]) (fun _=>⟨ro1,(p, .cells [strV (rest1 r)].toArray 9 (0,0))::(p1++tail)⟩) (fun _ _=>?_) (fun hcont=>?_)
  rotate_left
  ·have _:=hr
   refine X.cond C.1 U (fun g2=>?_) (fun g2=>?_)
   ·cases hf:r.findIdx? (· ==10) with
    |none=>simp [idxB,hf] at g2
    |some jj=>
     have hjj:jj<r.length:=(List.findIdx?_eq_some_iff_findIdx_eq.1 hf).1
     have hix:idxB r 10=(jj:Int):=by rw [idxB,hf]
     rw [hix]
     have e1:line1 r=r.take ((jj:Int)+1).toNat:=by rw [line1,hf];rfl
     have e2:rest1 r=r.drop ((jj:Int)+1).toNat:=by rw [rest1,hf];rfl
     rw [e1,e2] at hcont
     refine Xd C fun hok=>D1 C 0 hok U U isAgg9 V U<|Dm C 1 hok U U U<|Di C 2 hok U U U U U (b_add O O)<|Dp 3 hok (fun _ _ _ A h=>R.sTo C U (A.w U U) (A.x U U) (A.x U U) runUnderlying9 O O h)<|D1 C 4 hok U U isAgg9 V U<|Dm C 5 hok U U U<|Di C 6 hok U U U U U (b_add O O)<|Dp 7 hok (fun _ _ _ A h=>R.sFrom C U (A.w U U) (A.x U U) (A.x U U) runUnderlying9 O O h)<|Da C 8 hok U U<|De 9 none [false,false] hok (fun _ _ A hk=>?_)
     refine R.store C U (A.w U U) (A.x U U) (A.x U U) sizeOf9 U U U V (.here .nil) (hk undef _ ⟨QFs.nil, ?_⟩)
     refine D.done C hok Kr<|X.weaken ?_ (hcont () trivial)
     exact⟨U,U,U,trivial⟩
   ·cases hf:r.findIdx? (· ==10) with
    |some jj=>simp [idxB,hf] at g2
    |none=>
     have e1:line1 r=r:=by rw [line1,hf]
     have e2:rest1 r= []:=by rw [rest1,hf]
     rw [e1,e2] at hcont
     refine X.region C U U<|Rl C U U isAgg9 V U<|R.asg C U U U ?_;refine R.store C U U U U sizeOf9 U U U V (.here .nil)<|R.done C<|X.weaken ?_ (hcont () trivial)
     exact⟨U,U,U,trivial⟩
  refine X.perm C.1 (own':=p1++((p, .cells [strV (rest1 r)].toArray 9 (0,0))::tail)) List.perm_middle.symm<|Xr C U U<|Rm C U U<|Rm C U U<|R.call C U U U U U hcall fun v2 ro2 pre2 hl2 hp2=>?_
  rcases hp2 with⟨rfl,hI2⟩|⟨rfl,hE⟩
  ·
   refine R.not C U U U<|R.fixv (t:=24) (v':= .bool false) U (by rfl)<|R.done C<|X.cond C.1 U (fun h=>nomatch h) (fun _=>?_)
   refine X.skip C.1<|X.inBlock C.1<|X.perm C.1 (own':=(p, .cells [strV (rest1 r)].toArray 9 (0,0))::(pre2++tail)) List.perm_middle<|X.weaken ?_ (hnext (j+1,ro2,pre2,rest1 r) ⟨RO.le_trans hle1 hl2,hI2,hnext1,by simp only;omega,hj⟩ hrest)
   exact⟨U,U,trivial⟩
  ·
   refine R.not C U U U<|R.fixv (t:=24) (v':= .bool true) U (by rfl)<|R.done C<|X.cond C.1 U (fun _=>?_) (fun h=>nomatch h)
   refine X.ret C U U func217 U (by exact .nil) ?_
   exact hret _ _ (pre2++ [(p,_)]) _ (RO.le_trans hle1 hl2) ⟨rfl,pre2, [(p,_)],rfl,⟨rest1 r,rfl⟩, .inr hE⟩ (by rw [List.append_assoc];exact List.Sublist.refl _)
 ·have hr:r= []:=by
   cases r with
   |nil=>rfl
   |cons x r=>simp at g1
  subst hr
  have hje:j=(linesL s).length:=by
   have:=congrArg List.length hdr
   rw [List.length_drop,linesL_nil,List.length_nil] at this;omega
  refine X.exit C.1 U<|X.perm C.1 (own':=p1++((p, .cells [strV []].toArray 9 (0,0))::tail)) List.perm_middle.symm<|X.fall C U U func217 U (by exact .nil) ?_
  exact hret _ _ (p1++ [(p,_)]) _ hle1 ⟨rfl,p1, [(p,_)],rfl,⟨[],rfl⟩, .inl (by rw [List.length_map, ←hje];exact hI)⟩ (by rw [List.append_assoc];exact List.Sublist.refl _)
theorem lines_c(ro:RO):CallV prog J (fnv 169) [strV s] ro [] fun v ro' pre'=>ro'=ro∧∃p,v= .func (.func 217) #[] #[bdV p]∧pre'= [(p, .cells [strV s].toArray 9 (0,0))]:=by
 refine CallV.intro (first:= []) (vs:= [_]) (cap:= []) hJ Kr fun c cs tail hret=>enter_X (n:=4) func169 U U (Nl U) ?_
 have C:Ctx prog main J (bf 169 .normal):=⟨hJ,by decide⟩
 refine Xr C U U<|R.box C U U U U fun p1=>Ad C U U<|Xr C U U<|R.makeFunc C U U U U<|Ad C U U<|Xt C func169 ?_
 exact hret _ _ [(p1,_)] _ (RO.le_refl _) ⟨rfl,p1,rfl,rfl⟩ (List.Sublist.refl _)
def hasSuf(s suf:List UInt8):Bool:=decide (suf.length≤s.length) && (s.drop (s.length-suf.length)==suf)
def trimSuf(s suf:List UInt8):List UInt8:=if hasSuf s suf then s.take (s.length-suf.length) else s
theorem hasSuffix_c(hl:s.length≤1000000000)(hl2:suf.length≤1000000000)(ro:RO):CallP prog J (fnv 254) [strV s,strV suf] ro (.bool (hasSuf s suf)):=by
 refine CallP.intro hJ Kr fun c cs tail hret=>enter_X (n:=21) func254 U U (Nl U) ?_
 have C:Ctx prog main J (bf 254 .normal):=⟨hJ,by decide⟩
 refine Xr C U U<|Ad C U U<|Xr C U U<|Rm C U U<|R.sLen C U U U runUnderlying9<|Rm C U U<|R.sLen C U U U runUnderlying9<|R.int C U U U U b_geq<|Rm C U U<|R.fix (t:=10) U (fun g1=>?_) (fun g1=>?_)
 ·have hle:suf.length≤s.length:=by simp only [dT] at g1;omega
  have e1:((s.length:Int) - (suf.length:Int)).toNat=s.length-suf.length:=O
  refine Rm C U U<|Rm C U U<|R.sLen C U U U runUnderlying9<|Rm C U U<|R.sLen C U U U runUnderlying9<|R.int C U U U U (b_sub O O)<|R.sFrom C U U U U runUnderlying9 O O<|Rm C U U<|R.str C U U U U b_seql<|R.pickT C U U U U<|Ad C U U<|Xt C func254<|Hp hret ?_
  simp [hasSuf,hle,e1,retVal]
 ·have hle:¬suf.length≤s.length:=by simp only [dF] at g1;omega
  refine R.pass C U U<|R.pass C U U<|R.pass C U U<|R.pass C U U<|R.pass C U U<|R.pass C U U<|R.pass C U U<|R.pass C U U<|R.pass C U U<|R.pickF C U U U U<|Ad C U U<|Xt C func254<|Hp hret ?_
  simp [hasSuf,hle,retVal]
theorem trimSuffixIn_c(hl:s.length≤1000000000)(hl2:suf.length≤1000000000)(ro:RO):CallP prog J (fnv 225) [strV s,strV suf] ro (strV (trimSuf s suf)):=by
 refine CallP.intro hJ Kr fun c cs tail hret=>enter_X (n:=16) func225 U U (Nl U) ?_
 have C:Ctx prog main J (bf 225 .normal):=⟨hJ,by decide⟩
 refine Xr C U U<|Ad C U U<|Xs C<|Xr C U U<|Rm C U U<|Rm C U U<|R.callP C U U U U (hasSuffix_c hJ (by assumption) O _)<|R.done C<|X.cond C.1 U (fun g1=>?_) (fun g1=>?_)
 ·have hle:suf.length≤s.length:=by
   have:=g1
   simp only [hasSuf,Bool.and_eq_true,decide_eq_true_eq] at this
   exact this.1
  have e1:((s.length:Int) - (suf.length:Int)).toNat=s.length-suf.length:=O
  refine Xr C U U<|Rm C U U<|Rm C U U<|R.sLen C U U U runUnderlying9<|Rm C U U<|R.sLen C U U U runUnderlying9<|R.int C U U U U (b_sub O O)<|R.sTo C U U U U runUnderlying9 O O<|Ad C U U<|Xt C func225<|Hp hret ?_
  simp [trimSuf,g1,e1,retVal]
 ·refine X.skip C.1<|Xr C U U<|Rm C U U<|Ad C U U<|Xt C func225<|Hp hret ?_
  simp [trimSuf,g1,retVal]
theorem trimSuffix_c(hl:s.length≤1000000000)(hl2:suf.length≤1000000000)(ro:RO):CallP prog J (fnv 171) [strV s,strV suf] ro (strV (trimSuf s suf)):=by
 refine CallP.intro hJ Kr fun c cs tail hret=>enter_X (n:=8) func171 U U (Nl U) ?_
 have C:Ctx prog main J (bf 171 .normal):=⟨hJ,by decide⟩
 refine Xr C U U<|Ad C U U<|Xr C U U<|Rm C U U<|Rm C U U<|R.callP C U U U U (trimSuffixIn_c hJ (by assumption) O _)<|Ad C U U<|Xt C func171<|Hp hret ?_
 rfl
end Go.Lg.S
namespace Go.Lg.S
open Go Go.Conc Go.Lg Go.Proofs Go.Proofs.Tryz
variable {ch:UInt8}{s:List UInt8}
def splitL(ch:UInt8):List UInt8→List (List UInt8)
 | []=> [[]]
 |x::s=>if x==ch then []::splitL ch s else match splitL ch s with
  | []=> [[x]]
  |y::r=>(x::y)::r
theorem splitL_none{ch:UInt8}:∀ {s:List UInt8},s.findIdx? (· ==ch)=none→splitL ch s= [s]
 | [],_=>rfl
 |x::s,h=>by
  rw [List.findIdx?_cons] at h
  split at h
  ·cases h
  ·rename_i hx
   simp only [Option.map_eq_none_iff] at h
   rw [splitL,if_neg hx,splitL_none h]
theorem splitL_some{ch:UInt8}:∀ {s:List UInt8} {j:Nat},s.findIdx? (· ==ch)=some j→splitL ch s=s.take j::splitL ch (s.drop (j+1))
 | [],_,h=>by simp at h
 |x::s,j,h=>by
  rw [List.findIdx?_cons] at h
  split at h
  ·rename_i hx
   cases h
   rw [splitL,if_pos hx];rfl
  ·rename_i hx
   obtain⟨k,hk,rfl⟩:=Option.map_eq_some_iff.1 h
   rw [splitL,if_neg hx,splitL_some hk];rfl
theorem splitL_len(ch:UInt8):∀s:List UInt8,(splitL ch s).length=s.count ch+1
 | []=>rfl
 |x::s=>by
  have ih:=splitL_len ch s
  rw [splitL,List.count_cons]
  split
  ·rw [List.length_cons,ih]
  ·split
   ·rename_i h;rw [h] at ih;simp at ih
   ·rename_i h;rw [h] at ih;simpa using ih
theorem find_lt{j:Nat}(h:s.findIdx? (· ==ch)=some j):j<s.length:=(List.findIdx?_eq_some_iff_findIdx_eq.1 h).1
theorem zeroS(m:Nat):(List.replicate m (strV [])).toArray=(Array.range (m*1)).map (([strV []]:List Value).toArray[· % ([strV []]:List Value).toArray.size]!):=by
 apply Array.ext'
 rw [Nat.mul_one]
 refine List.ext_getElem Zi fun i h1 h2=>?_
 simp [Nat.mod_one]
theorem flatS(l:List (List UInt8)):l.flatMap (fun s=> [strV s])=l.map strV:=by
 induction l with
 |nil=>rfl
 |cons x l ih=>rw [List.flatMap_cons,ih];rfl
def cutB(s:List UInt8)(ch:UInt8):List UInt8×List UInt8×Bool:=match s.findIdx? (· ==ch) with|some j=>(s.take j,s.drop (j+1),true)|none=>(s, [],false)
variable {main:Bool}{J:Goroutine→Mem→Prop}(hJ:Closed prog main J)
include hJ
theorem indexIn_c(ro:RO):CallP prog J (fnv 282) [strV s,strV [ch]] ro (.int .i64 (idxB s ch)):=by
 refine CallP.intro hJ Kr fun c cs tail hret=>enter_X (n:=143) func282 U U (Nl U) ?_
 have C:Ctx prog main J (bf 282 .normal):=⟨hJ,by decide⟩
 refine Xr C U U<|Ad C U U<|Xr C U U<|Rm C U U<|R.sLen C U U U runUnderlying9<|Ad C U U<|Xs C<|X.block C.1<|Xr C U U<|Rm C U U<|R.int C U U U U b_eql<|R.fixv (t:=18) (v':= .bool false) U (by rfl)<|Rm C U U<|Rm C U U<|Rm C U U<|R.str C U U U U b_seql<|R.pickF C U U U U<|Ad C U U<|X.cond C.1 U (fun g1=>?_) (fun g1=>?_)
 ·obtain rfl:s= [ch]:=(eq_of_beq g1).symm
  refine Xr C U U<|Ad C U U<|Xt C func282<|Hp hret ?_
  simp [idxB,retVal]
 ·refine Xr C U U<|Rm C U U<|R.int C U U U U b_eql<|R.fixv (t:=26) (v':= .bool true) U (by rfl)<|Ad C U U<|X.cond C.1 U (fun _=>?_) (fun h=>nomatch h)
  refine Xr C U U<|Rm C U U<|Rm C U U<|R.sIndex C U U U U runUnderlying9 Dd U<|R.callP C U U U U (indexByteIn_c hJ _)<|Ad C U U<|Xt C func282<|Hp hret ?_
  rfl
theorem index_c(ro:RO):CallP prog J (fnv 265) [strV s,strV [ch]] ro (.int .i64 (idxB s ch)):=by
 refine CallP.intro hJ Kr fun c cs tail hret=>enter_X (n:=8) func265 U U (Nl U) ?_
 have C:Ctx prog main J (bf 265 .normal):=⟨hJ,by decide⟩
 refine Xr C U U<|Ad C U U<|Xr C U U<|Rm C U U<|Rm C U U<|R.callP C U U U U (indexIn_c hJ _)<|Ad C U U<|Xt C func265<|Hp hret ?_
 rfl
theorem count_c(ro:RO):CallP prog J (fnv 264) [strV s,strV [ch]] ro (.int .i64 (s.count ch:Nat)):=by
 refine CallP.intro hJ Kr fun c cs tail hret=>enter_X (n:=34) func264 U U (Nl U) ?_
 have C:Ctx prog main J (bf 264 .normal):=⟨hJ,by decide⟩
 refine Xr C U U<|Ad C U U<|Xs C<|Xr C U U<|Rm C U U<|R.sLen C U U U runUnderlying9<|R.int C U U U U b_eql<|R.fixv (t:=9) (v':= .bool false) U (by rfl)<|R.done C<|X.cond C.1 U (fun h=>nomatch h) (fun _=>?_)
 refine X.skip C.1<|Xs C<|Xr C U U<|Rm C U U<|R.sLen C U U U runUnderlying9<|R.int C U U U U b_eql<|R.fixv (t:=15) (v':= .bool true) U (by rfl)<|R.done C<|X.cond C.1 U (fun _=>?_) (fun h=>nomatch h)
 refine Xr C U U<|Rm C U U<|Rm C U U<|R.sIndex C U U U U runUnderlying9 Dd U<|R.extCount C U U U U func281 Kr Kr Kr Kr<|Ad C U U<|Xt C func264<|Hp hret ?_
 rfl
theorem cutIn_c(hl:s.length≤1000000000)(ro:RO):CallP prog J (fnv 276) [strV s,strV [ch]] ro (.tuple [strV (cutB s ch).1,strV (cutB s ch).2.1, .bool (cutB s ch).2.2].toArray):=by
 cases hf:s.findIdx? (· ==ch) with
 |none=>
  have hx:idxB s ch= -1:=by rw [idxB,hf]
  have hc:cutB s ch=(s, [],false):=by rw [cutB,hf]
  refine CallP.intro hJ Kr fun c cs tail hret=>enter_X (n:=23) func276 U U (Nl U) ?_
  have C:Ctx prog main J (bf 276 .normal):=⟨hJ,by decide⟩
  refine Xr C U U<|R.asg C U U U<|R.asg C U U U<|Ad C U U<|Xs C<|Xr C U U<|Rm C U U<|Rm C U U<|R.callP C U U U U (indexIn_c hJ _)<|Ad C U U<|Xr C U U<|Rm C U U<|R.fixv (t:=11) (v':= .int .i64 (-1)) U (by(rw [hx]))<|R.int C U U U U b_geq<|R.fixv (t:=12) (v':= .bool false) U (by rfl)<|R.done C<|X.cond C.1 U (fun h=>nomatch h) (fun _=>?_)
  refine X.skip C.1<|Xr C U U<|Rm C U U<|R.asg C U U U<|R.asg C U U U<|Ad C U U<|X.ret C U U func276 U (by exact(.tmp U (.tmp U (.tmp U .nil))))<|Hp hret ?_
  rw [hc];rfl
 |some j=>
  have hj:=find_lt hf
  have hx:idxB s ch=(j:Int):=by rw [idxB,hf]
  have hc:cutB s ch=(s.take j,s.drop (j+1),true):=by rw [cutB,hf]
  refine CallP.intro hJ Kr fun c cs tail hret=>enter_X (n:=23) func276 U U (Nl U) ?_
  have C:Ctx prog main J (bf 276 .normal):=⟨hJ,by decide⟩
  refine Xr C U U<|R.asg C U U U<|R.asg C U U U<|Ad C U U<|Xs C<|Xr C U U<|Rm C U U<|Rm C U U<|R.callP C U U U U (indexIn_c hJ _)<|R.asg C U U U<|R.fixv (t:=7) (v':= .int .i64 (j:Int)) U (by(rw [hx]))<|R.done C<|Xr C U U<|Rm C U U<|R.int C U U U U b_geq<|R.fixv (t:=12) (v':= .bool true) U (Bv (by rw [dT];omega)) ?_;refine R.done C<|X.cond C.1 U (fun _=>?_) (fun h=>nomatch h)
  refine Xs C<|Xd C fun hok=>Dm C 0 hok U U U<|Dm C 1 hok U U U<|Dp 2 hok (fun _ _ _ A h=>R.sTo C U (A.w U U) (A.x U U) (A.x U U) runUnderlying9 O O h)<|Dm C 3 hok U U U<|Dm C 4 hok U U U<|Dm C 5 hok U U U<|Dp 6 hok (fun _ _ _ A h=>R.sLen C U (A.w U U) (A.x U U) runUnderlying9 h)<|Di C 7 hok U U U U U (b_add (by simp only [List.length_cons,List.length_nil];omega) (by simp only [List.length_cons,List.length_nil];omega))<|Dp 8 hok (fun _ _ _ A h=>R.sFrom C U (A.w U U) (A.x U U) (A.x U U) runUnderlying9 (by simp only [List.length_cons,List.length_nil];omega) (by simp only [List.length_cons,List.length_nil];omega) h)<|Da C 9 hok U U<|Da C 10 hok U U<|Da C 11 hok U U<|D.done C hok Kr<|X.ret C U U func276 U (by exact(.tmp U (.tmp U (.tmp U .nil))))<|Hp hret ?_
  rw [hc];rfl
theorem cut_c(hl:s.length≤1000000000)(ro:RO):CallP prog J (fnv 253) [strV s,strV [ch]] ro (.tuple [strV (cutB s ch).1,strV (cutB s ch).2.1, .bool (cutB s ch).2.2].toArray):=by
 refine CallP.intro hJ Kr fun c cs tail hret=>enter_X (n:=13) func253 U U (Nl U) ?_
 have C:Ctx prog main J (bf 253 .normal):=⟨hJ,by decide⟩
 refine Xr C U U<|R.asg C U U U<|R.asg C U U U<|Ad C U U<|Xr C U U<|Rm C U U<|Rm C U U<|R.callP C U U U U (cutIn_c hJ (by assumption) _)<|R.ext C U U U U<|R.ext C U U U U<|R.ext C U U U U<|R.asg C U U U<|R.asg C U U U<|Ad C U U<|X.ret C U U func253 U (by exact(.tmp U (.tmp U (.tmp U .nil))))<|Hp hret ?_
 rfl
theorem genSplit_c(hl:s.length≤100000000)(ro:RO):CallR prog J (fnv 249) [strV s,strV [ch], .int .i64 0, .int .i64 (-1)] ro (fun v ro'=>LsT ro' v (splitL ch s)∧capOk v):=by
 have hcnt:s.count ch≤s.length:=List.count_le_length
 have htot:=splitL_len ch s
 have hz:=zeroS (s.count ch+1)
 refine CallR.intro hJ Kr fun c cs tail hret=>enter_X (n:=66) func249 U U (Nl U) ?_
 have C:Ctx prog main J (bf 249 .normal):=⟨hJ,by decide⟩
 refine Xr C U U<|Ad C U U<|Xs C<|Xr C U U<|Rm C U U<|R.int C U U U U b_eql<|R.fixv (t:=13) (v':= .bool false) U (by rfl)<|R.done C<|X.cond C.1 U (fun h=>nomatch h) (fun _=>?_)
 refine X.skip C.1<|Xs C<|Xr C U U<|Rm C U U<|R.str C U U U U b_seql<|R.fixv (t:=15) (v':= .bool false) U (by rfl)<|R.done C<|X.cond C.1 U (fun h=>nomatch h) (fun _=>?_)
 refine X.skip C.1<|Xs C<|Xr C U U<|Rm C U U<|R.int C U U U U b_lss<|R.fixv (t:=20) (v':= .bool true) U (by rfl)<|R.done C<|X.cond C.1 U (fun _=>?_) (fun h=>nomatch h)
 refine X.region C U U<|Rm C U U<|Rm C U U<|R.callP C U U U U (count_c hJ _)<|Ra C U U U<|Ad C U U<|Xr C U U<|Rm C U U<|Rm C U U<|R.sLen C U U U runUnderlying9<|Ra C U U U<|R.min2 C U U U U<|R.fixv (t:=29) (v':= .int .i64 ((s.count ch+1:Nat):Int)) U (by(refine congrArg (Value.int .i64) ?_;rw [Int.min_def];split<;>omega)) ?_;refine Ad C U U<|Xr C U U<|Rm C U U<|R.makeSlice C U U U runUnderlying167 (show prog.info? 9=some Tryz.t9 by kernel_rfl) U Dd U U U O hz fun p31=>Ad C U U<|Xr C U U<|Rm C U U<|R.int C U U U U (b_sub O O)<|R.fixv (t:=33) (v':= .int .i64 ((s.count ch:Nat):Int)) U (by(refine congrArg (Value.int .i64) ?_;omega)) ?_;refine Ad C U U<|Xr C U U<|Ad C U U<|Xs C<|X.block C.1<|X.loopI (ι:=Nat×List UInt8) C.1 (fun x=>splitL ch s=(splitL ch s).take x.1++splitL ch x.2∧x.1≤s.count ch∧x.2.length≤s.length) (fun x=> [(0,strV x.2),(1,strV [ch]),(2, .int .i64 0),(3, .int .i64 ((s.count ch:Nat):Int)),(9, .slice (some ⟨p31,0,none⟩) (s.count ch+1) (s.count ch+1)),(10, .int .i64 (x.1:Int))])
  (fun x=>⟨ro,(p31, .cells (((splitL ch s).take x.1).map strV++List.replicate (s.count ch+1-x.1) (strV [])).toArray 9 (0,0))::tail⟩) (fun x=>s.count ch-x.1) (0,s) ⟨by simp,Nat.zero_le _,Nat.le_refl _⟩ rfl ⟨U,U,U,U,U,U,trivial⟩ fun x hx hnext=>?_
 obtain⟨i,r⟩:=x
 obtain⟨hsp,hi,hrl⟩:=hx
 simp only at hsp hi hrl hnext⊢
 have hlen:(splitL ch r).length=s.count ch+1-i:=by
  have:=congrArg List.length hsp
  rw [List.length_append,List.length_take,htot] at this
  omega
 have hrc:=splitL_len ch r
 refine Xs C<|Xr C U U<|Rm C U U<|Rm C U U<|R.int C U U U U b_lss<|R.done C<|X.cond C.1 U (fun g1=>?_) (fun g1=>?_)
 ·have hi':i<s.count ch:=by simp only [dT] at g1;omega
  cases hf:r.findIdx? (· ==ch) with
  |none=>
   have:=congrArg List.length (splitL_none hf)
   rw [hlen] at this;simp at this;omega
  |some j=>
   have hj:=find_lt hf
   have hx:idxB r ch=(j:Int):=by rw [idxB,hf]
   have hs1:=splitL_some hf
   have hA:((splitL ch s).take i).length=i:=by rw [List.length_take,htot];omega
   have h9:(splitL ch s)[i]? =some (r.take j):=by
    have h8:(splitL ch s)[i]? =((splitL ch s).take i++splitL ch r)[i]? :=congrArg (·[i]?) hsp
    rw [h8,List.getElem?_append_right O,hA,Nat.sub_self,hs1];rfl
   have e1:(splitL ch s).take (i+1)=(splitL ch s).take i++ [r.take j]:=by rw [List.take_succ,h9];rfl
   have hput:Put (0+((i:Int)).toNat*1) [strV (r.take j)] (((splitL ch s).take i).map strV++List.replicate (s.count ch+1-i) (strV [])) (((splitL ch s).take (i+1)).map strV++List.replicate (s.count ch+1- (i+1)) (strV [])):=by
    have:=Put.mid (((splitL ch s).take i).map strV) [strV (r.take j)] (List.replicate (s.count ch+1-i) (strV [])) Zo
    rw [List.length_map,hA] at this
    rw [Int.toNat_natCast,Nat.zero_add,Nat.mul_one,e1,List.map_append,List.append_assoc]
    have e2:(List.replicate (s.count ch+1-i) (strV [])).drop [strV (r.take j)].length=List.replicate (s.count ch+1- (i+1)) (strV []):=by
     rw [List.drop_replicate];congr 1
    rw [e2] at this
    exact this
   refine X.skip C.1<|X.block C.1<|Xr C U U<|Rm C U U<|Rm C U U<|R.callP C U U U U (index_c hJ _)<|R.asg C U U U<|R.fixv (t:=11) (v':= .int .i64 (j:Int)) U (by(rw [hx]))<|R.done C<|Xs C<|Xr C U U<|Rm C U U<|R.int C U U U U b_lss<|R.fixv (t:=41) (v':= .bool false) U (Bv (by rw [dF];omega)) ?_;refine R.done C<|X.cond C.1 U (fun h=>nomatch h) (fun _=>?_)
   refine X.skip C.1<|Xr C U U<|Rm C U U<|Rm C U U<|Rm C U U<|Rm C U U<|Rm C U U<|Ra C U U U<|R.fixv (t:=47) (v':= .int .i64 (j:Int)) U (by(rw [Int.add_zero]))<|R.sTo C U U U U runUnderlying9 O O<|Rx C U U U runUnderlying167 sizeOf9<|R.store C U U U U sizeOf9 U U U V hput<|R.done C<|Xr C U U<|Rm C U U<|Rm C U U<|Rm C U U<|R.sLen C U U U runUnderlying9<|R.int C U U U U (b_add (by simp only [List.length_cons,List.length_nil];omega) (by simp only [List.length_cons,List.length_nil];omega))<|R.sFrom C U U U U runUnderlying9 (by simp only [List.length_cons,List.length_nil];omega) (by simp only [List.length_cons,List.length_nil];omega)<|Ad C U U<|X.region C U U<|Rm C U U<|Ra C U U U<|Ad C U U<|X.inBlock C.1 ?_
   have e3:(((j:Int)+([ch].length:Nat)).toNat)=j+1:=by simp
   refine X.weaken ?_ (hnext (i+1,r.drop (j+1)) ⟨?_,hi', ?_⟩ (by simp only;omega))
   ·exact⟨by rw [←e3];rfl,rfl,rfl,rfl,rfl,by simp [look],trivial⟩
   ·show splitL ch s=(splitL ch s).take (i+1)++splitL ch (r.drop (j+1))
    rw [e1,List.append_assoc]
    show splitL ch s=_++(r.take j::splitL ch (r.drop (j+1)))
    rw [←hs1];exact hsp
   ·simp only [List.length_drop];omega
 ·have hi':i=s.count ch:=by simp only [dF] at g1;omega
  subst hi'
  have hone:splitL ch r= [r]:=by
   cases hf:r.findIdx? (· ==ch) with
   |none=>exact splitL_none hf
   |some j=>
    have:=congrArg List.length (splitL_some hf)
    rw [hlen,List.length_cons,splitL_len] at this
    omega
  have hA:((splitL ch s).take (s.count ch)).length=s.count ch:=by rw [List.length_take,htot];omega
  have hput:Put (0+((s.count ch:Nat):Int).toNat*1) [strV r] (((splitL ch s).take (s.count ch)).map strV++List.replicate (s.count ch+1-s.count ch) (strV [])) ((splitL ch s).map strV):=by
   have:=Put.mid (((splitL ch s).take (s.count ch)).map strV) [strV r] (List.replicate (s.count ch+1-s.count ch) (strV [])) Zi
   rw [List.length_map,hA] at this
   rw [Int.toNat_natCast,Nat.zero_add,Nat.mul_one]
   have e2:(List.replicate (s.count ch+1-s.count ch) (strV [])).drop [strV r].length= []:=by simp
   rw [e2,List.append_nil] at this
   have e4:(splitL ch s).map strV=((splitL ch s).take (s.count ch)).map strV++ [strV r]:=by
    rw [hone] at hsp
    have:=congrArg (List.map strV) hsp
    rw [List.map_append] at this
    exact this
   rw [e4];exact this
  refine X.exit C.1 U<|Xr C U U<|Rm C U U<|Rm C U U<|Rm C U U<|Rx C U U U runUnderlying167 sizeOf9<|R.store C U U U U sizeOf9 U U U V hput<|R.done C<|Xr C U U<|Rm C U U<|Rm C U U<|Ra C U U U<|R.sliceTo C U U U U runUnderlying167 sizeOf9 O O<|Ad C U U<|X.persist C.1 fun ro1 hl1 h1=>Xt C func249 ?_
  have e5:(((s.count ch:Nat):Int)+1).toNat=(splitL ch s).length:=by rw [htot];omega
  refine hret _ _ _ hl1 (List.Sublist.refl _) ⟨⟨some ⟨p31,0,none⟩,s.count ch+1, ?_, .inr ⟨p31,0,_,_,_,rfl,h1, ?_⟩⟩,⟨some ⟨p31,0,none⟩,(((s.count ch:Nat):Int)+1).toNat,s.count ch+1,rfl,O⟩⟩
  ·show Value.slice _ (((s.count ch:Nat):Int)+1).toNat _=_
   rw [e5]
  ·rw [flatS,Nat.mul_one]
   have:=Sub.front ((splitL ch s).map strV) []
   rw [List.append_nil,List.length_map] at this
   exact this
theorem split_c(hl:s.length≤100000000)(ro:RO):CallR prog J (fnv 219) [strV s,strV [ch]] ro (fun v ro'=>LsT ro' v (splitL ch s)∧capOk v):=by
 refine CallR.intro hJ Kr fun c cs tail hret=>enter_X (n:=8) func219 U U (Nl U) ?_
 have C:Ctx prog main J (bf 219 .normal):=⟨hJ,by decide⟩
 refine Xr C U U<|Ad C U U<|Xr C U U<|Rm C U U<|Rm C U U<|R.callR C U U U U (genSplit_c hJ hl _) fun w1 ro1 hl1 hp1=>Ad C U U<|Xt C func219<|Hr hret hl1 ?_
 exact hp1
end Go.Lg.S
namespace Go.Lg.S
open Go Go.Conc Go.Lg Go.Proofs Go.Proofs.Tryz
variable {l s:List UInt8}{n p:Nat}
def asc(l:List UInt8):List Value:=(List.range 256).map fun i=>Value.bool (l.any fun x=>x.toNat==i)
theorem asc_len(l:List UInt8):(asc l).length=256:=by simp [asc]
theorem asc_at(l:List UInt8)(x:UInt8):(asc l)[x.toNat]? =some (.bool (l.contains x)):=by
 have hx:x.toNat<256:=UInt8.toNat_lt x
 rw [asc,List.getElem?_map,List.getElem?_range hx]
 simp only [Option.map_some]
 congr 2
 induction l with
 |nil=>rfl
 |cons y l ih=>
  rw [List.any_cons,List.contains_cons,ih]
  congr 1
  rw [Bool.eq_iff_iff,beq_iff_eq,beq_iff_eq]
  exact⟨fun h=>(UInt8.toNat_inj.1 h).symm,fun h=>by rw [h]⟩
theorem ones_asc(l:List UInt8):ones (asc l)=true:=by
 unfold asc
 generalize List.range 256=r
 induction r with
 |nil=>rfl
 |cons i r ih=>simp only [List.map_cons,ones,Bool.and_eq_true];exact⟨rfl,ih⟩
theorem put_set{l:List Value}{i:Nat}{v:Value}(h:i<l.length):Put i [v] l (l.set i v):=by
 have:=Put.mid (l.take i) [v] (l.drop i) Zo
 rw [List.length_take,Nat.min_eq_left O,List.take_append_drop] at this
 have e:l.take i++([v]++(l.drop i).drop [v].length)=l.set i v:=by
  rw [List.set_eq_take_append_cons_drop,if_pos h]
  simp
 rw [e] at this
 exact this
theorem asc_set(l:List UInt8)(x:UInt8):(asc l).set x.toNat (.bool true)=asc (l++ [x]):=by
 refine List.ext_getElem (by simp [asc]) fun i h1 h2=>?_
 rw [List.getElem_set]
 simp only [asc,List.getElem_map,List.getElem_range,List.any_append,List.any_cons,List.any_nil,Bool.or_false]
 split
 ·rename_i h;subst h;simp
 ·rename_i h
  have:(x.toNat==i)=false:=by simpa using h
  rw [this,Bool.or_false]
theorem put_asc(l:List UInt8)(x:UInt8):Put (0+((x.toNat:Int)).toNat*1) [.bool true] (asc l) (asc (l++ [x])):=by
 rw [Int.toNat_natCast,Nat.zero_add,Nat.mul_one, ←asc_set]
 exact put_set (by rw [asc_len];exact UInt8.toNat_lt x)
theorem sub_self{l:List Value}(h:l.length=n):Sub 0 n l l:=by
 have:=Sub.front l []
 rwa [List.append_nil,h] at this
theorem put_self(l:List Value):Put 0 l l l:=by
 have:=Put.mid [] l l (Nat.le_refl _)
 simpa using this
def trimR(l s:List UInt8):List UInt8:=(s.reverse.dropWhile l.contains).reverse
def trimL(l s:List UInt8):List UInt8:=s.dropWhile l.contains
theorem trimR_snoc(l r:List UInt8)(x:UInt8):trimR l (r++ [x])=if l.contains x then trimR l r else r++ [x]:=by
 unfold trimR
 rw [List.reverse_append,List.reverse_singleton,List.singleton_append,List.dropWhile_cons]
 split
 ·rfl
 ·rw [List.reverse_cons,List.reverse_reverse]
theorem put_all{l l0:List Value}(h:l.length=n)(h0:l0.length=n):Put 0 l l0 l:=by
 have:=Put.mid [] l l0 O
 rw [List.drop_eq_nil_of_le O,List.append_nil] at this
 exact this
variable {main:Bool}{J:Goroutine→Mem→Prop}(hJ:Closed prog main J)
include hJ
theorem mkSet_c(hl:l.length≤1000)(ha:∀x∈l,x.toNat<128)(ro:RO):CallP prog J (fnv 269) [strV l] ro (.tuple [.agg (asc l).toArray, .bool true].toArray):=by
 have hz:(asc [])=List.replicate 256 (.bool false):=by simp [asc,List.map_const']
 refine CallP.intro hJ Kr fun c cs tail hret=>enter_X (n:=21) func269 U U (Nl U) ?_
 have C:Ctx prog main J (bf 269 .normal):=⟨hJ,by decide⟩
 refine Xr C U U<|R.alloc C U U zeroValue326 U fun p2=>Ad C U U<|Xs C<|Xr C U U<|Ad C U U<|X.block C.1<|X.loopI (ι:=Nat) C.1 (fun i=>i≤l.length) (fun i=> [(0,strV l),(2, .pointer (some ⟨p2,0,none⟩)),(4, .int .i64 (i:Int))])
  (fun i=>⟨ro,(p2, .cells (asc (l.take i)).toArray 326 (0,0))::tail⟩) (fun i=>l.length-i) 0 (Nat.zero_le _) (by rw [List.take_zero,hz];rfl) ⟨U,U,U,trivial⟩ fun i hi hnext=>?_
 refine Xs C<|Xr C U U<|Rm C U U<|Rm C U U<|R.sLen C U U U runUnderlying9<|R.int C U U U U b_lss<|R.done C<|X.cond C.1 U (fun g1=>?_) (fun g1=>?_)
 ·have hi':i<l.length:=by simp only [dT] at g1;omega
  have hx:=ha _ (List.getElem_mem hi')
  refine X.skip C.1<|Xs C<|X.block C.1<|Xr C U U<|Rm C U U<|Rm C U U<|R.sIndex C U U U U runUnderlying9 O (show l[((i:Int)).toNat]? =some l[i] by rw [Int.toNat_natCast];exact List.getElem?_eq_getElem hi') ?_;refine Ad C U U<|Xs C<|Xr C U U<|Rm C U U<|R.int C U U U U b_geq<|R.fixv (t:=16) (v':= .bool false) U (Bv (by rw [dF];omega)) ?_;refine R.done C<|X.cond C.1 U (fun h=>nomatch h) (fun _=>?_)
  refine X.skip C.1<|X.region C U U<|Rm C U U<|R.indexAddrA C U U U U runUnderlying326 sizeOf4 O O<|R.store C U U U U sizeOf4 U U U V (put_asc (l.take i) l[i])<|R.done C<|X.inBlock C.1<|X.region C U U<|Rm C U U<|Ra C U U U<|Ad C U U ?_
  have hn:=hnext (i+1) hi' O
  rw [List.take_succ_eq_append_getElem hi'] at hn
  refine X.weaken ?_ hn
  exact⟨rfl,rfl,by simp [look],trivial⟩
 ·have hi':i=l.length:=by simp only [dF] at g1;omega
  subst hi'
  rw [List.take_length]
  refine X.exit C.1 U<|Xr C U U<|R5 C U U isAgg326 sizeOf326 V (sub_self (asc_len l))<|R.store C U U U U sizeOf326 U (asc_len l) (ones_asc l) .here (put_self (asc l))<|Ad C U U<|X.ret C U U func269 U (by exact(.agg U isAgg326 sizeOf326 List.mem_cons_self (sub_self (asc_len l)) (.tmp U .nil)))<|hret _ _ U Vs
theorem has_c{x:UInt8}(ro:RO):CallV prog J (fnv 284) [bdV p, .int .u8 (x.toNat:Int)] ro [(p, .cells (asc l).toArray 326 (0,0))] fun v ro' pre'=>v= .bool (l.contains x)∧ro'=ro∧pre'= [(p, .cells (asc l).toArray 326 (0,0))]:=by
 have hx:x.toNat<256:=UInt8.toNat_lt x
 refine CallV.intro (first:= []) (vs:= [_,_]) (cap:= []) hJ Kr fun c cs tail hret=>enter_X (n:=10) func284 U U (Nl U) ?_
 have C:Ctx prog main J (bf 284 .normal):=⟨hJ,by decide⟩
 refine Xr C U U<|Ad C U U<|Xr C U U<|Rm C U U<|Rm C U U<|R.nilC C U U U<|R.indexAddrA C U U U U runUnderlying326 sizeOf4 O O<|R.loadOne C U U U isAgg4 V (show(asc l)[0+((x.toNat:Int)).toNat*1]? =some (.bool (l.contains x)) by rw [Int.toNat_natCast,Nat.zero_add,Nat.mul_one];exact asc_at l x)<|Ad C U U<|Xt C func284 ?_
 exact hret _ _ _ _ (RO.le_refl _) ⟨rfl,rfl,rfl⟩ (List.Sublist.refl _)
theorem trimRight_c(hs:s.length≤1000000000)(ro:RO):CallV prog J (fnv 271) [strV s,bdV p] ro [(p, .cells (asc l).toArray 326 (0,0))] fun v ro' pre'=>v=strV (trimR l s)∧ro'=ro∧pre'= [(p, .cells (asc l).toArray 326 (0,0))]:=by
 refine CallV.intro (first:= []) (vs:= [_,_]) (cap:= []) hJ Kr fun c cs tail hret=>enter_X (n:=22) func271 U U (Nl U) ?_
 have C:Ctx prog main J (bf 271 .normal):=⟨hJ,by decide⟩
 refine Xr C U U<|Ad C U U<|Xs C<|X.block C.1<|X.loopI (ι:=List UInt8) C.1 (fun r=>trimR l s=trimR l r∧r.length≤s.length) (fun r=> [(0,strV r),(1,bdV p)]) (fun _=>⟨ro, [(p, .cells (asc l).toArray 326 (0,0))]++tail⟩) (fun r=>r.length) s ⟨rfl,Nat.le_refl _⟩ U ⟨U,U,trivial⟩ fun r hr hnext=>?_
 obtain⟨htr,hrl⟩:=hr
 refine Xs C<|Xr C U U<|Rm C U U<|R.sLen C U U U runUnderlying9<|R.int C U U U U b_gtr<|R.done C<|X.cond C.1 U (fun g1=>?_) (fun g1=>?_)
 ·have hne:r≠ []:=by intro e;subst e;simp at g1
  obtain⟨q,x,rfl⟩:∃q x,r=q++ [x]:=⟨_,_,(List.dropLast_concat_getLast hne).symm⟩
  have hql:(q++ [x]).length=q.length+1:=by simp
  rw [trimR_snoc] at htr
  refine X.skip C.1<|X.block C.1<|Xs C<|Xr C U U<|Rm C U U<|Rm C U U<|Rm C U U<|R.sLen C U U U runUnderlying9<|R.int C U U U U (b_sub O O)<|R.sIndex C U U U U runUnderlying9 (by rw [hql];omega) (show(q++ [x])[(((q++ [x]).length:Int) -1).toNat]? =some x by rw [hql,show(((q.length+1:Nat):Int) -1).toNat=q.length by omega];simp)<|R.call C U U U U U (has_c hJ (l:=l) ro) fun w1 ro1 pre1 hl1 hp1=>?_
  obtain⟨rfl,rfl,rfl⟩:=hp1
  refine R.not C U U U<|R.done C<|X.cond C.1 U (fun g2=>?_) (fun g2=>?_)
  ·have hx:l.contains x=false:=by simpa using g2
   rw [hx,if_neg Zi] at htr
   refine X.exit C.1 U<|Xr C U U<|Rm C U U<|Ad C U U<|Xt C func271 ?_
   exact hret _ _ _ _ (RO.le_refl _) ⟨by rw [htr];rfl,rfl,rfl⟩ (List.Sublist.refl _)
  ·have hx:l.contains x=true:=by simpa using g2
   rw [hx,if_pos rfl] at htr
   refine X.skip C.1<|X.region C U U<|Rm C U U<|Rm C U U<|R.sLen C U U U runUnderlying9<|R.int C U U U U (b_sub O O)<|R.sTo C U U U U runUnderlying9 (by rw [hql];omega) O<|Ad C U U<|X.inBlock C.1 ?_
   have e9:(q++ [x]).take (((q++ [x]).length:Int) -1).toNat=q:=by rw [hql,show(((q.length+1:Nat):Int) -1).toNat=q.length by omega];simp
   refine X.weaken ?_ (hnext q ⟨htr,O⟩ O)
   exact⟨by simp only [look,Nat.beq];rw [e9],rfl,trivial⟩
 ·have hne:r= []:=by
   cases r with
   |nil=>rfl
   |cons x r=>simp at g1
  subst hne
  refine X.exit C.1 U<|Xr C U U<|Rm C U U<|Ad C U U<|Xt C func271 ?_
  exact hret _ _ _ _ (RO.le_refl _) ⟨by rw [htr];rfl,rfl,rfl⟩ (List.Sublist.refl _)
theorem trimLeft_c(hs:s.length≤1000000000)(ro:RO):CallV prog J (fnv 270) [strV s,bdV p] ro [(p, .cells (asc l).toArray 326 (0,0))] fun v ro' pre'=>v=strV (trimL l s)∧ro'=ro∧pre'= [(p, .cells (asc l).toArray 326 (0,0))]:=by
 refine CallV.intro (first:= []) (vs:= [_,_]) (cap:= []) hJ Kr fun c cs tail hret=>enter_X (n:=16) func270 U U (Nl U) ?_
 have C:Ctx prog main J (bf 270 .normal):=⟨hJ,by decide⟩
 refine Xr C U U<|Ad C U U<|Xs C<|X.block C.1<|X.loopI (ι:=List UInt8) C.1 (fun r=>trimL l s=trimL l r∧r.length≤s.length) (fun r=> [(0,strV r),(1,bdV p)]) (fun _=>⟨ro, [(p, .cells (asc l).toArray 326 (0,0))]++tail⟩) (fun r=>r.length) s ⟨rfl,Nat.le_refl _⟩ U ⟨U,U,trivial⟩ fun r hr hnext=>?_
 obtain⟨htr,hrl⟩:=hr
 refine Xs C<|Xr C U U<|Rm C U U<|R.sLen C U U U runUnderlying9<|R.int C U U U U b_gtr<|R.done C<|X.cond C.1 U (fun g1=>?_) (fun g1=>?_)
 ·have hne:r≠ []:=by intro e;subst e;simp at g1
  obtain⟨x,q,rfl⟩:∃x q,r=x::q:=List.exists_cons_of_ne_nil hne
  have hql:(x::q).length=q.length+1:=by simp
  refine X.skip C.1<|X.block C.1<|Xs C<|Xr C U U<|Rm C U U<|Rm C U U<|R.sIndex C U U U U runUnderlying9 Dd U<|R.call C U U U U U (has_c hJ (l:=l) ro) fun w1 ro1 pre1 hl1 hp1=>?_
  obtain⟨rfl,rfl,rfl⟩:=hp1
  refine R.not C U U U<|R.done C<|X.cond C.1 U (fun g2=>?_) (fun g2=>?_)
  ·have hx:l.contains x=false:=by simpa using g2
   refine X.exit C.1 U<|Xr C U U<|Rm C U U<|Ad C U U<|Xt C func270 ?_
   exact hret _ _ _ _ (RO.le_refl _) ⟨by rw [htr,trimL,List.dropWhile_cons,hx,if_neg Zi];rfl,rfl,rfl⟩ (List.Sublist.refl _)
  ·have hx:l.contains x=true:=by simpa using g2
   refine X.skip C.1<|X.region C U U<|Rm C U U<|R.sFrom C U U U U runUnderlying9 Dd (by rw [hql];omega)<|Ad C U U<|X.inBlock C.1<|X.weaken ?_ (hnext q ⟨by rw [htr,trimL,List.dropWhile_cons,hx,if_pos rfl];rfl,O⟩ O)
   exact⟨U,U,trivial⟩
 ·have hne:r= []:=by
   cases r with
   |nil=>rfl
   |cons x r=>simp at g1
  subst hne
  refine X.exit C.1 U<|Xr C U U<|Rm C U U<|Ad C U U<|Xt C func270 ?_
  exact hret _ _ _ _ (RO.le_refl _) ⟨by rw [htr];rfl,rfl,rfl⟩ (List.Sublist.refl _)
theorem trim_c(hs:s.length≤1000000000)(h2:2≤l.length)(hl:l.length≤1000)(ha:∀x∈l,x.toNat<128)(ro:RO):CallP prog J (fnv 251) [strV s,strV l] ro (strV (trimL l (trimR l s))):=by
 have hln:(l== [])=false:=by cases l with
  |nil=>simp at h2
  |cons x l=>rfl
 refine CallP.intro hJ Kr fun c cs tail hret=>enter_X (n:=43) func251 U U (Nl U) ?_
 have C:Ctx prog main J (bf 251 .normal):=⟨hJ,by decide⟩
 refine Xr C U U<|Ad C U U<|Xs C<|Xr C U U<|Rm C U U<|R.str C U U U U b_seql<|Rm C U U<|R.fix (t:=9) U (fun g1=>?_) (fun g1=>?_)
 ·have he:s= []:=eq_of_beq g1
  subst he
  refine R.pass C U U<|R.pass C U U<|R.pickT C U U U U<|R.done C<|X.cond C.1 U (fun _=>?_) (fun h=>nomatch h)
  refine Xr C U U<|Rm C U U<|Ad C U U<|Xt C func251<|Hp hret ?_
  rfl
 ·refine Rm C U U<|R.str C U U U U b_seql<|R.fixv (t:=11) (v':= .bool false) U (Bv (by exact hln)) ?_;refine R.pickF C U U U U<|R.done C<|X.cond C.1 U (fun h=>nomatch h) (fun _=>?_)
  refine X.skip C.1<|Xs C<|Xr C U U<|Rm C U U<|R.sLen C U U U runUnderlying9<|R.int C U U U U b_eql<|R.fixv (t:=16) (v':= .bool false) U (Bv (by rw [Bool.eq_iff_iff,beq_iff_eq];simp;omega)) ?_;refine Rm C U U<|R.pass C U U<|R.pass C U U<|R.pass C U U<|R.pickF C U U U U<|R.done C<|X.cond C.1 U (fun h=>nomatch h) (fun _=>?_)
  refine X.skip C.1<|Xs C<|Xr C U U<|Rm C U U<|R.callP C U U U U (mkSet_c hJ (by assumption) (by assumption) _)<|Rm C U U<|R.ext C U U U U<|R.ext C U U U U<|R.alloc C U U zeroValue326 U fun p5=>?_;refine R.store C U U U U sizeOf326 U (asc_len l) (ones_asc l) .here (put_all (asc_len l) U)<|R.asg C U U U<|R.fixv (t:=6) (v':= .bool true) U (by rfl)<|R.done C<|Xr C U U<|Rm C U U<|R.done C<|X.cond C.1 U (fun _=>?_) (fun h=>nomatch h)
  refine Xr C U U<|Rm C U U<|R.call C U U U U (pre:= [_]) U (trimRight_c hJ (l:=l) hs ro) fun w1 ro1 pre1 hl1 hp1=>?_
  obtain⟨rfl,rfl,rfl⟩:=hp1
  have hr:(trimR l s).length≤s.length:=by
   unfold trimR
   rw [List.length_reverse]
   have:=(List.dropWhile_sublist (p:=l.contains) (l:=s.reverse)).length_le
   rwa [List.length_reverse] at this
  refine R.call C U U U U U (trimLeft_c hJ (l:=l) (by omega:(trimR l s).length≤1000000000) ro1) fun w2 ro2 pre2 hl2 hp2=>?_
  obtain⟨rfl,rfl,rfl⟩:=hp2
  refine Ad C U U<|Xt C func251<|Hp hret ?_
  rfl
end Go.Lg.S
namespace Go.Lg.S
open Go Go.Conc Go.Lg Go.Proofs Go.Proofs.Tryz
variable {m:Int}{neg:Bool}{ds:List UInt8}
def isD(x:UInt8):Bool:=decide (48≤x.toNat) && decide (x.toNat≤57)
def numD(ds:List UInt8):Nat:=ds.foldl (fun n x=>n*10+(x.toNat-48)) 0
theorem numD_snoc(ds:List UInt8)(x:UInt8):numD (ds++ [x])=numD ds*10+(x.toNat-48):=by
 unfold numD;rw [List.foldl_append];rfl
theorem numD_lt(ds:List UInt8)(h:∀x∈ds,isD x=true):numD ds<10^ds.length:=by
 rw [←List.reverse_reverse ds] at h⊢
 generalize ds.reverse=r at h
 induction r with
 |nil=>decide
 |cons x r ih=>
  have h1:=ih (fun y hy=>h y (by rw [List.reverse_cons,List.mem_append];exact .inl hy))
  have h2:=h x Zi
  simp only [isD,Bool.and_eq_true,decide_eq_true_eq] at h2
  rw [List.reverse_cons,numD_snoc,List.length_append,List.length_singleton,Nat.pow_succ]
  omega
theorem bys_at{l:List UInt8}{i:Nat}(h:i<l.length):(bys l)[i]? =some (.int .u8 (l[i].toNat:Int)):=by
 unfold bys;rw [List.getElem?_map,List.getElem?_eq_getElem h];rfl
theorem b_subK{P:Program}{t:TypeId}{k:IntKind}{n v:Int}(hv:k.wrap (m-n)=v):∀M K,K (.int k v) M→Sm P M (binOp .sub t (.int k m) (.int k n)) K:=fun M K h=>by
 subst hv
 unfold binOp
 simp only [ne_eq,not_true_eq_false,if_false]
 exact Sm.pure h
theorem u8_wrap(h0:0≤m)(h1:m≤255):IntKind.u8.wrap m=m:=by
 have:=IntWalk.u8_in m O
 exact this
variable {main:Bool}{J:Goroutine→Mem→Prop}(hJ:Closed prog main J)
include hJ
abbrev numS(neg:Bool)(ds:List UInt8):List UInt8:=if neg then 45::ds else ds
abbrev numV(neg:Bool)(ds:List UInt8):Int:=if neg then -(numD ds:Int) else(numD ds:Int)
theorem atoiD_c(h1:1≤ds.length)(h9:ds.length≤9)(hd:∀x∈ds,isD x=true)(ro:RO):
  CallP prog J (fnv 274) [strV (numS neg ds)] ro (.tuple [.int .i64 (numV neg ds), .nilIface].toArray):=by
 obtain⟨d0,ds1,rfl⟩:∃x r,ds=x::r:=List.exists_cons_of_ne_nil (fun e=>by subst e;simp at h1)
 have hd0:=hd d0 Zi
 simp only [isD,Bool.and_eq_true,decide_eq_true_eq] at hd0
 refine CallP.intro hJ Kr fun c cs tail hret=>enter_X (n:=77) func274 U U (Nl U) ?_
 have C:Ctx prog main J (bf 274 .normal):=⟨hJ,by decide⟩
 have hlen:1≤(numS neg (d0::ds1)).length∧(numS neg (d0::ds1)).length≤10:=by cases neg<;>simp [numS] at h9⊢ <;>omega
 refine Xr C U U<|R.asg C U U U<|Ad C U U<|Xr C U U<|Rm C U U<|R.sLen C U U U runUnderlying9<|Ad C U U<|Xs C<|Xr C U U<|Rm C U U<|R.pass C U U<|R.pass C U U<|R.pass C U U<|R.pass C U U<|R.pass C U U<|R.pass C U U<|R.pickF C U U U U<|Rm C U U<|Rm C U U<|Rm C U U<|R.int C U U U U b_lss<|R.fixv (t:=24) (v':= .bool true) U (Bv (by rw [dT];omega)) ?_;refine Rm C U U<|Rm C U U<|R.int C U U U U b_lss<|R.fixv (t:=27) (v':= .bool true) U (Bv (by rw [dT];omega)) ?_;refine R.pickT C U U U U<|R.pickT C U U U U<|R.pickF C U U U U<|R.done C<|X.cond C.1 U (fun _=>?_) (fun h=>nomatch h)
 refine Xr C U U<|Rm C U U<|Ad C U U<|Xs C<|X.afterI (ι:=Unit) (fun _=>True) (fun _=> [(0,strV (d0::ds1)),(5,strV (numS neg (d0::ds1)))]) (fun _=>⟨ro,tail⟩) (fun _ _=>?_) (fun hcont=>?_)
 rotate_left
 ·have _:=h1
  cases neg with
  |true=>
   refine Xr C U U<|Rm C U U<|R.sIndex C U U U U runUnderlying9 Dd U<|R.int C U U U U b_eql<|R.fixv (t:=34) (v':= .bool true) U (by rfl)<|Rm C U U<|R.pass C U U<|R.pass C U U<|R.pass C U U<|R.pickT C U U U U<|R.done C<|X.cond C.1 U (fun _=>?_) (fun h=>nomatch h)
   refine Xr C U U<|Rm C U U<|R.sFrom C U U U U runUnderlying9 Dd (by show(1:Int)≤((d0::ds1).length+1:Nat);omega)<|Ad C U U<|Xr C U U<|Rm C U U<|R.sLen C U U U runUnderlying9<|R.int C U U U U b_lss<|R.fixv (t:=44) (v':= .bool false) U (Bv (by rw [dF];show¬(((d0::ds1).length:Nat):Int)<1;omega)) ?_;refine R.done C<|X.cond C.1 U (fun h=>nomatch h) (fun _=>?_)
   refine X.skip C.1<|X.weaken ?_ (hcont () trivial)
   exact⟨U,U,trivial⟩
  |false=>
   refine Xr C U U<|Rm C U U<|R.sIndex C U U U U runUnderlying9 Dd U<|R.int C U U U U b_eql<|R.fixv (t:=34) (v':= .bool false) U (Bv (by rw [beq_eq_false_iff_ne];omega)) ?_;refine Rm C U U<|Rm C U U<|R.sIndex C U U U U runUnderlying9 Dd U<|R.int C U U U U b_eql<|R.fixv (t:=38) (v':= .bool false) U (Bv (by rw [beq_eq_false_iff_ne];omega)) ?_;refine R.pickF C U U U U<|R.done C<|X.cond C.1 U (fun h=>nomatch h) (fun _=>?_)
   refine X.skip C.1<|X.weaken ?_ (hcont () trivial)
   exact⟨U,U,trivial⟩
 refine Xr C U U<|Ad C U U<|Xs C<|Xr C U U<|Rm C U U<|R.toBytes C U U U runUnderlying9 runUnderlying156 runUnderlying5 fun p47 cap47 sp47 fq47 hc47=>Rn C U U runUnderlying156<|Rm C U U<|R.done C<|X.block C.1 ?_
 have hb10:∀i,i≤(d0::ds1).length→numD ((d0::ds1).take i)<1000000000:=fun i hi=>by
  have:=numD_lt ((d0::ds1).take i) (fun x hx=>hd x (List.mem_of_mem_take hx))
  have h2:10^ ((d0::ds1).take i).length≤10^9:=Nat.pow_le_pow_right Dd (by rw [List.length_take];omega)
  omega
 refine X.loopI (ι:=Nat) C.1 (fun i=>i≤(d0::ds1).length) (fun i=> [(5,strV (numS neg (d0::ds1))),(6, .int .i64 (numD ((d0::ds1).take i):Int)),(47, .slice (some ⟨p47,0,none⟩) (d0::ds1).length cap47),(48, .int .i64 ((d0::ds1).length:Int)),(49, .int .i64 (i:Int))])
  (fun _=>⟨ro,(p47, .cells (bys (d0::ds1)++sp47).toArray 5 fq47)::tail⟩) (fun i=>(d0::ds1).length-i) 0 (Nat.zero_le _) rfl ⟨U,U,U,U,U,trivial⟩ fun i hi hnext=>?_
 have hbi:=hb10 i hi
 refine Xr C U U<|R.int C U U U U b_lss<|R.done C<|Xs C<|X.cond C.1 U (fun g1=>?_) (fun g1=>?_)
 ·have hi':i<(d0::ds1).length:=by simp only [dT] at g1;omega
  have hx:=hd _ (List.getElem_mem hi')
  simp only [isD,Bool.and_eq_true,decide_eq_true_eq] at hx
  have hts:(d0::ds1).take (i+1)=(d0::ds1).take i++ [(d0::ds1)[i]]:=List.take_succ_eq_append_getElem hi'
  have hbn:=hb10 (i+1) hi'
  rw [hts,numD_snoc] at hbn
  refine X.skip C.1<|Xs C<|X.block C.1<|Xr C U U<|Rx C U U U runUnderlying156 sizeOf5<|R.loadOne C U U U isAgg5 V (show(bys (d0::ds1)++sp47)[0+((i:Int)).toNat*1]? =some (.int .u8 ((d0::ds1)[i].toNat:Int)) by rw [Int.toNat_natCast,Nat.zero_add,Nat.mul_one,List.getElem?_append_left (by rw [bys_len];exact hi')];exact bys_at hi') ?_;refine Ad C U U<|Xr C U U<|Rm C U U<|R.int C U U U U (b_subK (u8_wrap O O))<|Ad C U U<|Xs C<|Xr C U U<|Rm C U U<|R.int C U U U U b_gtr<|R.fixv (t:=56) (v':= .bool false) U (Bv (by rw [dF];omega)) ?_;refine R.done C<|X.cond C.1 U (fun h=>nomatch h) (fun _=>?_)
  refine X.skip C.1<|X.region C U U<|Rm C U U<|R.int C U U U U (b_mul O O)<|Rm C U U<|R.convN C U U U runUnderlying5 runUnderlying3 (wrap64 O O)<|Ra C U U U<|Ad C U U<|X.inBlock C.1<|X.region C U U<|Ra C U U U<|Rm C U U<|R.done C ?_
  have hn:=hnext (i+1) hi' O
  rw [hts,numD_snoc] at hn
  refine X.weaken ?_ hn
  exact⟨rfl,by simp [look];omega,rfl,rfl,by simp [look],trivial⟩
 ·have hi':i=(d0::ds1).length:=by simp only [dF] at g1;omega
  subst hi'
  rw [List.take_length]
  rw [List.take_length] at hbi
  cases neg with
  |true=>
   refine X.exit C.1 U<|Xs C<|Xr C U U<|Rm C U U<|R.sIndex C U U U U runUnderlying9 Dd U<|R.int C U U U U b_eql<|R.fixv (t:=66) (v':= .bool true) U (by rfl)<|R.done C<|X.cond C.1 U (fun _=>?_) (fun h=>nomatch h)
   refine X.region C U U<|Rm C U U<|R.neg C U U U O O<|Ad C U U<|Xr C U U<|Rm C U U<|R.asg C U U U<|Ad C U U<|X.ret C U U func274 U (by exact(.tmp U (.tmp U .nil)))<|Hp hret ?_
   rfl
  |false=>
   refine X.exit C.1 U<|Xs C<|Xr C U U<|Rm C U U<|R.sIndex C U U U U runUnderlying9 Dd U<|R.int C U U U U b_eql<|R.fixv (t:=66) (v':= .bool false) U (Bv (by rw [beq_eq_false_iff_ne];omega)) ?_;refine R.done C<|X.cond C.1 U (fun h=>nomatch h) (fun _=>?_)
   refine X.skip C.1<|Xr C U U<|Rm C U U<|R.asg C U U U<|Ad C U U<|X.ret C U U func274 U (by exact(.tmp U (.tmp U .nil)))<|Hp hret ?_
   rfl
theorem atoi_c(h1:1≤ds.length)(h9:ds.length≤9)(hd:∀x∈ds,isD x=true)(ro:RO):
  CallP prog J (fnv 252) [strV (numS neg ds)] ro (.tuple [.int .i64 (numV neg ds), .nilIface].toArray):=by
 refine CallP.intro hJ Kr fun c cs tail hret=>enter_X (n:=18) func252 U U (Nl U) ?_
 have C:Ctx prog main J (bf 252 .normal):=⟨hJ,by decide⟩
 refine Xr C U U<|R.asg C U U U<|Ad C U U<|Xr C U U<|Rm C U U<|R.callP C U U U U (atoiD_c hJ (by assumption) (by assumption) (by assumption) _)<|Rm C U U<|R.ext C U U U U<|R.ext C U U U U<|R.asg C U U U<|Ad C U U<|Xs C<|Xr C U U<|Rm C U U<|R.cmp C U U U U (.neq guardNil U (if_nn runUnderlying170))<|R.fixv (t:=12) (v':= .bool false) U (by rfl)<|R.done C<|X.cond C.1 U (fun h=>nomatch h) (fun _=>?_)
 refine X.skip C.1<|Xr C U U<|Rm C U U<|R.asg C U U U<|Ad C U U<|X.ret C U U func252 U (by exact(.tmp U (.tmp U .nil)))<|Hp hret ?_
 rfl
end Go.Lg.S
namespace Go.Lg.S
open Go Go.Conc Go.Lg Go.Proofs Go.Proofs.Tryz
variable {s:List UInt8}{ss:List (List UInt8)}{v:Value}{ro:RO}
def findL(s:List UInt8)(ss:List (List UInt8)):Int:=match ss.findIdx? (· ==s) with|some j=>(j:Int)|none=> -1
theorem findL_hit{i:Nat}(h:i<ss.length)(he:ss[i]=s)(hn:s∉ss.take i):findL s ss=(i:Int):=by
 have:ss.findIdx? (· ==s)=some i:=by
  rw [List.findIdx?_eq_some_iff_getElem]
  refine⟨h,by simpa using he,fun j hj=>?_⟩
  simp only [Bool.not_eq_true,beq_eq_false_iff_ne]
  intro e
  exact hn (by rw [List.mem_take_iff_getElem];exact⟨j,O,e⟩)
 rw [findL,this]
theorem findL_miss(hn:s∉ss):findL s ss= -1:=by
 have:ss.findIdx? (· ==s)=none:=by
  rw [List.findIdx?_eq_none_iff]
  intro x hx
  simp only [beq_eq_false_iff_ne]
  intro e;subst e;exact hn hx
 rw [findL,this]
theorem findL_in(s:List UInt8)(ss:List (List UInt8)):decide (0≤findL s ss)=decide (s∈ss):=by
 unfold findL
 split
 ·rename_i j h
  have:=List.findIdx?_eq_some_iff_getElem.1 h
  obtain⟨h1,h2,_⟩:=this
  rw [Bool.eq_iff_iff,decide_eq_true_eq,decide_eq_true_eq]
  exact⟨fun _=>by rw [←(by simpa using h2:ss[j]=s)];exact List.getElem_mem h1,fun _=>by omega⟩
 ·rename_i h
  rw [List.findIdx?_eq_none_iff] at h
  rw [Bool.eq_iff_iff,decide_eq_true_eq,decide_eq_true_eq]
  exact⟨fun h0=>by omega,fun h0=>by have:=h s h0;simp at this⟩
variable {main:Bool}{J:Goroutine→Mem→Prop}(hJ:Closed prog main J)
include hJ
theorem indexL_c(hv:LsT ro v ss)(hn:ss.length≤100000000):CallP prog J (fnv 223) [v,strV s] ro (.int .i64 (findL s ss)):=by
 obtain⟨bs,cap,rfl⟩:=hv.form
 refine CallP.intro hJ Kr fun c cs tail hret=>enter_X (n:=19) func223 U U (Nl U) ?_
 have C:Ctx prog main J (bf 223 .normal):=⟨hJ,by decide⟩
 refine Xr C U U<|Ad C U U<|Xs C<|Xr C U U<|Rm C U U<|Rn C U U runUnderlying167<|Rm C U U<|R.done C<|X.block C.1<|X.loopI (ι:=Nat) C.1 (fun i=>i≤ss.length∧s∉ss.take i) (fun i=> [(0, .slice bs ss.length cap),(1,strV s),(7, .int .i64 (ss.length:Int)),(8, .int .i64 (i:Int))])
  (fun _=>⟨ro,tail⟩) (fun i=>ss.length-i) 0 ⟨Nat.zero_le _,by simp⟩ rfl ⟨U,U,U,U,trivial⟩ fun i hi hnext=>?_
 obtain⟨hi,hinv⟩:=hi
 refine Xr C U U<|R.int C U U U U b_lss<|R.done C<|Xs C<|Xk C U (fun hlt=>?_) (fun hlt=>?_)
 ·have hi':i<ss.length:=O
  obtain⟨p,off,cap',l,t,fq,he,hro,hsub⟩:=hv.at (fun _=>rfl) O
  cases he
  have hat:l[off+((i:Int)).toNat*1]? =some (strV ss[i]):=by
   have:=(hsub i hi').get 0 O
   simpa using this
  refine X.skip C.1<|Xs C<|X.block C.1<|Xr C U U<|Rm C U U<|Ad C U U<|Xr C U U<|Rm C U U<|Rm C U U<|Rm C U U<|Rx C U U U runUnderlying167 sizeOf9<|R.loadOneRo C U U U isAgg9 hro hat<|R.str C U U U U b_seql<|R.done C<|X.cond C.1 U (fun g1=>?_) (fun g1=>?_)
  ·have e1:s=ss[i]:=by simpa using g1
   refine Xr C U U<|Rm C U U<|Ad C U U<|Xt C func223<|Hp hret ?_
   rw [findL_hit hi' e1.symm hinv];rfl
  ·have e1:¬s=ss[i]:=by simpa using g1
   refine X.skip C.1<|X.inBlock C.1<|X.region C U U<|Ra C U U U<|Rm C U U<|R.done C<|X.weaken ?_ (hnext (i+1) ⟨hi', ?_⟩ O)
   ·exact⟨rfl,rfl,rfl,by simp [look],trivial⟩
   ·rw [List.take_succ_eq_append_getElem hi',List.mem_append,List.mem_singleton]
    exact fun h=>h.elim hinv e1
 ·obtain rfl:i=ss.length:=by omega
  rw [List.take_length] at hinv
  refine X.exit C.1 U<|Xr C U U<|Ad C U U<|Xt C func223<|Hp hret ?_
  rw [findL_miss hinv];rfl
theorem containsL_c(hv:LsT ro v ss)(hn:ss.length≤100000000):CallP prog J (fnv 220) [v,strV s] ro (.bool (decide (s∈ss))):=by
 refine CallP.intro hJ Kr fun c cs tail hret=>enter_X (n:=9) func220 U U (Nl U) ?_
 have C:Ctx prog main J (bf 220 .normal):=⟨hJ,by decide⟩
 refine Xr C U U<|Ad C U U<|Xr C U U<|Rm C U U<|Rm C U U<|R.callP C U U U U (indexL_c hJ hv hn)<|R.int C U U U U b_geq<|Ad C U U<|Xt C func220<|Hp hret ?_
 rw [findL_in];rfl
end Go.Lg.S
namespace Go.Lg.S
open Go Go.Conc Go.Lg Go.Proofs Go.Proofs.Tryz
variable {pre s:List UInt8}
def hasPre(s pre:List UInt8):Bool:=decide (pre.length≤s.length) && (s.take pre.length==pre)
def trimPre(s pre:List UInt8):List UInt8:=if hasPre s pre then s.drop pre.length else s
variable {main:Bool}{J:Goroutine→Mem→Prop}(hJ:Closed prog main J)
include hJ
theorem hasPrefix_c(ro:RO):CallP prog J (fnv 283) [strV s,strV pre] ro (.bool (hasPre s pre)):=by
 refine CallP.intro hJ Kr fun c cs tail hret=>enter_X (n:=18) func283 U U (Nl U) ?_
 have C:Ctx prog main J (bf 283 .normal):=⟨hJ,by decide⟩
 refine Xr C U U<|Ad C U U<|Xr C U U<|Rm C U U<|R.sLen C U U U runUnderlying9<|Rm C U U<|R.sLen C U U U runUnderlying9<|R.int C U U U U b_geq<|Rm C U U<|R.fix (t:=10) U (fun g1=>?_) (fun g1=>?_)
 ·have hle:pre.length≤s.length:=by simp only [dT] at g1;omega
  refine Rm C U U<|Rm C U U<|R.sLen C U U U runUnderlying9<|R.sTo C U U U U runUnderlying9 O O<|Rm C U U<|R.str C U U U U b_seql<|R.pickT C U U U U<|Ad C U U<|Xt C func283<|Hp hret ?_
  simp [hasPre,hle,retVal]
 ·have hle:¬pre.length≤s.length:=by simp only [dF] at g1;omega
  refine R.pass C U U<|R.pass C U U<|R.pass C U U<|R.pass C U U<|R.pass C U U<|R.pass C U U<|R.pickF C U U U U<|Ad C U U<|Xt C func283<|Hp hret ?_
  simp [hasPre,hle,retVal]
theorem trimPrefixIn_c(ro:RO):CallP prog J (fnv 266) [strV s,strV pre] ro (strV (trimPre s pre)):=by
 refine CallP.intro hJ Kr fun c cs tail hret=>enter_X (n:=13) func266 U U (Nl U) ?_
 have C:Ctx prog main J (bf 266 .normal):=⟨hJ,by decide⟩
 refine Xr C U U<|Ad C U U<|Xs C<|Xr C U U<|Rm C U U<|Rm C U U<|R.callP C U U U U (hasPrefix_c hJ _)<|R.done C<|X.cond C.1 U (fun g1=>?_) (fun g1=>?_)
 ·have hle:pre.length≤s.length:=by
   have:=g1
   simp only [hasPre,Bool.and_eq_true,decide_eq_true_eq] at this
   exact this.1
  refine Xr C U U<|Rm C U U<|Rm C U U<|R.sLen C U U U runUnderlying9<|R.sFrom C U U U U runUnderlying9 O O<|Ad C U U<|Xt C func266<|Hp hret ?_
  simp [trimPre,g1,retVal]
 ·refine X.skip C.1<|Xr C U U<|Rm C U U<|Ad C U U<|Xt C func266<|Hp hret ?_
  simp [trimPre,g1,retVal]
theorem trimPrefix_c(ro:RO):CallP prog J (fnv 250) [strV s,strV pre] ro (strV (trimPre s pre)):=by
 refine CallP.intro hJ Kr fun c cs tail hret=>enter_X (n:=8) func250 U U (Nl U) ?_
 have C:Ctx prog main J (bf 250 .normal):=⟨hJ,by decide⟩
 refine Xr C U U<|Ad C U U<|Xr C U U<|Rm C U U<|Rm C U U<|R.callP C U U U U (trimPrefixIn_c hJ _)<|Ad C U U<|Xt C func250<|Hp hret ?_
 rfl
end Go.Lg.S
namespace Go.Lg.B
open Go Go.Conc Go.Lg Go.Proofs Go.Lg.S Go.Proofs.Tryz
variable {p:Nat}{w:Bool}
def digits10:List UInt8:= [48,49,50,51,52,53,54,55,56,57]
def numOf(s:List UInt8):Option Int:=
 if(decide (1≤(trimPre s [45]).length) && decide ((trimPre s [45]).length≤9)) && ((trimPre s [45]).all isD && !((trimPre s [45]).head? ==some 48 && !(s== [48]))) then some (numV (hasPre s [45]) (trimPre s [45])) else none
theorem digits_isD(x:UInt8):digits10.contains x=isD x:=by
 have key:∀n:Fin 256,digits10.contains (UInt8.ofNat n.val)=isD (UInt8.ofNat n.val):=by decide
 have:=key ⟨x.toNat,UInt8.toNat_lt x⟩
 simpa using this
theorem dropW_nil{α:Type}{p:α→Bool}:∀ {l:List α},l.dropWhile p= []↔ ∀x∈l,p x=true
 | []=>by simp
 |x::l=>by
  rw [List.dropWhile_cons]
  have ih:=dropW_nil (p:=p) (l:=l)
  split
  ·rename_i h
   rw [ih]
   exact⟨fun k y hy=>(List.mem_cons.1 hy).elim (fun e=>e▸h) (k y),fun k y hy=>k y (List.mem_cons_of_mem _ hy)⟩
  ·rename_i h
   exact⟨fun k=>(by cases k),fun k=>absurd (k x List.mem_cons_self) h⟩
theorem trim_all(d:List UInt8):trimL digits10 (trimR digits10 d)= []↔d.all isD=true:=by
 have e:digits10.contains=isD:=funext digits_isD
 unfold trimL trimR
 rw [e,List.all_eq_true]
 constructor
 ·intro h x hx
  have h1:=dropW_nil.1 h
  have h2:∀y∈d.reverse.dropWhile isD,isD y=true:=fun y hy=>h1 y (by simpa using hy)
  have h3:d.reverse.dropWhile isD= []:=by
   cases hd:d.reverse.dropWhile isD with
   |nil=>rfl
   |cons y r=>
    have hy:=h2 y (by rw [hd];exact List.mem_cons_self)
    have:=List.head?_dropWhile_not (p:=isD) (l:=d.reverse)
    rw [hd] at this
    simp [hy] at this
  have h4:=dropW_nil.1 h3
  exact h4 x (by simpa using hx)
 ·intro h
  have:d.reverse.dropWhile isD= []:=dropW_nil.2 fun x hx=>h x (by simpa using hx)
  rw [this];rfl
theorem numS_of(s:List UInt8):numS (hasPre s [45]) (trimPre s [45])=s:=by
 unfold numS trimPre hasPre
 split
 ·rename_i h
  simp only [Bool.and_eq_true,decide_eq_true_eq,beq_iff_eq] at h
  have:=List.take_append_drop ([45]:List UInt8).length s
  rw [h.2] at this
  exact this
 ·rfl
variable {main:Bool}{J:Goroutine→Mem→Prop}(hJ:Closed prog main J)
include hJ
theorem must_c{is:Bool}(ro:RO):CallV prog J (fnv 224) [bdV p, .bool is] ro [(p, .cells [.bool w].toArray 272 (0,0))] fun r ro' pre'=>r= .tuple #[]∧ro'=ro∧pre'= [(p, .cells [.bool (w|| !is)].toArray 272 (0,0))]:=by
 refine CallV.intro (first:= []) (vs:= [_,_]) (cap:= []) hJ Kr fun c cs tail hret=>enter_X (n:=15) func224 U U (Nl U) ?_
 have C:Ctx prog main J (bf 224 .normal):=⟨hJ,by decide⟩
 cases w with
 |true=>
  refine X.region C U U<|Rm C U U<|Rm C U U<|R.nilC C U U U<|Rf C 0 U U runUnderlying272 U sizeOf4<|Rl C U U isAgg4 V U<|R.fixv (t:=8) (v':= .bool true) U (by rfl)<|Rm C U U<|R.pass C U U<|R.pass C U U<|R.pickT C U U U U<|R.nilC C U U U<|Rf C 0 U U runUnderlying272 U sizeOf4 ?_;refine R.store C U U U U sizeOf4 U U U V (.here .nil)<|R.done C<|X.fall C U U func224 U (by exact .nil) ?_
  exact hret _ _ _ _ (RO.le_refl _) ⟨rfl,rfl,rfl⟩ (List.Sublist.refl _)
 |false=>
  refine X.region C U U<|Rm C U U<|Rm C U U<|R.nilC C U U U<|Rf C 0 U U runUnderlying272 U sizeOf4<|Rl C U U isAgg4 V U<|R.fixv (t:=8) (v':= .bool false) U (by rfl)<|Rm C U U<|Rm C U U<|R.not C U U U<|R.pickF C U U U U<|R.nilC C U U U<|Rf C 0 U U runUnderlying272 U sizeOf4 ?_;refine R.store C U U U U sizeOf4 U U U V (.here .nil)<|R.done C<|X.fall C U U func224 U (by exact .nil) ?_
  exact hret _ _ _ _ (RO.le_refl _) ⟨rfl,rfl,rfl⟩ (List.Sublist.refl _)
theorem number_c{s:List UInt8}(hl:s.length≤1000000)(ro:RO):CallV prog J (fnv 221) [bdV p,strV s] ro [(p, .cells [.bool w].toArray 272 (0,0))] fun r ro' pre'=>r= .int .i64 ((numOf s).getD 0)∧ro'=ro∧pre'= [(p, .cells [.bool (w||(numOf s).isNone)].toArray 272 (0,0))]:=by
 have hns:=numS_of s
 have hdl:(trimPre s [45]).length≤s.length:=by
  unfold trimPre
  split
  ·rw [List.length_drop];omega
  ·exact Nat.le_refl _
 generalize hd:trimPre s [45]=d at hns hdl
 have hnum:numOf s=if(decide (1≤d.length) && decide (d.length≤9)) && (d.all isD && !(d.head? ==some 48 && !(s== [48]))) then some (numV (hasPre s [45]) d) else none:=by rw [numOf,hd]
 have hbt:between (d.length:Int) 1 9=(decide (1≤d.length) && decide (d.length≤9)):=by
  unfold between
  congr 1<;>(rw [Bool.eq_iff_iff,decide_eq_true_eq,decide_eq_true_eq];omega)
 have hfin:numOf s=none→∀ (c:Frame) (cs:List Frame) (tail:List (Nat×Obj)),BackV J c cs ro tail (fun r ro' pre'=>r= .int .i64 ((numOf s).getD 0)∧ro'=ro∧pre'= [(p, .cells [.bool (w||(numOf s).isNone)].toArray 272 (0,0))])→J (G (c.finish (.int .i64 0)) cs) ⟨ro,(p, .cells [.bool true].toArray 272 (0,0))::tail⟩:=fun hn c cs tail hret=>
  hret _ _ [(p,_)] _ (RO.le_refl _) ⟨by rw [hn];rfl,rfl,by rw [hn];simp⟩ (List.Sublist.refl _)
 refine CallV.intro (first:= []) (vs:= [_,_]) (cap:= []) hJ Kr fun c cs tail hret=>enter_X (n:=37) func221 U U (Nl U) ?_
 have C:Ctx prog main J (bf 221 .normal):=⟨hJ,by decide⟩
 refine Xr C U U<|Ad C U U<|Xr C U U<|Rm C U U<|R.callP C U U U U (trimPrefix_c hJ _)<|R.fixv (t:=9) (v':=strV d) U (by(rw [hd]))<|Ad C U U<|Xs C<|Xr C U U<|Rm C U U<|R.sLen C U U U runUnderlying9<|R.callP C U U U U (between_c hJ _ _ _ _)<|R.not C U U U<|Rm C U U<|R.fix (t:=14) U (fun g1=>?_) (fun g1=>?_)
 ·have h1:(decide (1≤d.length) && decide (d.length≤9))=false:=by rw [←hbt];simpa using g1
  refine R.pass C U U<|R.pass C U U<|R.pass C U U<|R.pickT C U U U U<|Rm C U U<|R.pass C U U<|R.pass C U U<|R.pass C U U<|R.pass C U U<|R.pass C U U<|R.pass C U U<|R.pass C U U<|R.pickT C U U U U<|R.done C<|X.cond C.1 U (fun _=>?_) (fun h=>nomatch h)
  refine Xr C U U<|Rm C U U<|R.nilC C U U U<|Rf C 0 U U runUnderlying272 U sizeOf4<|R.store C U U U U sizeOf4 U U U V (.here .nil)<|R.done C<|Xr C U U<|Ad C U U<|Xt C func221 ?_
  exact hfin (by rw [hnum,h1];rfl) _ _ _ hret
 ·have h1:(decide (1≤d.length) && decide (d.length≤9))=true:=by rw [←hbt];simpa using g1
  have h1':1≤d.length∧d.length≤9:=by simpa using h1
  refine Rm C U U<|R.callP C U U U U (trim_c hJ O Dd Dd Dd _)<|R.str C U U U U b_sneq<|R.pickF C U U U U<|Rm C U U<|R.fix (t:=19) U (fun g2=>?_) (fun g2=>?_)
  ·have h2:¬d.all isD=true:=fun h=>by
    rw [←trim_all] at h
    have h9:(!(trimL digits10 (trimR digits10 d)== []))=true:=g2
    rw [h] at h9;simp at h9
   refine R.pass C U U<|R.pass C U U<|R.pass C U U<|R.pass C U U<|R.pass C U U<|R.pass C U U<|R.pass C U U<|R.pickT C U U U U<|R.done C<|X.cond C.1 U (fun _=>?_) (fun h=>nomatch h)
   refine Xr C U U<|Rm C U U<|R.nilC C U U U<|Rf C 0 U U runUnderlying272 U sizeOf4<|R.store C U U U U sizeOf4 U U U V (.here .nil)<|R.done C<|Xr C U U<|Ad C U U<|Xt C func221 ?_
   exact hfin (by rw [hnum,h1,show d.all isD=false by simpa using h2];rfl) _ _ _ hret
  ·have h2:d.all isD=true:=by
    have h9:(!(trimL digits10 (trimR digits10 d)== []))=false:=g2
    rw [←trim_all];simpa using h9
   obtain⟨d0,d1,rfl⟩:∃x r,d=x::r:=List.exists_cons_of_ne_nil (fun e=>by subst e;simp at h1')
   have hgood:((d0::d1).head? ==some 48 && !(s== [48]))=false→numOf s=some (numV (hasPre s [45]) (d0::d1)):=fun h=>by rw [hnum,h1,h2,h];rfl
   have hat:=atoi_c hJ (neg:=hasPre s [45]) (ds:=d0::d1) h1'.1 h1'.2 (by simpa [List.all_eq_true] using h2) ro
   rw [hns] at hat
   refine Rm C U U<|R.sIndex C U U U U runUnderlying9 Dd U<|R.int C U U U U b_eql<|Rm C U U<|R.fix (t:=23) U (fun g3=>?_) (fun g3=>?_)
   ·have h3:d0=48:=by
     have:=eq_of_beq g3
     exact UInt8.toNat_inj.1 (by show d0.toNat=48;omega)
    refine Rm C U U<|R.str C U U U U b_sneq<|R.pickT C U U U U<|R.pickF C U U U U<|R.done C<|X.cond C.1 U (fun g4=>?_) (fun g4=>?_)
    ·have h4:¬s= [48]:=by simpa using g4
     refine Xr C U U<|Rm C U U<|R.nilC C U U U<|Rf C 0 U U runUnderlying272 U sizeOf4<|R.store C U U U U sizeOf4 U U U V (.here .nil)<|R.done C<|Xr C U U<|Ad C U U<|Xt C func221 ?_
     exact hfin (by rw [hnum,h1,h2,h3];simp [h4]) _ _ _ hret
    ·have h4:s= [48]:=by simpa using g4
     have hg:=hgood (by rw [h4];simp)
     refine X.skip C.1<|Xr C U U<|Rm C U U<|R.callP C U U U U (hat)<|Rm C U U<|R.ext C U U U U<|R.ext C U U U U<|R.asg C U U U<|Ad C U U<|Xr C U U<|Rm C U U<|Ad C U U<|Xt C func221 ?_
     exact hret _ _ [(p,_)] _ (RO.le_refl _) ⟨by rw [hg];rfl,rfl,by rw [hg];simp⟩ (List.Sublist.refl _)
   ·have h3:¬d0=48:=fun e=>by subst e;simp at g3
    have hg:=hgood (by simp [h3])
    refine R.pass C U U<|R.pass C U U<|R.pickF C U U U U<|R.pickF C U U U U<|R.done C<|X.cond C.1 U (fun h=>nomatch h) (fun _=>?_)
    refine X.skip C.1<|Xr C U U<|Rm C U U<|R.callP C U U U U (hat)<|Rm C U U<|R.ext C U U U U<|R.ext C U U U U<|R.asg C U U U<|Ad C U U<|Xr C U U<|Rm C U U<|Ad C U U<|Xt C func221 ?_
    exact hret _ _ [(p,_)] _ (RO.le_refl _) ⟨by rw [hg];rfl,rfl,by rw [hg];simp⟩ (List.Sublist.refl _)
end Go.Lg.B
namespace Go.Lg.B
open Go Go.Conc Go.Lg Go.Proofs Go.Lg.S Go.Proofs.Tryz
def reachOf(s:List UInt8):Option Rc:=
 match numOf (cutB s 58).1 with
 |none=>none
 |some x=>if(cutB s 58).2.2 then(match numOf (cutB s 58).2.1 with
  |none=>none
  |some y=>if x=y then none else some ⟨x,y⟩) else some ⟨x,x⟩
theorem cutB_len(s:List UInt8)(y:UInt8):(cutB s y).1.length≤s.length∧(cutB s y).2.1.length≤s.length:=by
 unfold cutB
 split
 ·simp only [List.length_take,List.length_drop];omega
 ·simp
variable {main:Bool}{J:Goroutine→Mem→Prop}(hJ:Closed prog main J)
include hJ
theorem readReach_c{p:Nat}{w:Bool}{s:List UInt8}(hl:s.length≤1000000)(ro:RO):CallV prog J (fnv 222) [bdV p,strV s] ro [(p, .cells [.bool w].toArray 272 (0,0))] fun r ro' pre'=>ro'=ro∧(∃x:Rc,r= .agg (Rc.cells x).toArray∧∀y,reachOf s=some y→x=y)∧pre'= [(p, .cells [.bool (w||(reachOf s).isNone)].toArray 272 (0,0))]:=by
 have hcl:=cutB_len s 58
 refine CallV.intro (first:= []) (vs:= [_,_]) (cap:= []) hJ Kr fun c cs tail hret=>enter_X (n:=35) func222 U U (Nl U) ?_
 have C:Ctx prog main J (bf 222 .normal):=⟨hJ,by decide⟩
 refine Xr C U U<|R.alloc C U U zeroValue46 U fun p4=>R.done C<|Xr C U U<|Rm C U U<|R.callP C U U U U (cut_c hJ (ch:=58) O _)<|Rm C U U<|R.ext C U U U U<|R.ext C U U U U<|R.ext C U U U U<|R.asg C U U U<|R.asg C U U U<|Ad C U U<|Xr C U U<|Rm C U U<|Rm C U U<|R.perm C.1 (List.Perm.swap _ _ _)<|R.call C U U U U (pre:= [_]) U (number_c hJ O ro) fun w1 ro1 pre1 hl1 hp1=>?_
 obtain⟨rfl,rfl,rfl⟩:=hp1
 refine R.build C U U U zeroValue46 U runUnderlying46 Kr (Fills.part U U sizeOf3 U (.here .nil) .nil)<|R.alloc C U U zeroValue46 U fun p8=>?_;refine R.store C U U U U sizeOf46 U U U V Ph2<|R.done C<|Xr C U U<|Rf C 0 U U runUnderlying46 U sizeOf3<|Rl C U U isAgg3 V U<|Rf C 1 U U runUnderlying46 U sizeOf3 ?_;refine R.store C U U U U sizeOf3 U U U V (.skip (.here .nil))<|R.done C<|Xs C<|Xr C U U<|Rm C U U<|R.done C<|X.cond C.1 U (fun g1=>?_) (fun g1=>?_)
 ·refine Xr C U U<|Rm C U U<|Rm C U U<|R.perm C.1 (List.Perm.swap _ _ _)<|R.call C U U U U (pre:= [_]) U (number_c hJ O ro1) fun w2 ro2 pre2 hl2 hp2=>?_
  obtain⟨rfl,rfl,rfl⟩:=hp2
  refine Rf C 1 U U runUnderlying46 U sizeOf3<|R.store C U U U U sizeOf3 U U U V (.skip (.here .nil))<|R.done C<|X.region C U U<|Rm C U U<|Rf C 0 U U runUnderlying46 U sizeOf3<|Rl C U U isAgg3 V U<|Rf C 1 U U runUnderlying46 U sizeOf3<|Rl C U U isAgg3 V U<|R.int C U U U U b_neq<|R.call C U U U U (pre:= [_]) U (must_c hJ ro2) fun w3 ro3 pre3 hl3 hp3=>?_
  obtain⟨rfl,rfl,rfl⟩:=hp3
  refine R.done C<|Xr C U U<|R5 C U U isAgg46 sizeOf46 V Tk2<|R.store C U U U U sizeOf46 U U U V Ph2<|R.done C<|X.ret C U U func222 U (by exact(.agg U isAgg46 sizeOf46 V Tk2 .nil))<|hret _ _ [(p,_)] _ (RO.le_refl _) ⟨rfl,⟨⟨(numOf (cutB s 58).1).getD 0,(numOf (cutB s 58).2.1).getD 0⟩,rfl, ?_⟩, ?_⟩ (by repeat (first|exact Sr|apply Sk|apply Sc))
  ·intro y hy
   unfold reachOf at hy
   rw [g1] at hy
   cases h1:numOf (cutB s 58).1 with
   |none=>rw [h1] at hy;cases hy
   |some a=>
    rw [h1] at hy
    cases h2:numOf (cutB s 58).2.1 with
    |none=>rw [h2] at hy;cases hy
    |some b=>
     rw [h2] at hy
     simp only [if_true] at hy
     split at hy
     ·cases hy
     ·cases hy;rfl
  ·have e:(((w||(numOf (cutB s 58).1).isNone)||(numOf (cutB s 58).2.1).isNone)|| !((numOf (cutB s 58).1).getD 0 !=(numOf (cutB s 58).2.1).getD 0))=(w||(reachOf s).isNone):=by
    unfold reachOf
    rw [g1]
    cases h1:numOf (cutB s 58).1<;>cases h2:numOf (cutB s 58).2.1<;>simp
    rename_i a b
    by_cases h:a=b<;>simp [h]
   rw [e]
 ·refine X.skip C.1<|Xr C U U<|R5 C U U isAgg46 sizeOf46 V Tk2<|R.store C U U U U sizeOf46 U U U V Ph2<|R.done C<|X.perm C.1 (List.Perm.swap _ _ _)<|X.ret C U U func222 U (by exact(.agg U isAgg46 sizeOf46 V Tk2 .nil))<|hret _ _ [(p,_)] _ (RO.le_refl _) ⟨rfl,⟨⟨(numOf (cutB s 58).1).getD 0,(numOf (cutB s 58).1).getD 0⟩,rfl, ?_⟩, ?_⟩ (by repeat (first|exact Sr|apply Sk|apply Sc))
  ·intro y hy
   unfold reachOf at hy
   rw [g1] at hy
   cases h1:numOf (cutB s 58).1 with
   |none=>rw [h1] at hy;cases hy
   |some a=>rw [h1] at hy;simp at hy;rw [←hy];rfl
  ·have e:(numOf (cutB s 58).1).isNone=(reachOf s).isNone:=by
    unfold reachOf
    rw [g1]
    cases h1:numOf (cutB s 58).1<;>simp
   rw [e]
end Go.Lg.B
namespace Go.Lg.B
open Go Go.Conc Go.Lg Go.Proofs Go.Lg.S Go.Proofs.Tryz
variable {ro:RO}
inductive RowP
 |chart (a b d:Int)
 |comp (x:Rc)
 |wit (x:Wt)
def RowP.val:RowP→Value
 | .chart a b d=> .iface 215 (.agg [.int .i64 a, .int .i64 b, .int .i64 d].toArray)
 | .comp x=> .iface 216 x.val
 | .wit x=> .iface 217 x.val
def RowP.place:RowP→Int
 | .chart .. =>0
 | .comp _=>1
 | .wit _=>2
def rowV:Option RowP→Value
 |none=> .nilIface
 |some r=>r.val
def sChart:List UInt8:= [99,104,97,114,116]
def sComp:List UInt8:= [99,111,109,112,97,115,115]
def sWit:List UInt8:= [119,105,116,110,101,115,115]
def sSure:List UInt8:= [115,117,114,101]
def sMaybe:List UInt8:= [109,97,121,98,101]
def wordsL:List (List UInt8):= [[110], [110,101], [101], [115,101], [115], [115,119], [119], [110,119]]
def EnvW(ro:RO):Prop:= ∃t fq,ro 1=some (.cells (wordsL.map strV).toArray t fq)
theorem EnvW.mono{ro':RO}(h:EnvW ro)(hl:ro.le ro'):EnvW ro':=let⟨t,fq,h⟩:=h;⟨t,fq,hl _ _ h⟩
def rowF(f:List (List UInt8)):Option RowP:=
 if []∈f then none
 else if f.getD 0 []=sChart∧f.length=4 then
  match numOf (f.getD 1 []),numOf (f.getD 2 []),numOf (f.getD 3 []) with
  |some a,some b,some d=>some (.chart a b d)
  |_,_,_=>none
 else if f.getD 0 []=sComp∧f.length=2 then(reachOf (f.getD 1 [])).map .comp
 else if f.getD 0 []=sWit∧f.length=6 then
  if 0≤findL (f.getD 3 []) wordsL∧(f.getD 5 []=sSure∨f.getD 5 []=sMaybe) then
   match numOf (f.getD 1 []),numOf (f.getD 2 []),numOf (f.getD 4 []) with
   |some a,some b,some d=>some (.wit ⟨⟨a,b⟩,findL (f.getD 3 []) wordsL,d,decide (f.getD 5 []=sSure)⟩)
   |_,_,_=>none
  else none
 else none
def rowL(s:List UInt8):Option RowP:=rowF (splitL 32 s)
theorem splitL_le{ch:UInt8}:∀ {s x:List UInt8},x∈splitL ch s→x.length≤s.length
 | [],x,h=>by simp [splitL] at h;subst h;simp
 |y::s,x,h=>by
  have ih:=fun z=>splitL_le (ch:=ch) (s:=s) (x:=z)
  rw [splitL] at h
  split at h
  ·rcases List.mem_cons.1 h with rfl|h
   ·simp
   ·have:=ih x h;simp;omega
  ·split at h
   ·rename_i h0
    have:=splitL_len ch s
    rw [h0] at this;simp at this
   ·rename_i z r h0
    rcases List.mem_cons.1 h with rfl|h
    ·have:=ih z (by rw [h0];exact List.mem_cons_self)
     simp;omega
    ·have:=ih x (by rw [h0];exact List.mem_cons_of_mem _ h)
     simp;omega
theorem EnvW.ls(h:EnvW ro):LsT ro (.slice (some ⟨1,0,none⟩) 8 8) wordsL:=by
 obtain⟨t,fq,h⟩:=h
 refine⟨some ⟨1,0,none⟩,8,rfl, .inr ⟨1,0,_,_,_,rfl,h, ?_⟩⟩
 rw [flatS]
 have:=Sub.front (wordsL.map strV) []
 rw [List.append_nil] at this
 exact this
variable {main:Bool}{J:Goroutine→Mem→Prop}(hJ:Closed prog main J)
include hJ
theorem rowOf_c{s:List UInt8}(hw:EnvW ro)(hl:s.length≤1000000):CallR prog J (fnv 170) [strV s] ro (fun v _=>v=rowV (rowL s)):=by
 have hfl:=splitL_len 32 s
 have hcnt:s.count 32≤s.length:=List.count_le_length
 have hel:∀i (h:i<(splitL 32 s).length),(splitL 32 s)[i].length≤1000000:=fun i h=>Nat.le_trans (splitL_le (List.getElem_mem h)) hl
 refine CallR.intro hJ Kr fun c cs tail hret=>enter_X (n:=101) func170 U U (Nl U) ?_
 have C:Ctx prog main J (bf 170 .normal):=⟨hJ,by decide⟩
 refine Xr C U U<|Ad C U U<|Xr C U U<|Rm C U U<|R.callR C U U U U (split_c hJ (ch:=32) O _) fun v1 ro1 hl1 hp1=>?_
 generalize hf:splitL 32 s=f at hp1 hfl hel
 have hrow:rowL s=rowF f:=by rw [rowL,hf]
 obtain⟨hv1,hc1⟩:=hp1
 have hpos:0<f.length:=O
 obtain⟨p,off,cap,l,t,fq,rfl,hro,hsub⟩:=hv1.at (fun _=>rfl) hpos
 have hcap:f.length≤cap:=by
  obtain⟨_,_,_,e,h⟩:=hc1
  cases e;exact h
 have hat:∀i,i<f.length→l[off+i*1]? =some (strV (f.getD i [])):=fun i h=>by
  have:=(hsub i h).get 0 O
  rw [List.getD_eq_getElem?_getD,List.getElem?_eq_getElem h]
  simpa using this
 have hel':∀i,(f.getD i []).length≤1000000:=fun i=>by
  by_cases h:i<f.length
  ·rw [List.getD_eq_getElem?_getD,List.getElem?_eq_getElem h];exact hel i h
  ·rw [List.getD_eq_getElem?_getD,List.getElem?_eq_none O];simp
 have word:∀ (w:List UInt8) (m:Nat),(f.getD 0 []==w)=true→(((f.length:Nat):Int)==(m:Int))=(decide (f.getD 0 []=w) && decide (f.length=m)):=fun w m h=>by
  rw [Bool.eq_iff_iff];simp only [beq_iff_eq,Bool.and_eq_true,decide_eq_true_eq];exact⟨fun k=>⟨eq_of_beq h,O⟩,fun k=>by have:=k.2;omega⟩
 have word':∀ (w:List UInt8) (m:Nat),(f.getD 0 []==w)=false→false=(decide (f.getD 0 []=w) && decide (f.length=m)):=fun w m h=>by
  have:¬f.getD 0 []=w:=beq_eq_false_iff_ne.1 h
  rw [decide_eq_false this,Bool.false_and]
 refine Ad C U U<|Xs C<|Xr C U U<|Rm C U U<|R.callP C U U U U (containsL_c hJ hv1 O)<|R.done C<|X.cond C.1 U (fun g1=>?_) (fun g1=>?_)
 ·have h1: []∈f:=by simpa using g1
  refine Xr C U U<|Ad C U U<|Xt C func170<|Hr hret hl1 ?_
  rw [hrow,rowF,if_pos h1];rfl
 ·have h1:¬ []∈f:=by simpa using g1
  have hr1:rowF f=_:=if_neg h1
  refine X.skip C.1<|Xr C U U<|R.alloc C U U zeroValue272 U fun p4=>R.done C<|Xr C U U<|Ad C U U<|Xs C<|Xr C U U<|Rm C U U<|Rx C U U U runUnderlying167 sizeOf9<|R.loadOneRo C U U U isAgg9 hro (hat 0 hpos)<|Ad C U U<|X.block C.1<|Xs C<|X.afterI (ι:=Unit) (fun _=>True) (fun _=> [(3, .slice (some ⟨p,off,none⟩) f.length cap),(4,bdV p4),(5, .nilIface),(6,strV (f.getD 0 [])),(15, .bool (decide (f.getD 0 []=sChart) && decide (f.length=4)))]) (fun _=>⟨ro1,(p4, .cells [.bool false].toArray 272 (0,0))::tail⟩) (fun _ _=>?_) (fun hcont=>?_)
  rotate_left
  ·have _:=h1
   refine X.region C U U<|Rm C U U<|R.str C U U U U b_seql<|Rm C U U<|R.fix (t:=18) U (fun g2=>?_) (fun g2=>?_)
   ·refine Rm C U U<|Rn C U U runUnderlying167<|R.int C U U U U b_eql<|R.pickT C U U U U<|Ad C U U<|X.weaken ?_ (hcont () trivial)
    exact⟨rfl,rfl,rfl,rfl,congrArg (fun z=>some (Value.bool z)) (word sChart 4 g2),trivial⟩
   ·refine R.pass C U U<|R.pass C U U<|R.pass C U U<|R.pickF C U U U U<|Ad C U U<|X.weaken ?_ (hcont () trivial)
    exact⟨rfl,rfl,rfl,rfl,congrArg (fun z=>some (Value.bool z)) (word' sChart 4 g2),trivial⟩
  refine X.cond C.1 U (fun g2=>?_) (fun g2=>?_)
  ·have h2:f.getD 0 []=sChart∧f.length=4:=by simpa using g2
   have hr2:=hr1.trans (if_pos h2)
   obtain⟨h2a,h2b⟩:=h2
   refine Xd C fun hok=>Dm C 0 hok U U U<|Dx C 1 hok U U U runUnderlying167 sizeOf9<|Dl 2 hok (fun _ _ A h=>R.loadOneRo C U (A.w U U) (A.x U U) isAgg9 hro (show l[off+((1:Int)).toNat*1]? =some (strV (f.getD 1 [])) from hat 1 O) h)<|Dm C 4 hok U U U<|Dx C 5 hok U U U runUnderlying167 sizeOf9<|Dl 6 hok (fun _ _ A h=>R.loadOneRo C U (A.w U U) (A.x U U) isAgg9 (by first|exact hro|exact hl2 _ _ hro) (show l[off+((2:Int)).toNat*1]? =some (strV (f.getD 2 [])) from hat 2 O) h)<|Dm C 8 hok U U U<|Dx C 9 hok U U U runUnderlying167 sizeOf9<|Dl 10 hok (fun _ _ A h=>R.loadOneRo C U (A.w U U) (A.x U U) isAgg9 (by first|exact hro|exact hl2 _ _ hro|exact hl3 _ _ hro) (show l[off+((3:Int)).toNat*1]? =some (strV (f.getD 3 [])) from hat 3 O) h)<|De 3 (some 26) [true,true,false] hok (fun _ _ A hk=>?_)
   refine R.call C U (A.w U U) (A.x U U) (A.s U U) (pre:= [_]) U (number_c hJ (hel' 1) ro1) fun w1 ro2 pre2 hl2 hp2=>hk _ _ ⟨(QFs.cons (QF.of U (fun _ _ A h=>R.loadOneRo C U (A.w U U) (A.x U U) isAgg9 (by first|exact hro|exact hl2 _ _ hro|exact hl3 _ _ hro) (show l[off+((3:Int)).toNat*1]? =some (strV (f.getD 3 [])) from hat 3 O) h)) (QFs.cons (QF.of U (fun _ _ A h=>R.loadOneRo C U (A.w U U) (A.x U U) isAgg9 (by first|exact hro|exact hl2 _ _ hro) (show l[off+((2:Int)).toNat*1]? =some (strV (f.getD 2 [])) from hat 2 O) h)) QFs.nil)), ?_⟩
   obtain⟨rfl,rfl,rfl⟩:=hp2
   refine De 7 (some 30) [true,false] hok (fun _ _ A hk=>?_)
   refine R.call C U (A.w U U) (A.x U U) (A.s U U) (pre:= [_]) U (number_c hJ (hel' 2) ro2) fun w2 ro3 pre3 hl3 hp3=>hk _ _ ⟨(QFs.cons (QF.of U (fun _ _ A h=>R.loadOneRo C U (A.w U U) (A.x U U) isAgg9 (by first|exact hro|exact hl2 _ _ hro|exact hl3 _ _ hro) (show l[off+((3:Int)).toNat*1]? =some (strV (f.getD 3 [])) from hat 3 O) h)) QFs.nil), ?_⟩
   obtain⟨rfl,rfl,rfl⟩:=hp3
   refine De 11 (some 34) [false] hok (fun _ _ A hk=>?_)
   refine R.call C U (A.w U U) (A.x U U) (A.s U U) (pre:= [_]) U (number_c hJ (hel' 3) ro3) fun w3 ro4 pre4 hl4 hp4=>hk _ _ ⟨QFs.nil, ?_⟩
   obtain⟨rfl,rfl,rfl⟩:=hp4
   refine Dp 12 hok (fun _ _ _ A h=>R.buildA C (vs:=_) U (A.w U U) (show pvals _ _=some (numbered 0 [_,_,_]) from(A.p U U)) zeroValue215 U runUnderlying215 sizeOf3 U (.cons U U (.cons U U (.cons U U .nil))) h)<|Dp 13 hok (fun _ _ _ A h=>R.iface C U (A.w U U) (A.x U U) runUnderlying215 (fun _=>nofun) h)<|Da C 14 hok U U<|D.done C hok Kr<|X.inBlock C.1<|Xs C<|Xr C U U<|Rf C 0 U U runUnderlying272 U sizeOf4<|Rl C U U isAgg4 V U<|R.done C<|X.cond C.1 U (fun g3=>?_) (fun g3=>?_)
   ·refine Xr C U U<|Ad C U U<|Xt C func170<|Hr hret hl1 ?_
    rw [hrow,hr2]
    cases e1:numOf (f.getD 1 [])<;>cases e2:numOf (f.getD 2 [])<;>cases e3:numOf (f.getD 3 [])<;>first|rfl|(rw [e1,e2,e3] at g3;simp at g3)
   ·refine X.skip C.1<|Xr C U U<|Rm C U U<|Ad C U U<|Xt C func170<|Hr hret hl1 ?_
    rw [hrow,hr2]
    cases e1:numOf (f.getD 1 [])<;>cases e2:numOf (f.getD 2 [])<;>cases e3:numOf (f.getD 3 [])<;>first|rfl|(rw [e1,e2,e3] at g3;simp at g3)
  ·have h2:¬(f.getD 0 []=sChart∧f.length=4):=by simpa using g2
   have hr2:=hr1.trans (if_neg h2)
   refine Xs C<|X.afterI (ι:=Unit) (fun _=>True) (fun _=> [(3, .slice (some ⟨p,off,none⟩) f.length cap),(4,bdV p4),(5, .nilIface),(6,strV (f.getD 0 [])),(37, .bool (decide (f.getD 0 []=sComp) && decide (f.length=2)))]) (fun _=>⟨ro1,(p4, .cells [.bool false].toArray 272 (0,0))::tail⟩) (fun _ _=>?_) (fun hcont=>?_)
   rotate_left
   ·have _:=h1
    refine X.region C U U<|Rm C U U<|R.str C U U U U b_seql<|Rm C U U<|R.fix (t:=40) U (fun g3=>?_) (fun g3=>?_)
    ·refine Rm C U U<|Rn C U U runUnderlying167<|R.int C U U U U b_eql<|R.pickT C U U U U<|Ad C U U<|X.weaken ?_ (hcont () trivial)
     exact⟨rfl,rfl,rfl,rfl,congrArg (fun z=>some (Value.bool z)) (word sComp 2 g3),trivial⟩
    ·refine R.pass C U U<|R.pass C U U<|R.pass C U U<|R.pickF C U U U U<|Ad C U U<|X.weaken ?_ (hcont () trivial)
     exact⟨rfl,rfl,rfl,rfl,congrArg (fun z=>some (Value.bool z)) (word' sComp 2 g3),trivial⟩
   refine X.cond C.1 U (fun g4=>?_) (fun g4=>?_)
   ·have h4:f.getD 0 []=sComp∧f.length=2:=by simpa using g4
    have hr3:=hr2.trans (if_pos h4)
    obtain⟨h4a,h4b⟩:=h4
    refine X.region C U U<|Rm C U U<|Rx C U U U runUnderlying167 sizeOf9<|R.loadOneRo C U U U isAgg9 hro (show l[off+((1:Int)).toNat*1]? =some (strV (f.getD 1 [])) from hat 1 O)<|R.call C U U U U (pre:= [_]) U (readReach_c hJ (hel' 1) ro1) fun w1 ro2 pre2 hl2 hp2=>?_
    obtain⟨rfl,⟨x,rfl,hx⟩,rfl⟩:=hp2
    refine R.iface C U U U runUnderlying216 (fun _=>nofun)<|Ad C U U<|X.inBlock C.1<|Xs C<|Xr C U U<|Rf C 0 U U runUnderlying272 U sizeOf4<|Rl C U U isAgg4 V U<|R.done C<|X.cond C.1 U (fun g5=>?_) (fun g5=>?_)
    ·refine Xr C U U<|Ad C U U<|Xt C func170<|Hr hret hl1 ?_
     rw [hrow,hr3]
     cases e1:reachOf (f.getD 1 []) with
     |none=>rfl
     |some y=>rw [e1] at g5;simp at g5
    ·refine X.skip C.1<|Xr C U U<|Rm C U U<|Ad C U U<|Xt C func170<|Hr hret hl1 ?_
     rw [hrow,hr3]
     cases e1:reachOf (f.getD 1 []) with
     |none=>rw [e1] at g5;simp at g5
     |some y=>rw [hx y e1];rfl
   ·have h4:¬(f.getD 0 []=sComp∧f.length=2):=by simpa using g4
    have hr3:=hr2.trans (if_neg h4)
    refine Xs C<|X.afterI (ι:=Unit) (fun _=>True) (fun _=> [(3, .slice (some ⟨p,off,none⟩) f.length cap),(4,bdV p4),(5, .nilIface),(6,strV (f.getD 0 [])),(50, .bool (decide (f.getD 0 []=sWit) && decide (f.length=6)))]) (fun _=>⟨ro1,(p4, .cells [.bool false].toArray 272 (0,0))::tail⟩) (fun _ _=>?_) (fun hcont=>?_)
    rotate_left
    ·have _:=h1
     refine X.region C U U<|Rm C U U<|R.str C U U U U b_seql<|Rm C U U<|R.fix (t:=53) U (fun g3=>?_) (fun g3=>?_)
     ·refine Rm C U U<|Rn C U U runUnderlying167<|R.int C U U U U b_eql<|R.pickT C U U U U<|Ad C U U<|X.weaken ?_ (hcont () trivial)
      exact⟨rfl,rfl,rfl,rfl,congrArg (fun z=>some (Value.bool z)) (word sWit 6 g3),trivial⟩
     ·refine R.pass C U U<|R.pass C U U<|R.pass C U U<|R.pickF C U U U U<|Ad C U U<|X.weaken ?_ (hcont () trivial)
      exact⟨rfl,rfl,rfl,rfl,congrArg (fun z=>some (Value.bool z)) (word' sWit 6 g3),trivial⟩
    refine X.cond C.1 U (fun g6=>?_) (fun g6=>?_)
    ·have h6:f.getD 0 []=sWit∧f.length=6:=by simpa using g6
     have hr4:=hr3.trans (if_pos h6)
     obtain⟨h6a,h6b⟩:=h6
     have hvw:=(hw.mono hl1).ls
     refine Xs C<|Xd C fun hok=>Dp 0 hok (fun _ _ _ A h=>R.sliceArr C U (A.w U U) (A.x U U) runUnderlying164 sizeOf9 h)<|Dm C 1 hok U U U<|Dx C 2 hok U U U runUnderlying167 sizeOf9<|Dl 3 hok (fun _ _ A h=>R.loadOneRo C U (A.w U U) (A.x U U) isAgg9 hro (show l[off+((3:Int)).toNat*1]? =some (strV (f.getD 3 [])) from hat 3 O) h)<|De 4 (some 62) [false] hok (fun _ _ A hk=>?_)
     refine R.callP C U (A.w U U) (A.x U U) (A.s U U) (indexL_c hJ hvw Dd) (hk _ _ ⟨QFs.nil, ?_⟩)
     refine Da C 5 hok U U<|D.done C hok Kr<|Xs C ?_
     generalize hk:findL (f.getD 3 []) wordsL=k at hr4
     generalize hiv:(decide (0≤k) && (decide (f.getD 5 []=sSure)||decide (f.getD 5 []=sMaybe)))=isv
     refine X.afterI (ι:=Unit) (fun _=>True) (fun _=> [(3, .slice (some ⟨p,off,none⟩) f.length cap),(4,bdV p4),(7, .int .i64 k)]) (fun _=>⟨ro1,(p4, .cells [.bool (false|| !isv)].toArray 272 (0,0))::tail⟩) (fun _ _=>?_) (fun hcont=>?_)
     rotate_left
     ·have _:=h1
      refine X.region C U U<|Rm C U U<|R.int C U U U U b_geq<|Rm C U U<|R.fix (t:=65) U (fun g7=>?_) (fun g7=>?_)
      ·refine Rm C U U<|Rx C U U U runUnderlying167 sizeOf9<|R.loadOneRo C U U U isAgg9 hro (show l[off+((5:Int)).toNat*1]? =some (strV (f.getD 5 [])) from hat 5 O)<|R.str C U U U U b_seql<|Rm C U U<|R.fix (t:=70) U (fun g8=>?_) (fun g8=>?_)
       ·have e:isv=true:=by rw [←hiv,g7,show decide (f.getD 5 []=sSure)=true from decide_eq_true (eq_of_beq g8)];rfl
        rw [e] at hcont
        refine R.pass C U U<|R.pass C U U<|R.pass C U U<|R.pass C U U<|R.pickT C U U U U<|R.pickT C U U U U<|R.call C U U U U (pre:= [_]) U (must_c hJ ro1) fun w1 ro2 pre2 hl2 hp2=>?_
        obtain⟨rfl,rfl,rfl⟩:=hp2
        refine R.done C<|X.weaken ?_ (hcont () trivial)
        exact⟨U,U,U,trivial⟩
       ·have e:isv=(f.getD 5 []==sMaybe):=by rw [←hiv,g7,show decide (f.getD 5 []=sSure)=false from decide_eq_false (beq_eq_false_iff_ne.1 g8),Bool.true_and,Bool.false_or,Bool.eq_iff_iff,decide_eq_true_eq,beq_iff_eq]
        rw [e] at hcont
        refine Rm C U U<|Rx C U U U runUnderlying167 sizeOf9<|R.loadOneRo C U U U isAgg9 hro (show l[off+((5:Int)).toNat*1]? =some (strV (f.getD 5 [])) from hat 5 O)<|R.str C U U U U b_seql<|R.pickF C U U U U<|R.pickT C U U U U<|R.call C U U U U (pre:= [_]) U (must_c hJ ro1) fun w1 ro2 pre2 hl2 hp2=>?_
        obtain⟨rfl,rfl,rfl⟩:=hp2
        refine R.done C<|X.weaken ?_ (hcont () trivial)
        exact⟨U,U,U,trivial⟩
      ·have e:isv=false:=by rw [←hiv,g7];rfl
       rw [e] at hcont
       refine R.pass C U U<|R.pass C U U<|R.pass C U U<|R.pass C U U<|R.pass C U U<|R.pass C U U<|R.pass C U U<|R.pass C U U<|R.pass C U U<|R.pass C U U<|R.pickF C U U U U<|R.call C U U U U (pre:= [_]) U (must_c hJ ro1) fun w1 ro2 pre2 hl2 hp2=>?_
       obtain⟨rfl,rfl,rfl⟩:=hp2
       refine R.done C<|X.weaken ?_ (hcont () trivial)
       exact⟨U,U,U,trivial⟩
     refine Xd C fun hok=>Dm C 0 hok U U U<|Dx C 1 hok U U U runUnderlying167 sizeOf9<|Dl 2 hok (fun _ _ A h=>R.loadOneRo C U (A.w U U) (A.x U U) isAgg9 (by first|exact hro|exact hl2 _ _ hro|exact hl3 _ _ hro) (show l[off+((1:Int)).toNat*1]? =some (strV (f.getD 1 [])) from hat 1 O) h)<|Dm C 4 hok U U U<|Dx C 5 hok U U U runUnderlying167 sizeOf9<|Dl 6 hok (fun _ _ A h=>R.loadOneRo C U (A.w U U) (A.x U U) isAgg9 (by first|exact hro|exact hl2 _ _ hro|exact hl3 _ _ hro) (show l[off+((2:Int)).toNat*1]? =some (strV (f.getD 2 [])) from hat 2 O) h)<|Dm C 9 hok U U U<|Dm C 10 hok U U U<|Dx C 11 hok U U U runUnderlying167 sizeOf9<|Dl 12 hok (fun _ _ A h=>R.loadOneRo C U (A.w U U) (A.x U U) isAgg9 (by first|exact hro|exact hl2 _ _ hro|exact hl3 _ _ hro) (show l[off+((4:Int)).toNat*1]? =some (strV (f.getD 4 [])) from hat 4 O) h)<|Dm C 14 hok U U U<|Dx C 15 hok U U U runUnderlying167 sizeOf9<|Dl 16 hok (fun _ _ A h=>R.loadOneRo C U (A.w U U) (A.x U U) isAgg9 (by first|exact hro|exact hl2 _ _ hro|exact hl3 _ _ hro|exact hl4 _ _ hro) (show l[off+((5:Int)).toNat*1]? =some (strV (f.getD 5 [])) from hat 5 O) h)<|Dp 17 hok (fun _ _ _ A h=>R.str C U (A.w U U) (A.x U U) (A.x U U) b_seql h)<|De 3 (some 81) [true,true,true,false] hok (fun _ _ A hk=>?_)
     refine R.call C U (A.w U U) (A.x U U) (A.s U U) (pre:= [_]) U (number_c hJ (hel' 1) ro1) fun w1 ro2 pre2 hl2 hp2=>hk _ _ ⟨(QFs.cons (QF.of U (fun _ _ A h=>R.loadOneRo C U (A.w U U) (A.x U U) isAgg9 (by first|exact hro|exact hl2 _ _ hro|exact hl3 _ _ hro|exact hl4 _ _ hro) (show l[off+((5:Int)).toNat*1]? =some (strV (f.getD 5 [])) from hat 5 O) h)) (QFs.cons (QF.of U (fun _ _ A h=>R.loadOneRo C U (A.w U U) (A.x U U) isAgg9 (by first|exact hro|exact hl2 _ _ hro|exact hl3 _ _ hro) (show l[off+((4:Int)).toNat*1]? =some (strV (f.getD 4 [])) from hat 4 O) h)) (QFs.cons (QF.of U (fun _ _ A h=>R.loadOneRo C U (A.w U U) (A.x U U) isAgg9 (by first|exact hro|exact hl2 _ _ hro|exact hl3 _ _ hro) (show l[off+((2:Int)).toNat*1]? =some (strV (f.getD 2 [])) from hat 2 O) h)) QFs.nil))), ?_⟩
     obtain⟨rfl,rfl,rfl⟩:=hp2
     refine De 7 (some 85) [true,true,false] hok (fun _ _ A hk=>?_)
     refine R.call C U (A.w U U) (A.x U U) (A.s U U) (pre:= [_]) U (number_c hJ (hel' 2) ro2) fun w2 ro3 pre3 hl3 hp3=>hk _ _ ⟨(QFs.cons (QF.of U (fun _ _ A h=>R.loadOneRo C U (A.w U U) (A.x U U) isAgg9 (by first|exact hro|exact hl2 _ _ hro|exact hl3 _ _ hro|exact hl4 _ _ hro) (show l[off+((5:Int)).toNat*1]? =some (strV (f.getD 5 [])) from hat 5 O) h)) (QFs.cons (QF.of U (fun _ _ A h=>R.loadOneRo C U (A.w U U) (A.x U U) isAgg9 (by first|exact hro|exact hl2 _ _ hro|exact hl3 _ _ hro) (show l[off+((4:Int)).toNat*1]? =some (strV (f.getD 4 [])) from hat 4 O) h)) QFs.nil)), ?_⟩
     obtain⟨rfl,rfl,rfl⟩:=hp3
     refine Dp 8 hok (fun _ _ _ A h=>R.build C U (A.w U U) (A.p U U) zeroValue27 U runUnderlying27 Kr (Fills.part U U sizeOf3 U (.here .nil) (Fills.part U U sizeOf3 U (.skip (.here .nil)) .nil)) h)<|De 13 (some 91) [true,false] hok (fun _ _ A hk=>?_)
     refine R.call C U (A.w U U) (A.x U U) (A.s U U) (pre:= [_]) U (number_c hJ (hel' 4) ro3) fun w3 ro4 pre4 hl4 hp4=>hk _ _ ⟨(QFs.cons (QF.of U (fun _ _ A h=>R.loadOneRo C U (A.w U U) (A.x U U) isAgg9 (by first|exact hro|exact hl2 _ _ hro|exact hl3 _ _ hro|exact hl4 _ _ hro) (show l[off+((5:Int)).toNat*1]? =some (strV (f.getD 5 [])) from hat 5 O) h)) QFs.nil), ?_⟩
     obtain⟨rfl,rfl,rfl⟩:=hp4
     refine Dp 18 hok (fun _ _ _ A h=>R.build C U (A.w U U) (A.p U U) zeroValue217 U runUnderlying217 Kr (Fills.part U U sizeOf27 U Ph2 (Fills.part U U sizeOf3 U (.skip (.skip (.here .nil))) (Fills.part U U sizeOf3 U (.skip (.skip (.skip (.here .nil)))) (Fills.part U U sizeOf4 U (.skip (.skip (.skip (.skip (.here .nil))))) .nil)))) h)<|Dp 19 hok (fun _ _ _ A h=>R.iface C U (A.w U U) (A.x U U) runUnderlying217 (fun _=>nofun) h)<|Da C 20 hok U U<|D.done C hok Kr<|X.inBlock C.1<|Xs C<|Xr C U U<|Rf C 0 U U runUnderlying272 U sizeOf4<|Rl C U U isAgg4 V U<|R.done C ?_
     have hsure:decide (f.getD 5 []=sSure)=(f.getD 5 []==sSure):=by rw [Bool.eq_iff_iff,decide_eq_true_eq,beq_iff_eq]
     have hif:isv=true↔0≤k∧(f.getD 5 []=sSure∨f.getD 5 []=sMaybe):=by rw [←hiv];simp only [Bool.and_eq_true,Bool.or_eq_true,decide_eq_true_eq]
     refine X.cond C.1 U (fun g9=>?_) (fun g9=>?_)
     ·refine Xr C U U<|Ad C U U<|Xt C func170<|Hr hret hl1 ?_
      rw [hrow,hr4]
      by_cases hb:isv=true
      ·rw [if_pos (hif.1 hb)]
       cases e1:numOf (f.getD 1 [])<;>cases e2:numOf (f.getD 2 [])<;>cases e3:numOf (f.getD 4 [])<;>first|rfl|(rw [e1,e2,e3,hb] at g9;simp at g9)
      ·rw [if_neg (fun h=>hb (hif.2 h))];rfl
     ·refine X.skip C.1<|Xr C U U<|Rm C U U<|Ad C U U<|Xt C func170<|Hr hret hl1 ?_
      rw [hrow,hr4]
      by_cases hb:isv=true
      ·rw [if_pos (hif.1 hb)]
       cases e1:numOf (f.getD 1 [])<;>cases e2:numOf (f.getD 2 [])<;>cases e3:numOf (f.getD 4 [])<;>first|(rw [hsure];rfl)|(rw [e1,e2,e3,hb] at g9;simp at g9)
      ·have:isv=false:=by simpa using hb
       rw [this] at g9;simp at g9
    ·have h6:¬(f.getD 0 []=sWit∧f.length=6):=by simpa using g6
     have hr4:=hr3.trans (if_neg h6)
     refine X.skip C.1<|X.inBlock C.1<|Xs C<|Xr C U U<|Rf C 0 U U runUnderlying272 U sizeOf4<|Rl C U U isAgg4 V U<|R.fixv (t:=99) (v':= .bool false) U (by rfl)<|R.done C<|X.cond C.1 U (fun h=>nomatch h) (fun _=>?_)
     refine X.skip C.1<|Xr C U U<|Rm C U U<|Ad C U U<|Xt C func170<|Hr hret hl1 ?_
     rw [hrow,hr4];rfl
end Go.Lg.B
namespace Go.Lg.B
open Go Go.Conc Go.Lg Go.Proofs Go.Lg.S Go.Proofs.Tryz
variable {x:Value}{l:List Value}
def Bk.add(b:Bk):RowP→Bk
 | .chart a c d=>{b with w:=a,h:=c,f:=d}
 | .comp x=>{b with cs:=b.cs++ [x] }
 | .wit x=>{b with ws:=b.ws++ [x] }
structure RSt where
 b:Bk
 n:Nat
 last:Int
def badR(s:RSt):Option RowP→Bool
 |none=>true
 |some r=>decide (r.place<s.last)|| !((r.place==0)==(s.n==0))
def stepR(s:RSt)(ln:List UInt8):Option RSt:=
 if badR s (rowL (trimSuf ln [10])) then none else match rowL (trimSuf ln [10]) with
 |none=>none
 |some r=>some ⟨s.b.add r,s.n+1,r.place⟩
def readR:RSt→List (List UInt8)→Except Nat RSt
 |s, []=> .ok s
 |s,ln::r=>match stepR s ln with
  |none=> .error (s.n+1)
  |some s'=>readR s' r
def st0:RSt:=⟨⟨0,0,0, [], []⟩,0,0⟩
def readT(text:List UInt8):Except Nat Bk:=
 match readR st0 (linesL text) with
 | .error n=> .error n
 | .ok s=>if s.n=0 then .error 0 else .ok s.b
def StO(p2 p3 p4 p5:Nat)(s:RSt)(q:List (Nat×Obj)):Prop:= ∃vc vw oc ow,Buf 46 2 [] vc (s.b.cs.flatMap Rc.cells) oc∧Buf 58 5 [] vw (s.b.ws.flatMap Wt.cells) ow∧
 q=(p5, .cells [.int .i64 s.last].toArray 3 (0,0))::(p4, .cells [.int .i64 (s.n:Int)].toArray 3 (0,0))::(p3, .cells [.nilIface].toArray 170 (0,0))::(p2, .cells [.int .i64 s.b.w, .int .i64 s.b.h, .int .i64 s.b.f,vc,vw].toArray 25 (0,0))::(oc++ow)
def ErO(p2 p3 p4 p5:Nat)(n:Nat)(q:List (Nat×Obj)):Prop:= ∃o4 o5,q=(p5,o5)::(p4,o4)::(p3, .cells [.iface 174 (.agg [.int .i64 (n:Int)].toArray)].toArray 170 (0,0)):: [(p2, .cells [.int .i64 0, .int .i64 0, .int .i64 0, .slice none 0 0, .slice none 0 0].toArray 25 (0,0))]
def readV(v:Value)(ro:RO):Except Nat Bk→Prop
 | .error n=>v= .tuple [.agg [.int .i64 0, .int .i64 0, .int .i64 0, .slice none 0 0, .slice none 0 0].toArray, .iface 174 (.agg [.int .i64 (n:Int)].toArray)].toArray
 | .ok b=>∃vb,v= .tuple [vb, .nilIface].toArray∧BkV ro vb b
theorem pmq{a b d e:Nat×Obj}{x y z w:List (Nat×Obj)}:((a::b::d::e::((x++y)++z))++w).Perm (a::b::d::e::(x++(y++(z++w)))):=List.Perm.of_eq Zi
theorem line1_rest(s:List UInt8):s=line1 s++rest1 s:=by
 unfold line1 rest1
 cases h:s.findIdx? (· ==10) with
 |none=>simp
 |some j=>exact(List.take_append_drop (j+1) s).symm
theorem linesL_all:∀ (k:Nat) (s:List UInt8),s.length≤k→(linesL s).length≤s.length∧∀ln∈linesL s,ln.length≤s.length
 |0,s,h=>by
  obtain rfl:s= []:=List.length_eq_zero_iff.1 O
  exact⟨Nat.le_refl _,fun _ h=>by cases h⟩
 |k+1,s,h=>by
  by_cases h0:s= []
  ·subst h0;exact⟨Nat.le_refl _,fun _ h=>by cases h⟩
  ·have hr:=rest_lt h0
   have ih:=linesL_all k (rest1 s) O
   rw [linesL_cons h0]
   have hl:=congrArg List.length (line1_rest s)
   rw [List.length_append] at hl
   refine⟨by rw [List.length_cons];omega,fun ln hm=>?_⟩
   rcases List.mem_cons.1 hm with rfl|hm
   ·omega
   ·have:=ih.2 ln hm;omega
theorem trimSuf_len(s:List UInt8):(trimSuf s [10]).length≤s.length:=by
 unfold trimSuf
 split
 ·rw [List.length_take];omega
 ·exact Nat.le_refl _
variable {main:Bool}{J:Goroutine→Mem→Prop}(hJ:Closed prog main J)
include hJ
theorem place1_c(hx:x.cells=l.toArray)(ro:RO):CallP prog J (fnv 324) [x] ro (.int .i64 0):=by
 refine CallP.intro hJ Kr fun c cs tail hret=>enter_X (n:=3) func324 U U (Nl U) ?_
 have C:Ctx prog main J (bf 324 .normal):=⟨hJ,by decide⟩
 refine Xr C U U<|R.box C U U U hx fun p1=>Ad C U U<|Xr C U U<|Ad C U U<|Xt C func324<|Hp hret ?_
 rfl
theorem place2_c(hx:x.cells=l.toArray)(ro:RO):CallP prog J (fnv 325) [x] ro (.int .i64 1):=by
 refine CallP.intro hJ Kr fun c cs tail hret=>enter_X (n:=3) func325 U U (Nl U) ?_
 have C:Ctx prog main J (bf 325 .normal):=⟨hJ,by decide⟩
 refine Xr C U U<|R.box C U U U hx fun p1=>Ad C U U<|Xr C U U<|Ad C U U<|Xt C func325<|Hp hret ?_
 rfl
theorem place3_c(hx:x.cells=l.toArray)(ro:RO):CallP prog J (fnv 326) [x] ro (.int .i64 2):=by
 refine CallP.intro hJ Kr fun c cs tail hret=>enter_X (n:=3) func326 U U (Nl U) ?_
 have C:Ctx prog main J (bf 326 .normal):=⟨hJ,by decide⟩
 refine Xr C U U<|R.box C U U U hx fun p1=>Ad C U U<|Xr C U U<|Ad C U U<|Xt C func326<|Hp hret ?_
 rfl
theorem place_c(r:RowP):∃t x f,r.val= .iface t x∧MethOk prog t "lagan/bearing.place" f∧∀ro,CallP prog J (fnv f) [x] ro (.int .i64 r.place):=by
 cases r with
 |chart a b d=>exact⟨215,_,324,rfl, .of Kr,fun ro=>place1_c hJ rfl ro⟩
 |comp x=>exact⟨216,_,325,rfl, .of Kr,fun ro=>place2_c hJ rfl ro⟩
 |wit x=>exact⟨217,_,326,rfl, .of Kr,fun ro=>place3_c hJ rfl ro⟩
theorem read_c{text:List UInt8}{ro:RO}(hw:EnvW ro)(hl:text.length≤1000000):CallR prog J (fnv 143) [strV text] ro (fun v ro'=>readV v ro' (readT text)):=by
 obtain⟨hll,hlines⟩:=linesL_all _ text (Nat.le_refl _)
 refine CallR.intro hJ Kr fun c cs tail hret=>enter_X (n:=78) func143 U U (Nl U) ?_
 have C:Ctx prog main J (bf 143 .normal):=⟨hJ,by decide⟩
 refine Xr C U U<|R.alloc C U U zeroValue25 U fun p2=>R.alloc C U U zeroValue170 U fun p3=>R.done C<|Xr C U U<|R.alloc C U U zeroValue3 U fun p4=>R.alloc C U U zeroValue3 U fun p5=>?_;refine R.store C U U U U sizeOf3 U U U V (.here .nil)<|R.store C U U U U sizeOf3 U U U V (.here .nil)<|R.done C<|Xs C<|Xr C U U<|Rm C U U<|R.call C U U U U (pre:= []) U (lines_c hJ ro) fun w1 ro1 pre1 hl1 hp1=>?_
 obtain⟨rfl,px,rfl,rfl⟩:=hp1
 refine R.done C<|X.block C.1<|X.perm C.1 (own':=((p5, .cells [.int .i64 0].toArray 3 (0,0))::(p4, .cells [.int .i64 0].toArray 3 (0,0))::(p3, .cells [.nilIface].toArray 170 (0,0))::(p2, .cells [.int .i64 0, .int .i64 0, .int .i64 0, .slice none 0 0, .slice none 0 0].toArray 25 (0,0))::tail)++ [(px, .cells [strV text].toArray 9 (0,0))]) (List.perm_append_comm (l₁:= [_]))<|X.rangeFuncW C (own:=_::_::_::_::tail) (w0:= [(px,_)]) (items:=(linesL text).map fun l=> [strV l]) (ro0:=ro1)
  (fun k _ q=>∃s q0,StO p2 p3 p4 p5 s q0∧q=q0++tail∧readR st0 (linesL text)=readR s ((linesL text).drop k)∧s.n=k∧s.b.cs.length+s.b.ws.length≤s.n)
  (fun x _ q=>x= .ret∧∃n q0,ErO p2 p3 p4 p5 n q0∧q=q0++tail∧readR st0 (linesL text)= .error n)
  rfl rfl (lines_it hJ O) rfl (RO.le_refl _) rfl (fun x hx=>by obtain⟨a,_,rfl⟩:=List.mem_map.1 hx;rfl) ⟨st0,_,⟨_,_, [], [], .nil, .nil,rfl⟩,rfl,rfl,rfl,Nat.le_refl _⟩ (fun _ _ _ _ _ h=>h) ?_ ?_ ?_
 ·rintro kk hk l cs H H1 ro2 q hle1 ⟨s,q0,⟨vc,vw,oc,ow,hbc,hbw,rfl⟩,rfl,hrd,hsn,hcn⟩ C hbegin hdone hjump
  have hk':kk<(linesL text).length:=by simpa using hk
  rw [List.getElem_map]
  simp only [roundSlots]
  have hdr:(linesL text).drop kk=(linesL text)[kk]::(linesL text).drop (kk+1):=List.drop_eq_getElem_cons hk'
  have hlen:=hlines _ (List.getElem_mem hk')
  generalize(linesL text)[kk]=ln at hdr hlen
  have htl:=trimSuf_len ln
  rw [hdr] at hrd
  refine X.region C U U<|Ad C U U<|hbegin _ _ (_::_::_::_::((oc++ow)++tail))<|X.perm C.1 (by exact pmq)<|X.block C.1<|Xr C U U<|Rl C U U isAgg3 V U<|Ra C U U U ?_;refine R.store C U U U U sizeOf3 U U U V (.here .nil)<|R.done C<|Xr C U U<|Rm C U U<|R.callP C U U U U (trimSuffix_c hJ (suf:= [10]) O Dd _)<|R.callR C U U U U (rowOf_c hJ (hw.mono hle1) O) fun w3 ro3 hl3 hp3=>?_
  subst hp3
  generalize hrl:rowL (trimSuf ln [10])=ml
  refine Ad C U U<|Xs C<|Xs C<|X.afterI (ι:=Unit) (fun _=>True) (fun _=> [(2,bdV p2),(3,bdV p3),(4,bdV p4),(5,bdV p5),(7,rowV ml),(34, .bool (badR s ml))])
   (fun _=>⟨ro3,(p5, .cells [.int .i64 s.last].toArray 3 (0,0))::(p4, .cells [.int .i64 ((s.n:Int)+1)].toArray 3 (0,0))::(p3, .cells [.nilIface].toArray 170 (0,0))::(p2, .cells [.int .i64 s.b.w, .int .i64 s.b.h, .int .i64 s.b.f,vc,vw].toArray 25 (0,0))::(oc++(ow++(tail++H1)))⟩) (fun _ _=>?_) (fun hcont=>?_)
  rotate_left
  ·have _:=hrl
   cases ml with
   |none=>
    refine Xd C fun hok=>Dm C 0 hok U U U<|Dp 1 hok (fun _ _ _ A h=>R.cmp C U (A.w U U) (A.x U U) (A.x U U) (.eql guardNil U (if_nn runUnderlying212)) h)<|D.fixv (t:=20) (v':= .bool true) U (by rfl)<|Dm C 2 hok U U U<|Du C 3 hok U<|Du C 4 hok U<|Du C 5 hok U<|Du C 6 hok U<|Dp 7 hok (fun _ _ _ A h=>R.pickT C U (A.w U U) (A.x U U) (A.x U U) h)<|Dm C 8 hok U U U<|Du C 9 hok U<|Du C 10 hok U<|Du C 11 hok U<|Du C 12 hok U<|Du C 13 hok U<|Du C 14 hok U<|Dp 15 hok (fun _ _ _ A h=>R.pickT C U (A.w U U) (A.x U U) (A.x U U) h)<|D.done C hok Kr<|X.weaken ?_ (hcont () trivial)
    exact⟨U,U,U,U,U,U,trivial⟩
   |some r=>
    obtain⟨t,x,f,e,hm,hp⟩:=place_c hJ r
    have e':rowV (some r)=Value.iface t x:=e
    rw [e'] at hcont⊢
    refine Xd C fun hok=>Dm C 0 hok U U U<|Dp 1 hok (fun _ _ _ A h=>R.cmp C U (A.w U U) (A.x U U) (A.x U U) (.eql guardIf U (if_sn runUnderlying212)) h)<|D.fixv (t:=20) (v':= .bool false) U (by rfl)<|Dm C 2 hok U U U<|Dm C 3 hok U U U<|D1 C 5 hok U U isAgg3 V U<|De 4 (some 23) [true] hok (fun _ _ A hk=>?_)
    refine R.invokeP C U (A.w U U) (A.x U U) (A.s U U) hm (hp _) (hk _ _ ⟨(QFs.cons (QF.of U (fun _ _ A h=>R.loadOne C U (A.w U U) (A.x U U) isAgg3 V U h)) QFs.nil), ?_⟩)
    refine Di C 6 hok U U U U U b_lss<|Dp 7 hok (fun _ _ _ A h=>R.pickF C U (A.w U U) (A.x U U) (A.x U U) h)<|Dm C 8 hok U U U<|D.fix (t:=27) U (fun g2=>?_) (fun g2=>?_)
    ·refine Du C 9 hok U<|Du C 10 hok U<|Du C 11 hok U<|Du C 12 hok U<|Du C 13 hok U<|Du C 14 hok U<|Dp 15 hok (fun _ _ _ A h=>R.pickT C U (A.w U U) (A.x U U) (A.x U U) h)<|D.done C hok Kr<|X.weaken ?_ (hcont () trivial)
     exact⟨rfl,rfl,rfl,rfl,rfl,by rw [badR,g2];rfl,trivial⟩
    ·refine Dm C 9 hok U U U<|D1 C 12 hok U U isAgg3 V U<|Di C 13 hok U U U U U b_eql<|De 10 (some 29) [true,false] hok (fun _ _ A hk=>?_)
     refine R.invokeP C U (A.w U U) (A.x U U) (A.s U U) hm (hp _) (hk _ _ ⟨(QFs.cons (QF.of U (fun _ _ A h=>R.loadOne C U (A.w U U) (A.x U U) isAgg3 V U h)) QFs.nil), ?_⟩)
     refine Di C 11 hok U U U U U b_eql<|Dp 14 hok (fun _ _ _ A h=>R.neBool C U (A.w U U) (A.x U U) (A.x U U) runUnderlying4 h)<|Dp 15 hok (fun _ _ _ A h=>R.pickF C U (A.w U U) (A.x U U) (A.x U U) h)<|D.done C hok Kr<|X.weaken ?_ (hcont () trivial)
     have hn1:(((s.n:Int)+1)==1)=(s.n==0):=by rw [Bool.eq_iff_iff,beq_iff_eq,beq_iff_eq];omega
     exact⟨rfl,rfl,rfl,rfl,rfl,by
      rw [badR,g2, ←hn1];rfl,trivial⟩
  refine X.cond C.1 U (fun g3=>?_) (fun g3=>?_)
  ·have hst:stepR s ln=none:=by rw [stepR,hrl,if_pos g3]
   rw [readR,hst] at hrd
   refine Xs C<|Xd C fun hok=>?_;refine Dp 0 hok (fun _ _ _ A h=>R.build C U (A.w U U) (A.p U U) zeroValue25 U runUnderlying25 Kr .nil h)<|D1 C 1 hok U U isAgg3 V U ?_;refine Dp 2 hok (fun _ _ _ A h=>R.build C U (A.w U U) (A.p U U) zeroValue174 U runUnderlying174 Kr (Fills.part U U sizeOf3 U (.here .nil) .nil) h)<|Dp 3 hok (fun _ _ _ A h=>R.iface C U (A.w U U) (A.x U U) runUnderlying174 (fun _=>nofun) h)<|De 4 none [true] hok (fun _ _ A hk=>?_)
   refine R.store C U (A.w U U) (A.x U U) (A.x U U) sizeOf25 U U U V Ph5 (hk undef _ ⟨(QFs.cons (QF.of U (fun _ _ A h=>R.loadOne C U (A.w U U) (A.x U U) isAgg3 V U h)) QFs.nil), ?_⟩)
   refine De 5 none [false] hok (fun _ _ A hk=>?_)
   refine R.store C U (A.w U U) (A.x U U) (A.x U U) sizeOf170 U U U V (.here .nil) (hk undef _ ⟨QFs.nil, ?_⟩)
   refine D.done C hok Kr<|X.drop C.1 (own':=_::_::_::_::(tail++H1)) (.cons_cons _ (.cons_cons _ (.cons_cons _ (.cons_cons _ ((List.sublist_append_right ow _).trans (List.sublist_append_right oc _)))))) ?_
   exact hjump _ .ret _ _ (_::_::_::_::tail) hl3 trivial ⟨rfl,s.n+1,_,⟨_,_,rfl⟩,rfl,hrd⟩
  ·have hml:∃r,ml=some r:=by
    cases ml with
    |none=>cases g3
    |some r=>exact⟨r,rfl⟩
   obtain⟨r,rfl⟩:=hml
   have hst:stepR s ln=some ⟨s.b.add r,s.n+1,r.place⟩:=by rw [stepR,hrl,g3];rfl
   rw [readR,hst] at hrd
   have hcl:=flatMap_len Rc.len s.b.cs
   have hwl:=flatMap_len Wt.len s.b.ws
   cases r with
   |chart a b d=>
    refine X.skip C.1<|Xr C U U<|Rm C U U<|R.invokeP C U U U U (MethOk.of (t:=215) (f:=324) Kr) (place1_c hJ U _)<|R.store C U U U U sizeOf3 U U U V (.here .nil)<|R.done C<|Xr C U U<|Rm C U U<|R.done C<|X.block C.1<|Xr C U U<|R.assertT C U U U runUnderlying215 (fun _=>nofun)<|R.ext C U U U U<|R.fixv (t:=43) (v':= .bool true) U (by rfl)<|R.ext C U U U U<|R.done C<|X.cond C.1 U (fun _=>?_) (fun h=>nomatch h)
    refine Xr C U U<|R.alloc C U U zeroValue215 U fun p8=>?_;refine R.store C U U U U sizeOf215 U U U V Ph3<|R.done C<|Xd C fun hok=>Dp 0 hok (fun _ _ _ A h=>R.indexAddrA C U (A.w U U) (A.x U U) (A.x U U) runUnderlying215 sizeOf3 O O h)<|D1 C 1 hok U U isAgg3 V U<|Dp 2 hok (fun _ _ _ A h=>R.indexAddrA C U (A.w U U) (A.x U U) (A.x U U) runUnderlying215 sizeOf3 O O h)<|D1 C 3 hok U U isAgg3 V U<|Dp 4 hok (fun _ _ _ A h=>R.indexAddrA C U (A.w U U) (A.x U U) (A.x U U) runUnderlying215 sizeOf3 O O h)<|D1 C 5 hok U U isAgg3 V U<|Df (off':=0) C 6 hok U U U runUnderlying25 U sizeOf3 U<|De 7 none [true,true,false] hok (fun _ _ A hk=>?_)
    refine R.store C U (A.w U U) (A.x U U) (A.x U U) sizeOf3 U U U V (.here .nil) (hk undef _ ⟨(QFs.cons (QF.of U (fun _ _ A h=>R.loadOne C U (A.w U U) (A.x U U) isAgg3 V U h)) (QFs.cons (QF.of U (fun _ _ A h=>R.loadOne C U (A.w U U) (A.x U U) isAgg3 V U h)) QFs.nil)), ?_⟩)
    refine Df (off':=1) C 8 hok U U U runUnderlying25 U sizeOf3 U<|De 9 none [true,false] hok (fun _ _ A hk=>?_)
    refine R.store C U (A.w U U) (A.x U U) (A.x U U) sizeOf3 U U U V (.skip (.here .nil)) (hk undef _ ⟨(QFs.cons (QF.of U (fun _ _ A h=>R.loadOne C U (A.w U U) (A.x U U) isAgg3 V U h)) QFs.nil), ?_⟩)
    refine Df (off':=2) C 10 hok U U U runUnderlying25 U sizeOf3 U<|De 11 none [false] hok (fun _ _ A hk=>?_)
    refine R.store C U (A.w U U) (A.x U U) (A.x U U) sizeOf3 U U U V (.skip (.skip (.here .nil))) (hk undef _ ⟨QFs.nil, ?_⟩)
    refine D.done C hok Kr<|X.inBlock C.1<|X.inBlock C.1<|X.drop C.1 (List.sublist_cons_self _ _)<|X.perm C.1 (by exact(pmq (x:=oc) (y:=ow) (z:=tail) (w:=H1)).symm) ?_
    exact hdone _ _ (_::_::_::_::((oc++ow)++tail)) hl3 ⟨⟨s.b.add (.chart a b d),s.n+1,0⟩,_,⟨vc,vw,oc,ow,hbc,hbw,rfl⟩,rfl,hrd,by show s.n+1=kk+1;omega,Nat.le_succ_of_le hcn⟩
   |comp x=>
    have hxl:(Rc.cells x).length=2:=rfl
    refine X.skip C.1<|Xr C U U<|Rm C U U<|R.invokeP C U U U U (MethOk.of (t:=216) (f:=325) Kr) (place2_c hJ U _)<|R.store C U U U U sizeOf3 U U U V (.here .nil)<|R.done C<|Xr C U U<|Rm C U U<|R.done C<|X.block C.1<|Xr C U U<|R.assertF C U U U runUnderlying215 (fun _=>nofun) Dd zeroValue215<|R.ext C U U U U<|R.fixv (t:=43) (v':= .bool false) U (by rfl)<|R.ext C U U U U<|R.done C<|X.cond C.1 U (fun h=>nomatch h) (fun _=>?_)
    refine Xr C U U<|R.assertT C U U U runUnderlying216 (fun _=>nofun)<|R.ext C U U U U<|R.fixv (t:=55) (v':= .bool true) U (by rfl)<|R.ext C U U U U<|R.done C<|X.cond C.1 U (fun _=>?_) (fun h=>nomatch h)
    refine Xr C U U<|R.alloc C U U zeroValue216 U fun p9=>?_;refine R.store C U U U U sizeOf216 U U U V Ph2<|R.done C<|X.region C U U<|Rf C 3 U U runUnderlying25 U sizeOf22<|Rl C U U isAgg22 V U<|R5 C U U isAgg216 sizeOf216 V Tk2<|R.buildSlice C (vs:=_) U U (show pvals _ _=some (numbered 0 [_]) from rfl) U runUnderlying22 sizeOf46 zeroValue46 Dd (Cat.one U U) fun p60=>R.append2 (kk:=2) C [_,_,_,_,_] U U U U runUnderlying22 runUnderlying22 (fun _=>nofun) (show prog.info? 46=some Tryz.t46 by kernel_rfl) U U U Dd Dd (hbc.app (ow++(tail++H1))) U U (by(try simp only [List.length_append,List.length_cons,List.length_nil]);omega) fun v' own' hb'=>Rf C 3 U U runUnderlying25 U sizeOf22 ?_
    obtain⟨own1,rfl,hb1⟩:=hb'.unapp (tail:= [])
    refine R.store C U U U U sizeOf22 hb'.cells1 U hb'.ones1 V (.skip (.skip (.skip (.here .nil))))<|R.done C<|X.inBlock C.1<|X.inBlock C.1 ?_
    have hb2:Buf 46 2 [] v' ((s.b.cs++ [x]).flatMap Rc.cells) own1:=by rw [List.flatMap_append];simpa [Rc.cells,Wt.cells] using hb1
    refine X.drop C.1 (List.sublist_cons_self _ _)<|X.perm C.1 (by exact(pmq (x:=own1) (y:=ow) (z:=tail) (w:=H1)).symm)<|hdone _ _ (_::_::_::_::((own1++ow)++tail)) hl3 ⟨⟨s.b.add (.comp x),s.n+1,1⟩,_,⟨v',vw,own1,ow,hb2,hbw,rfl⟩,rfl,hrd,by show s.n+1=kk+1;omega, ?_⟩
    show(s.b.cs++ [x]).length+s.b.ws.length≤s.n+1
    rw [List.length_append,List.length_singleton];omega
   |wit x=>
    have hxl:(Wt.cells x).length=5:=rfl
    refine X.skip C.1<|Xr C U U<|Rm C U U<|R.invokeP C U U U U (MethOk.of (t:=217) (f:=326) Kr) (place3_c hJ U _)<|R.store C U U U U sizeOf3 U U U V (.here .nil)<|R.done C<|Xr C U U<|Rm C U U<|R.done C<|X.block C.1<|Xr C U U<|R.assertF C U U U runUnderlying215 (fun _=>nofun) Dd zeroValue215<|R.ext C U U U U<|R.fixv (t:=43) (v':= .bool false) U (by rfl)<|R.ext C U U U U<|R.done C<|X.cond C.1 U (fun h=>nomatch h) (fun _=>?_)
    refine Xr C U U<|R.assertF C U U U runUnderlying216 (fun _=>nofun) Dd zeroValue216<|R.ext C U U U U<|R.fixv (t:=55) (v':= .bool false) U (by rfl)<|R.ext C U U U U<|R.done C<|X.cond C.1 U (fun h=>nomatch h) (fun _=>?_)
    refine Xr C U U<|R.assertT C U U U runUnderlying217 (fun _=>nofun)<|R.ext C U U U U<|R.fixv (t:=64) (v':= .bool true) U (by rfl)<|R.ext C U U U U<|R.done C<|X.cond C.1 U (fun _=>?_) (fun h=>nomatch h)
    refine Xr C U U<|R.alloc C U U zeroValue217 U fun p10=>?_;refine R.store C U U U U sizeOf217 U U U V Ph5<|R.done C<|X.region C U U<|Rf C 4 U U runUnderlying25 U sizeOf23<|Rl C U U isAgg23 V U<|R5 C U U isAgg217 sizeOf217 V Tk5<|R.buildSlice C (vs:=_) U U (show pvals _ _=some (numbered 0 [_]) from rfl) U runUnderlying23 sizeOf58 zeroValue58 Dd (Cat.one U U) fun p69=>R.append2 (kk:=5) C (_::_::_::_::_::oc) U U U U runUnderlying23 runUnderlying23 (fun _=>nofun) (show prog.info? 58=some Tryz.t58 by kernel_rfl) U U U Dd Dd (hbw.app (tail++H1)) U U (by(try simp only [List.length_append,List.length_cons,List.length_nil]);omega) fun v' own' hb'=>Rf C 4 U U runUnderlying25 U sizeOf23 ?_
    obtain⟨own1,rfl,hb1⟩:=hb'.unapp (tail:= [])
    refine R.store C U U U U sizeOf23 hb'.cells1 U hb'.ones1 V (.skip (.skip (.skip (.skip (.here .nil)))))<|R.done C<|X.inBlock C.1<|X.inBlock C.1 ?_
    have hb2:Buf 58 5 [] v' ((s.b.ws++ [x]).flatMap Wt.cells) own1:=by rw [List.flatMap_append];simpa [Rc.cells,Wt.cells] using hb1
    refine X.drop C.1 (List.sublist_cons_self _ _)<|X.perm C.1 (by exact(pmq (x:=oc) (y:=own1) (z:=tail) (w:=H1)).symm)<|hdone _ _ (_::_::_::_::((oc++own1)++tail)) hl3 ⟨⟨s.b.add (.wit x),s.n+1,2⟩,_,⟨vc,v',oc,own1,hbc,hb2,rfl⟩,rfl,hrd,by show s.n+1=kk+1;omega, ?_⟩
    show s.b.cs.length+(s.b.ws++ [x]).length≤s.n+1
    rw [List.length_append,List.length_singleton];omega
 ·rintro r ro' q' z' hl2 ⟨rz,rfl⟩ ⟨s,q0,⟨vc,vw,oc,ow,hbc,hbw,rfl⟩,rfl,hrd,hsn,hcn⟩
  rw [List.length_map,List.drop_length,readR] at hrd
  obtain⟨bs1,cap1,rfl⟩:=hbc.form Dd
  obtain⟨bs2,cap2,rfl⟩:=hbw.form Dd
  refine X.perm C.1 (own':=(r,_)::_::_::_::_::(oc++(ow++(tail++ [(px,_)])))) (by exact List.Perm.cons _ pmq)<|X.inBlock C.1<|Xs C<|Xr C U U<|Rl C U U isAgg3 V U<|R.int C U U U U b_eql<|R.done C<|X.cond C.1 U (fun g1=>?_) (fun g1=>?_)
  ·have h1:s.n=0:=by have:=eq_of_beq g1;omega
   refine Xr C U U ?_;refine R.build C U U U zeroValue25 U runUnderlying25 Kr .nil ?_;refine R.build C U U U zeroValue174 U runUnderlying174 Kr .nil<|R.iface C U U U runUnderlying174 (fun _=>nofun) ?_;refine R.store C U U U U sizeOf25 U U U V Ph5<|R.store C U U U U sizeOf170 U U U V (.here .nil)<|R.done C<|X.retM C U U func143 U (.cons V (.nil)) (by exact(.agg U isAgg25 sizeOf25 V Tk5 (.one U isAgg170 V U .nil)))<|hret _ _ _ hl2 (.cons _ (.cons _ (.cons _ (.cons _ (.cons _ ((List.sublist_append_left tail _).trans ((List.sublist_append_right ow _).trans (List.sublist_append_right oc _)))))))) ?_
   have e:readT text= .error 0:=by rw [readT,hrd];exact if_pos h1
   rw [e];rfl
  ·have h1:¬s.n=0:=fun h=>by rw [h] at g1;simp at g1
   refine X.skip C.1<|Xr C U U<|R5 C U U isAgg25 sizeOf25 V Tk5<|R.store C U U U U sizeOf25 U U U V Ph5<|R.store C U U U U sizeOf170 U U U V (.here .nil)<|R.done C<|X.finishA [_,_,_,_,_] C.1 Rc.len Dd (hbc.app (ow++(tail++ [(px,_)]))) fun ro3 hl3 hls3=>X.finishA [_,_,_,_,_] C.1 Wt.len Dd (hbw.app (tail++ [(px,_)])) fun ro4 hl4 hls4=>X.retM C U U func143 U (.cons V (.nil)) (by exact(.agg U isAgg25 sizeOf25 V Tk5 (.one U isAgg170 V U .nil)))<|hret _ _ _ (RO.le_trans hl2 (RO.le_trans hl3 hl4)) (.cons _ (.cons _ (.cons _ (.cons _ (.cons _ (List.sublist_append_left tail _)))))) ?_
   have e:readT text= .ok s.b:=by rw [readT,hrd];exact if_neg h1
   rw [e]
   exact⟨_,rfl,_,_,rfl,hls3.mono hl4,hls4⟩
 ·rintro r x ro' q' z' hl2 ⟨rz,rfl⟩ ⟨rfl,n,q0,⟨o4,o5,rfl⟩,rfl,hrd⟩
  refine X.retM C U U func143 U (.cons V (.nil)) (by exact(.agg U isAgg25 sizeOf25 V Tk5 (.one U isAgg170 V U .nil)))<|hret _ _ _ hl2 (.cons _ (.cons _ (.cons _ (.cons _ (.cons _ (List.sublist_append_left tail _)))))) ?_
  have e:readT text= .error n:=by rw [readT,hrd]
  rw [e];rfl
end Go.Lg.B
namespace Go.Lg.B
open Go Go.Conc Go.Lg Go.Proofs Go.Lg.S Go.Proofs.Tryz
abbrev zeroB:Value:= .agg [.int .i64 0, .int .i64 0, .int .i64 0, .slice none 0 0, .slice none 0 0].toArray
def parseV(v:Value)(ro:RO)(b:Bk):Prop:=if checkChart b=0 then∃vb,v= .tuple [vb, .int .i64 0, .int .i64 0].toArray∧BkV ro vb b else v= .tuple [zeroB, .int .i64 0, .int .i64 (checkChart b)].toArray
variable {main:Bool}{J:Goroutine→Mem→Prop}(hJ:Closed prog main J)
include hJ
theorem asNil_c{x:Value}(ro:RO):CallP prog J (fnv 144) [.nilIface,x] ro (.bool false):=by
 refine CallP.intro hJ Kr fun c cs tail hret=>enter_X (n:=42) func144 U U (Nl U) ?_
 have C:Ctx prog main J (bf 144 .normal):=⟨hJ,by decide⟩
 refine Xr C U U<|Ad C U U<|Xs C<|Xr C U U<|Rm C U U<|R.cmp C U U U U (.eql guardNil U (if_nn runUnderlying170))<|R.fixv (t:=9) (v':= .bool true) U (by rfl)<|R.done C<|X.cond C.1 U (fun _=>?_) (fun h=>nomatch h)
 refine Xr C U U<|Ad C U U<|Xt C func144<|Hp hret ?_
 rfl
theorem parse_c{text:List UInt8}{b:Bk}{ro:RO}(he:Env ro)(hw:EnvW ro)(hl:text.length≤40000)(hr:readT text= .ok b)(hs:b.short):CallR prog J (fnv 77) [strV text] ro (fun v ro'=>parseV v ro' b):=by
 refine CallR.intro hJ Kr fun c cs tail hret=>enter_X (n:=30) func77 U U (Nl U) ?_
 have C:Ctx prog main J (bf 77 .normal):=⟨hJ,by decide⟩
 refine Xr C U U<|R.alloc C U U zeroValue25 U fun p2=>R.asg C U U U<|Ad C U U<|Xs C<|Xr C U U<|Rm C U U<|R.sLen C U U U runUnderlying9<|R.int C U U U U b_gtr<|R.fixv (t:=10) (v':= .bool false) U (Bv (by rw [dF];omega)) ?_;refine R.done C<|X.cond C.1 U (fun h=>nomatch h) (fun _=>?_)
 refine X.skip C.1<|Xr C U U<|Rm C U U<|R.callR C U U U U (read_c hJ hw O) fun v1 ro1 hl1 hp1=>?_
 rw [hr] at hp1
 obtain⟨vb,rfl,vc,vw,rfl,hvc,hvw⟩:=hp1
 have hv:BkV ro1 (.agg [.int .i64 b.w, .int .i64 b.h, .int .i64 b.f,vc,vw].toArray) b:=⟨vc,vw,rfl,hvc,hvw⟩
 obtain⟨_,_,rfl⟩:=hvc.form
 obtain⟨_,_,rfl⟩:=hvw.form
 refine Rm C U U<|R.ext C U U U U<|R.ext C U U U U<|R.store C U U U U sizeOf25 U U U V Ph5<|Ad C U U<|Xr C U U<|R.alloc C U U zeroValue174 U fun p6=>R.done C<|Xs C<|Xr C U U<|Rm C U U<|R.iface C U U U runUnderlying176 (fun _=>nofun)<|R.callP C U U U U (asNil_c hJ _)<|R.fixv (t:=19) (v':= .bool false) U (by rfl)<|R.done C<|X.cond C.1 U (fun h=>nomatch h) (fun _=>?_)
 refine X.skip C.1<|Xs C<|Xr C U U<|R5 C U U isAgg25 sizeOf25 V Tk5<|R.callP C U U U U (checkChart_c hJ (he.mono hl1) hv hs)<|Ad C U U<|Xr C U U<|Rm C U U<|R.int C U U U U b_neq<|R.done C<|X.cond C.1 U (fun g1=>?_) (fun g1=>?_)
 ·have h1:¬checkChart b=0:=by simpa using g1
  refine Xr C U U ?_;refine R.build C U U U zeroValue25 U runUnderlying25 Kr .nil<|Rm C U U ?_;refine R.store C U U U U sizeOf25 U U U V Ph5<|R.asg C U U U<|Ad C U U<|X.ret C U U func77 U (by exact(.agg U isAgg25 sizeOf25 V Tk5 (.tmp U (.tmp U .nil))))<|Hr hret hl1 ?_
  show parseV _ _ b
  unfold parseV
  rw [if_neg h1];rfl
 ·have h1:checkChart b=0:=by simpa using g1
  refine X.skip C.1<|Xr C U U<|R5 C U U isAgg25 sizeOf25 V Tk5<|R.store C U U U U sizeOf25 U U U V Ph5<|R.asg C U U U<|Ad C U U<|X.ret C U U func77 U (by exact(.agg U isAgg25 sizeOf25 V Tk5 (.tmp U (.tmp U .nil))))<|Hr hret hl1 ?_
  show parseV _ _ b
  unfold parseV
  rw [if_pos h1]
  exact⟨_,rfl,hv⟩
end Go.Lg.B
namespace Go.Lg.S
open Go Go.Conc Go.Lg Go.Proofs Go.Proofs.Tryz
variable {n:Nat}
def dec(n:Nat):List UInt8:=if n<10 then [48+n.toUInt8] else [48+(n/10).toUInt8,48+(n%10).toUInt8]
def digits36:List UInt8:= [48,49,50,51,52,53,54,55,56,57,97,98,99,100,101,102,103,104,105,106,107,108,109,110,111,112,113,114,115,116,117,118,119,120,121,122]
def smalls:List UInt8:=(List.range 100).flatMap fun n=> [48+(n/10).toUInt8,48+(n%10).toUInt8]
theorem digit1:∀n:Fin 10,(digits36.take (((n.val:Int)+1).toNat)).drop (n.val:Int).toNat=dec n.val:=by decide
theorem digit2:∀n:Fin 100,¬n.val<10→(smalls.take (((n.val:Int)*2+2).toNat)).drop ((n.val:Int)*2).toNat=dec n.val:=by decide+kernel
variable {main:Bool}{J:Goroutine→Mem→Prop}(hJ:Closed prog main J)
include hJ
theorem small_c(hn:n<100)(ro:RO):CallP prog J (fnv 244) [.int .i64 (n:Int)] ro (strV (dec n)):=by
 refine CallP.intro hJ Kr fun c cs tail hret=>enter_X (n:=15) func244 U U (Nl U) ?_
 have C:Ctx prog main J (bf 244 .normal):=⟨hJ,by decide⟩
 refine Xr C U U<|Ad C U U<|Xs C<|Xr C U U<|Rm C U U<|R.int C U U U U b_lss<|R.done C<|X.cond C.1 U (fun h1=>?_) (fun h1=>?_)
 ·have h1:n<10:=by simp only [dT] at h1;omega
  refine Xr C U U<|Rm C U U<|Rm C U U<|Ra C U U U<|R.sSlice C U U U U U runUnderlying9 O O Zo<|Ad C U U<|Xt C func244<|Hp hret ?_
  exact congrArg (fun l:List UInt8=>Value.string ⟨l.toArray⟩) (digit1 ⟨n,h1⟩)
 ·have h1:¬n<10:=by simp only [dF] at h1;omega
  refine X.skip C.1<|Xr C U U<|Rm C U U<|R.int C U U U U (b_mul O O)<|Rm C U U<|R.int C U U U U (b_mul O O)<|Ra C U U U<|R.sSlice C U U U U U runUnderlying9 O O Zo<|Ad C U U<|Xt C func244<|Hp hret ?_
  exact congrArg (fun l:List UInt8=>Value.string ⟨l.toArray⟩) (digit2 ⟨n,hn⟩ h1)
theorem formatInt_c(hn:n<100)(ro:RO):CallP prog J (fnv 216) [.int .i64 (n:Int), .int .i64 10] ro (strV (dec n)):=by
 refine CallP.intro hJ Kr fun c cs tail hret=>enter_X (n:=54) func216 U U (Nl U) ?_
 have C:Ctx prog main J (bf 216 .normal):=⟨hJ,by decide⟩
 refine Xr C U U<|Ad C U U<|Xs C<|Xr C U U<|Rm C U U<|R.int C U U U U b_eql<|R.fixv (t:=11) (v':= .bool true) U (by rfl)<|R.done C<|X.cond C.1 U (fun _=>?_) (fun h=>nomatch h)
 refine Xs C<|Xr C U U<|Rm C U U<|R.int C U U U U b_leq<|R.fixv (t:=13) (v':= .bool true) U (Bv (by rw [dT];omega)) ?_;refine Rm C U U<|Rm C U U<|R.int C U U U U b_lss<|R.fixv (t:=16) (v':= .bool true) U (Bv (by rw [dT];omega)) ?_;refine R.pickT C U U U U<|R.done C<|X.cond C.1 U (fun _=>?_) (fun h=>nomatch h)
 refine Xr C U U<|Rm C U U<|R.callP C U U U U (small_c hJ O _)<|Ad C U U<|Xt C func216<|Hp hret ?_
 rfl
theorem itoaIn_c(hn:n<100)(ro:RO):CallP prog J (fnv 168) [.int .i64 (n:Int)] ro (strV (dec n)):=by
 refine CallP.intro hJ Kr fun c cs tail hret=>enter_X (n:=5) func168 U U (Nl U) ?_
 have C:Ctx prog main J (bf 168 .normal):=⟨hJ,by decide⟩
 refine Xr C U U<|Ad C U U<|Xr C U U<|Rm C U U<|R.callP C U U U U (formatInt_c hJ O _)<|Ad C U U<|Xt C func168<|Hp hret ?_
 rfl
theorem itoa_c(hn:n<100)(ro:RO):CallP prog J (fnv 135) [.int .i64 (n:Int)] ro (strV (dec n)):=by
 refine CallP.intro hJ Kr fun c cs tail hret=>enter_X (n:=5) func135 U U (Nl U) ?_
 have C:Ctx prog main J (bf 135 .normal):=⟨hJ,by decide⟩
 refine Xr C U U<|Ad C U U<|Xr C U U<|Rm C U U<|R.callP C U U U U (itoaIn_c hJ O _)<|Ad C U U<|Xt C func135<|Hp hret ?_
 rfl
end Go.Lg.S
namespace Go.Lg
open Go Go.Conc
variable {hi x:Operand}{e:TypeId}{bb kk len off:Nat}{ik':IntKind}{z:Int}
section
variable {P:Program}{t:TypeId}{k:IntKind}{m n v:Int}
theorem b_addK(hv:k.wrap (m+n)=v):∀M K,K (.int k v) M→Sm P M (binOp .add t (.int k m) (.int k n)) K:=fun M K h=>by
 subst hv;unfold binOp;simp only [ne_eq,not_true_eq_false,if_false,Op.intArith];exact Sm.pure h
theorem b_mulK(hv:k.wrap (m*n)=v):∀M K,K (.int k v) M→Sm P M (binOp .mul t (.int k m) (.int k n)) K:=fun M K h=>by
 subst hv;unfold binOp;simp only [ne_eq,not_true_eq_false,if_false,Op.intArith];exact Sm.pure h
theorem b_quoK(hn:n≠0)(hv:k.wrap (m.tdiv n)=v):∀M K,K (.int k v) M→Sm P M (binOp .quo t (.int k m) (.int k n)) K:=fun M K h=>by
 subst hv;unfold binOp;simp only [ne_eq,not_true_eq_false,if_false,Op.intDiv,hn];exact Sm.pure h
theorem b_remK(hn:n≠0)(hv:m.tmod n=v):∀M K,K (.int k v) M→Sm P M (binOp .rem t (.int k m) (.int k n)) K:=fun M K h=>by
 subst hv;unfold binOp;simp only [ne_eq,not_true_eq_false,if_false,Op.intDiv,hn];exact Sm.pure h
end
section
variable {P:Program}{main:Bool}{J:Goroutine→Mem→Prop}{b:Frame}(C:Ctx P main J b){cs:List Frame}{n:Nat}{ds:List Deferred}{σ:Slots}{k:List Item}{ops:Array Oper}{i:Nat}{rest:List Nat}
 {d:Nat} {dst:Option Nat} {ty:TypeId} {pos:String} {af:Array Edge} {g:Option (Nat×Bool)} {ro:RO} {own:List (Nat×Obj)} {M:Mem}
include C
theorem R.negK{t:TypeId}{kk:IntKind}{p v:Int}(ho:ops[i]? =some ⟨some d, .unOp .neg t x,ty,pos,af,g⟩)(hg:wantedS ops σ ⟨some d, .unOp .neg t x,ty,pos,af,g⟩=some true)(hx:ev σ x=some (.int kk p))(hv:kk.wrap (0-p)=v)
  (h:R J b cs n ops rest k ds ((d, .int kk v)::σ) M):R J b cs n ops (i::rest) k ds σ M:=
 R.v C ho hg rfl (fun _ ha _ hk=>by
  subst hv
  unfold execOp
  simp only [ha.ev hx,Op.unary,Op.intArith]
  exact ex_v (Sm.pure hk)) h
theorem R.sliceArrB{t:TypeId}{lo:Operand}{ik:IntKind}{y:Int}(ho:ops[i]? =some ⟨some d, .slice t x (some lo) (some hi) none,ty,pos,af,g⟩)(hg:wantedS ops σ ⟨some d, .slice t x (some lo) (some hi) none,ty,pos,af,g⟩=some true)
  (hx:ev σ x=some (.pointer (some ⟨bb,off,none⟩))) (hl:ev σ lo=some (.int ik y)) (hh:ev σ hi=some (.int ik' z)) (hu:∀w,Sem.run P (Go.underlying t) w= .ok (.array len e) w) (hz:∀w,Sem.run P (Go.sizeOf e) w= .ok kk w) (h0:0≤y) (h1:y≤z) (h2:z≤len) (h3:y<len)
  (h:R J b cs n ops rest k ds ((d, .slice (some ⟨bb,off+y.toNat*kk,none⟩) (z.toNat-y.toNat) (len-y.toNat))::σ) M):R J b cs n ops (i::rest) k ds σ M:=
 R.v C ho hg rfl (fun _ ha _ hk=>by
  unfold execOp
  simp only [ha.ev hx,Option.map_some,Option.map_none,ha.ev hl,ha.ev hh]
  refine ex_v ?_
  show Sm P M (Instr.sliceAt t (.pointer (some ⟨bb,off,none⟩)) (some (.int ik y)) (some (.int ik' z)) none) _
  unfold Instr.sliceAt
  refine Sm.bind (Sm.underlying hu ?_)
  simp only
  unfold Instr.sureAddr
  refine Sm.bind (Sm.pure ?_)
  unfold Instr.sliceBounds
  refine Sm.bind (Sm.bind (Sm.pure (Sm.bind (Sm.sliceBound O h2 (Sm.bind (Sm.sliceBound h0 O (Sm.pure ?_)))))))
  refine Sm.bind (Sm.sizeOf hz (Sm.pure ?_))
  have e2:(if len=y.toNat then(⟨bb,off,none⟩:Addr) else Addr.add ⟨bb,off,none⟩ (y.toNat*kk))=⟨bb,off+y.toNat*kk,none⟩:=by
   rw [if_neg O,add_addr]
  rw [e2];exact hk) h
theorem R.sliceArrT{t:TypeId}(ho:ops[i]? =some ⟨some d, .slice t x none (some hi) none,ty,pos,af,g⟩)(hg:wantedS ops σ ⟨some d, .slice t x none (some hi) none,ty,pos,af,g⟩=some true)
  (hx:ev σ x=some (.pointer (some ⟨bb,off,none⟩))) (hh:ev σ hi=some (.int ik' z)) (hu:∀w,Sem.run P (Go.underlying t) w= .ok (.array len e) w) (hz:∀w,Sem.run P (Go.sizeOf e) w= .ok kk w) (h0:0≤z) (h2:z≤len)
  (h:R J b cs n ops rest k ds ((d, .slice (some ⟨bb,off,none⟩) z.toNat len)::σ) M):R J b cs n ops (i::rest) k ds σ M:=
 R.v C ho hg rfl (fun _ ha _ hk=>by
  unfold execOp
  simp only [ha.ev hx,Option.map_some,Option.map_none,ha.ev hh]
  refine ex_v ?_
  show Sm P M (Instr.sliceAt t (.pointer (some ⟨bb,off,none⟩)) none (some (.int ik' z)) none) _
  unfold Instr.sliceAt
  refine Sm.bind (Sm.underlying hu ?_)
  simp only
  unfold Instr.sureAddr
  refine Sm.bind (Sm.pure ?_)
  unfold Instr.sliceBounds
  refine Sm.bind (Sm.bind (Sm.pure (Sm.bind (Sm.sliceBound h0 h2 (Sm.bind (Sm.pure (Sm.pure ?_)))))))
  refine Sm.bind (Sm.sizeOf hz (Sm.pure ?_))
  have e2:(if len=0 then(⟨bb,off,none⟩:Addr) else Addr.add ⟨bb,off,none⟩ (0*kk))=⟨bb,off,none⟩:=by
   split
   ·rfl
   ·rw [add_addr];simp
  rw [e2];exact hk) h
theorem R.bytesStr{s t tt:TypeId}{p cap:Nat}{L:List Value}{l:List UInt8}{fq:Nat×Nat}(ho:ops[i]? =some ⟨some d, .convert s t x,ty,pos,af,g⟩)(hg:wantedS ops σ ⟨some d, .convert s t x,ty,pos,af,g⟩=some true)(hx:ev σ x=some (.slice (some ⟨p,off,none⟩) len cap))
  (hs:∀w,Sem.run P (Go.underlying s) w= .ok (.slice e) w) (ht:∀w,Sem.run P (Go.underlying t) w= .ok .string w) (he:∀w,Sem.run P (Go.underlying e) w= .ok (.int .u8) w) (hm:(p,Obj.cells L.toArray tt fq)∈own) (hsub:Sub off len L (bys l))
  (h:R J b cs n ops rest k ds ((d,strV l)::σ) ⟨ro,own⟩):R J b cs n ops (i::rest) k ds σ ⟨ro,own⟩:=
 R.v C ho hg rfl (fun a ha K hk=>by
  unfold execOp
  simp only [ha.ev hx]
  refine ex_v ?_
  unfold Go.convert
  refine Sm.bind (Sm.underlying hs (Sm.bind (Sm.underlying ht ?_)))
  simp only
  refine Sm.bind (Sm.underlying he ?_)
  simp only
  unfold Conv.bytesToString
  simp only
  unfold loadCells
  refine Sm.bind<|Sm.loadCellsFrom_own (M:=⟨ro,own⟩) hm len off 0 #[] (by simpa using hsub) ?_
  have key:∀ (l:List UInt8) (acc:ByteArray) (K:ByteArray→Mem→Prop),K ⟨acc.data++l.toArray⟩ ⟨ro,own⟩→Sm P ⟨ro,own⟩ (forIn (bys l) acc fun c s=>(match c with
    | .int .u8 n=>Pure.pure (ForInStep.yield (s.push (UInt8.ofNat n.toNat)))
    |_=>stuck "bytesToString: byte expected" :Sem (ForInStep ByteArray))) K:=by
   intro l
   induction l with
   |nil=>intro acc K hk;rw [show bys []= [] from rfl,List.forIn_nil];exact Sm.pure (by simpa using hk)
   |cons x l ih=>
    intro acc K hk
    refine Sm.forIn_cons ?_
    simp only
    refine Sm.pure (ih _ _ ?_)
    have e1:UInt8.ofNat ((x.toNat:Int)).toNat=x:=by simp
    rw [e1]
    have e:(acc.push x).data++l.toArray=acc.data++(x::l).toArray:=by
     show acc.data.push x++l.toArray=_
     apply Array.ext';simp
    rw [e];exact hk
  rw [Array.empty_append]
  have:=key l .empty (fun s M'=>Sm P M' (Pure.pure (Value.string s)) fun v M2=>K (.value v) M2) (Sm.pure (by
   have e2:(⟨ByteArray.empty.data++l.toArray⟩:ByteArray)=⟨l.toArray⟩:=by
    congr 1;simp
   rw [e2];exact hk))
  refine Sm.bind ?_
  rw [←Array.forIn_toList]
  exact this) h
end
end Go.Lg
namespace Go.Lg.S
open Go Go.Conc Go.Lg Go.Proofs Go.Proofs.Tryz
variable {ro:RO}{a p u:Nat}
def lenTab:List UInt8:= [0,1,2,2,3,3,3,3,4,4,4,4,4,4,4,4,5,5,5,5,5,5,5,5,5,5,5,5,5,5,5,5,6,6,6,6,6,6,6,6,6,6,6,6,6,6,6,6,6,6,6,6,6,6,6,6,6,6,6,6,6,6,6,6,7,7,7,7,7,7,7,7,7,7,7,7,7,7,7,7,7,7,7,7,7,7,7,7,7,7,7,7,7,7,7,7,7,7,7,7,7,7,7,7,7,7,7,7,7,7,7,7,7,7,7,7,7,7,7,7,7,7,7,7,7,7,7,7,8,8,8,8,8,8,8,8,8,8,8,8,8,8,8,8,8,8,8,8,8,8,8,8,8,8,8,8,8,8,8,8,8,8,8,8,8,8,8,8,8,8,8,8,8,8,8,8,8,8,8,8,8,8,8,8,8,8,8,8,8,8,8,8,8,8,8,8,8,8,8,8,8,8,8,8,8,8,8,8,8,8,8,8,8,8,8,8,8,8,8,8,8,8,8,8,8,8,8,8,8,8,8,8,8,8,8,8,8,8,8,8,8,8,8,8,8,8,8,8,8,8,8,8,8,8,8,8]
def lenB(u:Nat):Nat:=if u=0 then 0 else Nat.log2 u+1
theorem lenTab_at:∀u:Fin 100,lenTab[u.val]? =some (UInt8.ofNat (lenB u.val))∧(UInt8.ofNat (lenB u.val)).toNat=lenB u.val∧lenB u.val≤7:=by decide
def smallsT:List UInt8:= [48,48,48,49,48,50,48,51,48,52,48,53,48,54,48,55,48,56,48,57,49,48,49,49,49,50,49,51,49,52,49,53,49,54,49,55,49,56,49,57,50,48,50,49,50,50,50,51,50,52,50,53,50,54,50,55,50,56,50,57,51,48,51,49,51,50,51,51,51,52,51,53,51,54,51,55,51,56,51,57,52,48,52,49,52,50,52,51,52,52,52,53,52,54,52,55,52,56,52,57,53,48,53,49,53,50,53,51,53,52,53,53,53,54,53,55,53,56,53,57,54,48,54,49,54,50,54,51,54,52,54,53,54,54,54,55,54,56,54,57,55,48,55,49,55,50,55,51,55,52,55,53,55,54,55,55,55,56,55,57,56,48,56,49,56,50,56,51,56,52,56,53,56,54,56,55,56,56,56,57,57,48,57,49,57,50,57,51,57,52,57,53,57,54,57,55,57,56,57,57]
theorem smalls_at:∀u:Fin 100,smallsT[2*u.val]? =some (48+(u.val/10).toUInt8)∧smallsT[2*u.val+1]? =some (48+(u.val%10).toUInt8):=by decide
theorem digit_at:∀u:Fin 10,(48+u.val.toUInt8:UInt8).toNat=48+u.val:=by decide
def pow10L:List Value:=(List.range 20).map fun i=> .int .u64 ((10^i:Nat):Int)
def EnvP(ro:RO):Prop:= ∃t fq,ro 3=some (.cells pow10L.toArray t fq)
theorem EnvP.mono{ro':RO}(h:EnvP ro)(hl:ro.le ro'):EnvP ro':=let⟨t,fq,h⟩:=h;⟨t,fq,hl _ _ h⟩
def q10(u:Nat):Nat:=lenB u*78913/262144
theorem q10_at:∀u:Fin 100,1≤u.val→q10 u.val≤2∧q10 u.val+(if 10^q10 u.val≤u.val then 1 else 0)=(if u.val<10 then 1 else 2):=by decide
theorem wrapU64(n:Int):IntKind.u64.wrap n=n%18446744073709551616:=by simp [IntKind.wrap,IntKind.bits,IntKind.signed]
variable {main:Bool}{J:Goroutine→Mem→Prop}(hJ:Closed prog main J)
include hJ
theorem len64_c(h:u≤99)(ro:RO):CallP prog J (fnv 194) [.int .u64 (u:Int)] ro (.int .i64 (lenB u:Int)):=by
 have h1:lenTab[u]? =some (UInt8.ofNat (lenB u)):=(lenTab_at ⟨u,O⟩).1
 have h2:(UInt8.ofNat (lenB u)).toNat=lenB u:=(lenTab_at ⟨u,O⟩).2.1
 have h3:lenB u≤7:=(lenTab_at ⟨u,O⟩).2.2
 refine CallP.intro hJ Kr fun c cs tail hret=>enter_X (n:=25) func194 U U (Nl U) ?_
 have C:Ctx prog main J (bf 194 .normal):=⟨hJ,by decide⟩
 refine Xr C U U<|Ad C U U<|Xs C<|Xr C U U<|Rm C U U<|R.int C U U U U b_geq<|R.fixv (t:=4) (v':= .bool false) U (Bv (by rw [dF];omega)) ?_;refine R.done C<|X.cond C.1 U (fun h=>nomatch h) (fun _=>?_)
 refine X.skip C.1<|Xs C<|Xr C U U<|Rm C U U<|R.int C U U U U b_geq<|R.fixv (t:=8) (v':= .bool false) U (Bv (by rw [dF];omega)) ?_;refine R.done C<|X.cond C.1 U (fun h=>nomatch h) (fun _=>?_)
 refine X.skip C.1<|Xs C<|Xr C U U<|Rm C U U<|R.int C U U U U b_geq<|R.fixv (t:=14) (v':= .bool false) U (Bv (by rw [dF];omega)) ?_;refine R.done C<|X.cond C.1 U (fun h=>nomatch h) (fun _=>?_)
 refine X.skip C.1<|Xr C U U<|Rm C U U<|Rm C U U<|R.convN C U U U runUnderlying196 runUnderlying5 (u8_wrap O O)<|R.sIndex C U U U U runUnderlying9 O (show lenTab[((u:Int)).toNat]? =_ by rw [Int.toNat_natCast];exact h1)<|R.fixv (t:=22) (v':= .int .u8 (lenB u:Int)) U (by(rw [h2]))<|R.convN C U U U runUnderlying5 runUnderlying3 (wrap64 O O)<|Ra C U U U<|Ad C U U<|Xt C func194<|Hp hret ?_
 exact congrArg (Value.int .i64) O
theorem log_c{n:Nat}(h:n≤7)(ro:RO):CallP prog J (fnv 258) [.int .i64 (n:Int)] ro (.int .i64 ((n*78913/262144:Nat):Int)):=by
 refine CallP.intro hJ Kr fun c cs tail hret=>enter_X (n:=6) func258 U U (Nl U) ?_
 have C:Ctx prog main J (bf 258 .normal):=⟨hJ,by decide⟩
 refine Xr C U U<|Ad C U U<|Xr C U U<|Rm C U U<|R.int C U U U U (b_mul O O)<|R.shift C U U U U (b_shr O Dd O)<|Ad C U U<|Xt C func258<|Hp hret ?_
 exact congrArg (Value.int .i64) (by show(n:Int)*78913/2^18=_;omega)
theorem bool2_c(x:Bool)(ro:RO):CallP prog J (fnv 259) [.bool x] ro (.int .i64 (if x then 1 else 0)):=by
 refine CallP.intro hJ Kr fun c cs tail hret=>enter_X (n:=4) func259 U U (Nl U) ?_
 have C:Ctx prog main J (bf 259 .normal):=⟨hJ,by decide⟩
 refine Xr C U U<|Ad C U U<|Xs C<|Xr C U U<|Rm C U U<|R.done C<|X.cond C.1 U (fun g1=>?_) (fun g1=>?_)
 ·subst g1
  refine Xr C U U<|Ad C U U<|Xt C func259<|Hp hret ?_
  rfl
 ·subst g1
  refine X.skip C.1<|Xr C U U<|Ad C U U<|Xt C func259<|Hp hret ?_
  rfl
theorem numDigits_c(h1:1≤u)(h:u≤99)(hp:EnvP ro):CallP prog J (fnv 245) [.int .u64 (u:Int)] ro (.int .i64 (if u<10 then 1 else 2)):=by
 obtain⟨pt,pf,hp⟩:=hp
 have h3:lenB u≤7:=(lenTab_at ⟨u,O⟩).2.2
 have hq:q10 u≤2∧q10 u+(if 10^q10 u≤u then 1 else 0)=(if u<10 then 1 else 2):=q10_at ⟨u,O⟩ h1
 have hat:pow10L[0+((q10 u:Nat):Int).toNat*1]? =some (.int .u64 ((10^q10 u:Nat):Int)):=by
  rw [Int.toNat_natCast,Nat.zero_add,Nat.mul_one,pow10L,List.getElem?_map,List.getElem?_range O];rfl
 refine CallP.intro hJ Kr fun c cs tail hret=>enter_X (n:=15) func245 U U (Nl U) ?_
 have C:Ctx prog main J (bf 245 .normal):=⟨hJ,by decide⟩
 refine Xr C U U<|Ad C U U<|Xr C U U<|Rm C U U<|R.callP C U U U U (len64_c hJ (by assumption) _)<|R.callP C U U U U (log_c hJ (by assumption) _)<|R.fixv (t:=6) (v':= .int .i64 ((q10 u:Nat):Int)) U (by rfl)<|Ad C U U<|Xr C U U<|Rm C U U<|Rm C U U<|Rm C U U<|R.indexAddrA C U U U U runUnderlying320 sizeOf196 O O<|R.loadOneRo C U U U isAgg196 hp hat<|R.int C U U U U b_geq<|R.callP C U U U U (bool2_c hJ _ _)<|Ra C U U U<|Ad C U U<|Xt C func245<|Hp hret<|congrArg (Value.int .i64) ?_
 have e:decide ((((10^q10 u:Nat)):Int)≤(u:Int))=decide (10^q10 u≤u):=by rw [Bool.eq_iff_iff,decide_eq_true_eq,decide_eq_true_eq];omega
 rw [e]
 simp only [dT]
 generalize 10^q10 u=z at hq
 by_cases h5:z≤u<;>by_cases h6:u<10<;>simp only [h5,h6,if_true,if_false] at hq⊢ <;>omega
abbrev buf24(a b d:Int):List Value:= [.int .u8 a, .int .u8 b, .int .u8 d, .int .u8 0, .int .u8 0, .int .u8 0, .int .u8 0, .int .u8 0, .int .u8 0, .int .u8 0, .int .u8 0, .int .u8 0, .int .u8 0, .int .u8 0, .int .u8 0, .int .u8 0, .int .u8 0, .int .u8 0, .int .u8 0, .int .u8 0, .int .u8 0, .int .u8 0, .int .u8 0, .int .u8 0]
theorem base1_c(h:u<10)(ro:RO):CallV prog J (fnv 246) [.slice (some ⟨p,1,none⟩) 1 23, .int .u64 (u:Int)] ro [(p, .cells (buf24 0 0 0).toArray 304 (0,0))] fun r ro' pre'=>r= .tuple #[]∧ro'=ro∧pre'= [(p, .cells (buf24 0 ((48+u.toUInt8:UInt8).toNat:Int) 0).toArray 304 (0,0))]:=by
 have hd:(48+u.toUInt8:UInt8).toNat=48+u:=digit_at ⟨u,h⟩
 rw [hd]
 refine CallV.intro (first:= []) (vs:= [_,_]) (cap:= []) hJ Kr fun c cs tail hret=>enter_X (n:=167) func246 U U (Nl U) ?_
 have C:Ctx prog main J (bf 246 .normal):=⟨hJ,by decide⟩
 refine Xr C U U<|Rm C U U<|Rn C U U runUnderlying156<|Ad C U U<|Xs C<|X.block C.1<|X.loopI (ι:=Unit) C.1 (fun _=>True) (fun _=> [(0, .slice (some ⟨p,1,none⟩) 1 23),(1, .int .u64 (u:Int)),(4, .int .i64 1)]) (fun _=>⟨ro, [(p, .cells (buf24 0 0 0).toArray 304 (0,0))]++tail⟩) (fun _=>0) () trivial U ⟨U,U,U,trivial⟩ fun _ _ hnext=>Xs C<|Xr C U U<|Rm C U U<|R.int C U U U U b_geq<|R.fixv (t:=20) (v':= .bool false) U (by rfl)<|R.done C<|X.cond C.1 U (fun h=>nomatch h) (fun _=>?_)
 refine X.exit C.1 U<|Xr C U U<|Rm C U U<|R.convN C U U U runUnderlying196 runUnderlying199 (IntWalk.u32_in _ O)<|Ad C U U<|Xs C<|Xr C U U<|Rm C U U<|R.int C U U U U b_geq<|R.fixv (t:=99) (v':= .bool false) U (by rfl)<|R.done C<|X.cond C.1 U (fun h=>nomatch h) (fun _=>?_)
 refine X.skip C.1<|Xs C<|Xr C U U<|Rm C U U<|R.int C U U U U b_geq<|R.fixv (t:=139) (v':= .bool false) U (by rfl)<|R.done C<|X.cond C.1 U (fun h=>nomatch h) (fun _=>?_)
 refine X.skip C.1<|Xr C U U<|Rm C U U<|R.int C U U U U b_gtr<|R.fixv (t:=161) (v':= .bool true) U (by rfl)<|R.done C<|X.cond C.1 U (fun _=>?_) (fun h=>nomatch h)
 refine X.region C U U<|Rm C U U<|Rm C U U<|R.int C U U U U (b_addK (IntWalk.u32_in _ O))<|R.convN C U U U runUnderlying199 runUnderlying5 (IntWalk.u8_in _ O)<|Rx C U U U runUnderlying156 sizeOf5<|R.store C U U U U sizeOf5 U U U V (.skip (.here .nil))<|R.done C<|X.fall C U U func246 U (by exact .nil) ?_
 exact hret _ _ [(p,_)] _ (RO.le_refl _) ⟨rfl,rfl,rfl⟩ (List.Sublist.refl _)
theorem base2_c(h:u<100)(ro:RO):CallV prog J (fnv 246) [.slice (some ⟨p,1,none⟩) 2 23, .int .u64 (u:Int)] ro [(p, .cells (buf24 0 0 0).toArray 304 (0,0))] fun r ro' pre'=>r= .tuple #[]∧ro'=ro∧pre'= [(p, .cells (buf24 0 ((48+(u/10).toUInt8:UInt8).toNat:Int) ((48+(u%10).toUInt8:UInt8).toNat:Int)).toArray 304 (0,0))]:=by
 have s1:smallsT[2*u]? =some (48+(u/10).toUInt8):=(smalls_at ⟨u,h⟩).1
 have s2:smallsT[2*u+1]? =some (48+(u%10).toUInt8):=(smalls_at ⟨u,h⟩).2
 refine CallV.intro (first:= []) (vs:= [_,_]) (cap:= []) hJ Kr fun c cs tail hret=>enter_X (n:=167) func246 U U (Nl U) ?_
 have C:Ctx prog main J (bf 246 .normal):=⟨hJ,by decide⟩
 refine Xr C U U<|Rm C U U<|Rn C U U runUnderlying156<|Ad C U U<|Xs C<|X.block C.1<|X.loopI (ι:=Unit) C.1 (fun _=>True) (fun _=> [(0, .slice (some ⟨p,1,none⟩) 2 23),(1, .int .u64 (u:Int)),(4, .int .i64 2)]) (fun _=>⟨ro, [(p, .cells (buf24 0 0 0).toArray 304 (0,0))]++tail⟩) (fun _=>0) () trivial U ⟨U,U,U,trivial⟩ fun _ _ hnext=>Xs C<|Xr C U U<|Rm C U U<|R.int C U U U U b_geq<|R.fixv (t:=20) (v':= .bool false) U (by rfl)<|R.done C<|X.cond C.1 U (fun h=>nomatch h) (fun _=>?_)
 refine X.exit C.1 U<|Xr C U U<|Rm C U U<|R.convN C U U U runUnderlying196 runUnderlying199 (IntWalk.u32_in _ O)<|Ad C U U<|Xs C<|Xr C U U<|Rm C U U<|R.int C U U U U b_geq<|R.fixv (t:=99) (v':= .bool false) U (by rfl)<|R.done C<|X.cond C.1 U (fun h=>nomatch h) (fun _=>?_)
 refine X.skip C.1<|Xs C<|Xr C U U<|Rm C U U<|R.int C U U U U b_geq<|R.fixv (t:=139) (v':= .bool true) U (by rfl)<|R.done C<|X.cond C.1 U (fun _=>?_) (fun h=>nomatch h)
 refine Xr C U U<|Rm C U U<|R.int C U U U U (b_remK (v:=(u:Int)) Dd (Int.tmod_eq_of_lt O O))<|R.int C U U U U (b_mulK (IntWalk.u32_in _ O))<|Ad C U U<|Xr C U U<|Rm C U U<|R.int C U U U U (b_quoK (v:=0) Dd (by rw [Int.tdiv_eq_zero_of_lt O O];rfl))<|Ad C U U<|Xs C<|Xd C fun hok=>Dm C 0 hok U U U<|Dm C 1 hok U U U<|Di C 2 hok U U U U U (b_sub O O)<|Dm C 3 hok U U U<|Dm C 4 hok U U U<|Di C 5 hok U U U U U (b_sub O O)<|Dm C 6 hok U U U<|Di C 7 hok U U U U U (b_addK (IntWalk.u32_in _ O))<|Dp 8 hok (fun _ _ _ A h=>R.sIndex C U (A.w U U) (A.x U U) (A.x U U) runUnderlying9 O (show smallsT[((u:Int)*2+1).toNat]? =_ by rw [show((u:Int)*2+1).toNat=2*u+1 by omega];exact s2) h)<|Dm C 9 hok U U U<|Dp 10 hok (fun _ _ _ A h=>R.sIndex C U (A.w U U) (A.x U U) (A.x U U) runUnderlying9 O (show smallsT[((u:Int)*2).toNat]? =_ by rw [show((u:Int)*2).toNat=2*u by omega];exact s1) h)<|Dx C 11 hok U U U runUnderlying156 sizeOf5<|De 12 none [] hok (fun _ _ A hk=>?_)
 refine R.store C U (A.w U U) (A.x U U) (A.x U U) sizeOf5 U U U V (.skip (.skip (.here .nil))) (hk undef _ ⟨QFs.nil, ?_⟩)
 refine Dx C 13 hok U U U runUnderlying156 sizeOf5<|De 14 none [] hok (fun _ _ A hk=>?_)
 refine R.store C U (A.w U U) (A.x U U) (A.x U U) sizeOf5 U U U V (.skip (.here .nil)) (hk undef _ ⟨QFs.nil, ?_⟩)
 refine D.done C hok Kr<|X.region C U U<|Rm C U U<|R.int C U U U U (b_sub O O)<|Ad C U U<|Xr C U U<|Rm C U U<|R.int C U U U U b_gtr<|R.fixv (t:=161) (v':= .bool false) U (by rfl)<|R.done C<|X.cond C.1 U (fun h=>nomatch h) (fun _=>?_)
 refine X.skip C.1<|X.fall C U U func246 U (by exact .nil) ?_
 exact hret _ _ [(p,_)] _ (RO.le_refl _) ⟨rfl,rfl,rfl⟩ (List.Sublist.refl _)
theorem formatIntN_c(h1:1≤a)(h9:a≤99)(hp:EnvP ro):CallP prog J (fnv 216) [.int .i64 (-(a:Int)), .int .i64 10] ro (strV (45::dec a)):=by
 by_cases h:a<10
 ·have _:=h
  refine CallP.intro hJ Kr fun c cs tail hret=>enter_X (n:=54) func216 U U (Nl U) ?_
  have C:Ctx prog main J (bf 216 .normal):=⟨hJ,by decide⟩
  refine Xr C U U<|Ad C U U<|Xs C<|Xr C U U<|Rm C U U<|R.int C U U U U b_eql<|R.fixv (t:=11) (v':= .bool true) U (by rfl)<|R.done C<|X.cond C.1 U (fun _=>?_) (fun h=>nomatch h)
  refine Xs C<|Xr C U U<|Rm C U U<|R.int C U U U U b_leq<|R.fixv (t:=13) (v':= .bool false) U (Bv (by rw [dF];omega)) ?_;refine Rm C U U<|R.pass C U U<|R.pass C U U<|R.pickF C U U U U<|R.done C<|X.cond C.1 U (fun h=>nomatch h) (fun _=>?_)
  refine X.skip C.1<|Xr C U U<|R.alloc C U U zeroValue304 U fun p5=>R.done C<|Xr C U U<|Rm C U U<|R.convN C U U U runUnderlying2 runUnderlying196 (show IntKind.u64.wrap (-(a:Int))=18446744073709551616- (a:Int) by rw [wrapU64];omega)<|Ad C U U<|Xs C<|Xr C U U<|Rm C U U<|R.int C U U U U b_lss<|R.fixv (t:=23) (v':= .bool true) U (Bv (by rw [dT];omega)) ?_;refine R.done C<|X.cond C.1 U (fun _=>?_) (fun h=>nomatch h)
  refine X.region C U U<|Rm C U U<|R.negK C U U U (show IntKind.u64.wrap (0- (18446744073709551616- (a:Int)))=(a:Int) by rw [wrapU64];omega)<|Ad C U U<|Xr C U U<|Rm C U U<|R.callP C U U U U (numDigits_c hJ (by assumption) (by assumption) (by assumption))<|R.fixv (t:=27) (v':= .int .i64 1) U (by(rw [if_pos h]))<|Ad C U U<|Xr C U U<|Rm C U U<|Ra C U U U<|R.sliceArrB C U U U U U runUnderlying304 sizeOf5 Dd Dd Dd Dd<|Rm C U U<|R.call C U U U U (pre:= [_]) U (base1_c hJ O ro) fun w1 ro1 pre1 hl1 hp1=>?_
  obtain⟨rfl,rfl,rfl⟩:=hp1
  refine R.done C<|Xs C<|Xr C U U<|Rm C U U<|R.int C U U U U b_lss<|R.fixv (t:=34) (v':= .bool true) U (Bv (by rw [dT];omega)) ?_;refine R.done C<|X.cond C.1 U (fun _=>?_) (fun h=>nomatch h)
  refine Xr C U U<|R.indexAddrA C U U U U runUnderlying304 sizeOf5 O O<|R.store C U U U U sizeOf5 U U U V (.here .nil)<|R.done C<|Xr C U U<|Rm C U U<|Ra C U U U<|R.sliceArrT C U U U U runUnderlying304 sizeOf5 Dd Dd<|R.bytesStr C U U U runUnderlying156 runUnderlying9 runUnderlying5 List.mem_cons_self (l:= [45,48+a.toUInt8]) Tk2<|Ad C U U<|Xt C func216<|Hp hret ?_
  rw [dec,if_pos h];rfl
 ·have _:=h
  refine CallP.intro hJ Kr fun c cs tail hret=>enter_X (n:=54) func216 U U (Nl U) ?_
  have C:Ctx prog main J (bf 216 .normal):=⟨hJ,by decide⟩
  refine Xr C U U<|Ad C U U<|Xs C<|Xr C U U<|Rm C U U<|R.int C U U U U b_eql<|R.fixv (t:=11) (v':= .bool true) U (by rfl)<|R.done C<|X.cond C.1 U (fun _=>?_) (fun h=>nomatch h)
  refine Xs C<|Xr C U U<|Rm C U U<|R.int C U U U U b_leq<|R.fixv (t:=13) (v':= .bool false) U (Bv (by rw [dF];omega)) ?_;refine Rm C U U<|R.pass C U U<|R.pass C U U<|R.pickF C U U U U<|R.done C<|X.cond C.1 U (fun h=>nomatch h) (fun _=>?_)
  refine X.skip C.1<|Xr C U U<|R.alloc C U U zeroValue304 U fun p5=>R.done C<|Xr C U U<|Rm C U U<|R.convN C U U U runUnderlying2 runUnderlying196 (show IntKind.u64.wrap (-(a:Int))=18446744073709551616- (a:Int) by rw [wrapU64];omega)<|Ad C U U<|Xs C<|Xr C U U<|Rm C U U<|R.int C U U U U b_lss<|R.fixv (t:=23) (v':= .bool true) U (Bv (by rw [dT];omega)) ?_;refine R.done C<|X.cond C.1 U (fun _=>?_) (fun h=>nomatch h)
  refine X.region C U U<|Rm C U U<|R.negK C U U U (show IntKind.u64.wrap (0- (18446744073709551616- (a:Int)))=(a:Int) by rw [wrapU64];omega)<|Ad C U U<|Xr C U U<|Rm C U U<|R.callP C U U U U (numDigits_c hJ (by assumption) (by assumption) (by assumption))<|R.fixv (t:=27) (v':= .int .i64 2) U (by(rw [if_neg h]))<|Ad C U U<|Xr C U U<|Rm C U U<|Ra C U U U<|R.sliceArrB C U U U U U runUnderlying304 sizeOf5 Dd Dd Dd Dd<|Rm C U U<|R.call C U U U U (pre:= [_]) U (base2_c hJ O ro) fun w1 ro1 pre1 hl1 hp1=>?_
  obtain⟨rfl,rfl,rfl⟩:=hp1
  refine R.done C<|Xs C<|Xr C U U<|Rm C U U<|R.int C U U U U b_lss<|R.fixv (t:=34) (v':= .bool true) U (Bv (by rw [dT];omega)) ?_;refine R.done C<|X.cond C.1 U (fun _=>?_) (fun h=>nomatch h)
  refine Xr C U U<|R.indexAddrA C U U U U runUnderlying304 sizeOf5 O O<|R.store C U U U U sizeOf5 U U U V (.here .nil)<|R.done C<|Xr C U U<|Rm C U U<|Ra C U U U<|R.sliceArrT C U U U U runUnderlying304 sizeOf5 Dd Dd<|R.bytesStr C U U U runUnderlying156 runUnderlying9 runUnderlying5 List.mem_cons_self (l:= [45,48+(a/10).toUInt8,48+(a%10).toUInt8]) Tk3<|Ad C U U<|Xt C func216<|Hp hret ?_
  rw [dec,if_neg h];rfl
theorem itoaInN_c(h1:1≤a)(h9:a≤99)(hp:EnvP ro):CallP prog J (fnv 168) [.int .i64 (-(a:Int))] ro (strV (45::dec a)):=by
 refine CallP.intro hJ Kr fun c cs tail hret=>enter_X (n:=5) func168 U U (Nl U) ?_
 have C:Ctx prog main J (bf 168 .normal):=⟨hJ,by decide⟩
 refine Xr C U U<|Ad C U U<|Xr C U U<|Rm C U U<|R.callP C U U U U (formatIntN_c hJ h1 h9 hp)<|Ad C U U<|Xt C func168<|Hp hret ?_
 rfl
def decI(n:Int):List UInt8:=if 0≤n then dec n.toNat else 45::dec (-n).toNat
theorem itoaI_c{n:Int}(h1: -99≤n)(h9:n≤99)(hp:EnvP ro):CallP prog J (fnv 135) [.int .i64 n] ro (strV (decI n)):=by
 by_cases h:0≤n
 ·obtain⟨m,rfl⟩:=Int.eq_ofNat_of_zero_le h
  rw [decI,if_pos h,Int.toNat_natCast]
  exact itoa_c hJ O ro
 ·obtain⟨a,rfl⟩:∃a:Nat,n= -(a:Int):=⟨(-n).toNat,O⟩
  rw [decI,if_neg h,Int.neg_neg,Int.toNat_natCast]
  refine CallP.intro hJ Kr fun c cs tail hret=>enter_X (n:=5) func135 U U (Nl U) ?_
  have C:Ctx prog main J (bf 135 .normal):=⟨hJ,by decide⟩
  refine Xr C U U<|Ad C U U<|Xr C U U<|Rm C U U<|R.callP C U U U U (itoaInN_c hJ O O hp)<|Ad C U U<|Xt C func135<|Hp hret ?_
  rfl
end Go.Lg.S
namespace Go.Lg.B
open Go Go.Conc Go.Lg Go.Proofs Go.Lg.S Go.Proofs.Tryz
variable {x:Rc}{v:Value}{ro:RO}
def lineS(xs:List (List UInt8)):List UInt8:=joinL [32] xs++ [10]
def reachS(x:Rc):List UInt8:=if x.lo=x.hi then decI x.lo else decI x.lo++ [58]++decI x.hi
def compS(x:Rc):List UInt8:=lineS [sComp,reachS x]
def witS(w:Wt):List UInt8:=lineS [sWit,decI w.s.e,decI w.s.n,wordsL.getD w.b.toNat [],decI w.k,if w.sure then sSure else sMaybe]
def printL(b:Bk):List UInt8:=lineS [sChart,decI b.w,decI b.h,decI b.f]++b.cs.flatMap compS++b.ws.flatMap witS
theorem dec_len(n:Nat):(dec n).length≤2:=by unfold dec;split<;>simp
theorem decI_len(n:Int):(decI n).length≤3:=by
 unfold decI
 split
 ·have:=dec_len n.toNat;omega
 ·have:=dec_len (-n).toNat;simp only [List.length_cons];omega
theorem reachS_len(x:Rc):(reachS x).length≤7:=by
 have h1:=decI_len x.lo
 have h2:=decI_len x.hi
 unfold reachS
 split
 ·omega
 ·simp only [List.length_append,List.length_singleton];omega
theorem lineS_len(xs:List (List UInt8)){m:Nat}(h:∀x∈xs,x.length≤m):(joinL [32] xs).length≤xs.length*(m+1)∧(lineS xs).length≤xs.length*(m+1)+1:=by
 have key:(joinL [32] xs).length≤xs.length*(m+1):=by
  cases xs with
  |nil=>simp [joinL]
  |cons x r=>
   have hr:∀r:List (List UInt8),(∀x∈r,x.length≤m)→(r.flatMap ([32]++ ·)).length≤r.length*(m+1):=by
    intro r
    induction r with
    |nil=>intro _;simp
    |cons y r ih=>
     intro h
     have h1:=h y List.mem_cons_self
     have h2:=ih (fun z hz=>h z (List.mem_cons_of_mem _ hz))
     have e:(y::r).length*(m+1)=r.length*(m+1)+(m+1):=by rw [List.length_cons,Nat.add_mul,Nat.one_mul]
     rw [List.flatMap_cons,List.length_append,List.length_append,e]
     simp only [List.length_cons,List.length_nil];omega
   have h1:=h x List.mem_cons_self
   have h2:=hr r (fun z hz=>h z (List.mem_cons_of_mem _ hz))
   have e:(x::r).length*(m+1)=r.length*(m+1)+(m+1):=by rw [List.length_cons,Nat.add_mul,Nat.one_mul]
   rw [e]
   simp only [joinL,List.length_append]
   omega
 refine⟨key, ?_⟩
 unfold lineS
 rw [List.length_append,List.length_singleton];omega
theorem Rc.fine.bd(h:x.fine=true):(-99≤x.lo∧x.lo≤99)∧(-99≤x.hi∧x.hi≤99):=by
 simp only [Rc.fine,isReach,Bool.and_eq_true,decide_eq_true_eq] at h
 omega
theorem flat_bd{α:Type}(f:α→List UInt8){m:Nat}:∀l:List α,(∀x,(f x).length≤m)→(l.flatMap f).length≤l.length*m
 | [],_=>by simp
 |x::l,h=>by
  have h1:=h x
  have h2:=flat_bd f l h
  have e:(x::l).length*m=l.length*m+m:=by rw [List.length_cons,Nat.add_mul,Nat.one_mul]
  rw [List.flatMap_cons,List.length_append,e];omega
theorem compS_mem(x:Rc):∀y∈ [sComp,reachS x],y.length≤7:=by
 have:=reachS_len x
 intro y hy
 simp only [List.mem_cons,List.not_mem_nil,or_false] at hy
 rcases hy with rfl|rfl
 ·decide
 ·exact this
theorem witS_mem(w:Wt):∀y∈ [sWit,decI w.s.e,decI w.s.n,wordsL.getD w.b.toNat [],decI w.k,if w.sure then sSure else sMaybe],y.length≤7:=by
 have h1:=decI_len w.s.e
 have h2:=decI_len w.s.n
 have h3:=decI_len w.k
 intro y hy
 simp only [List.mem_cons,List.not_mem_nil,or_false] at hy
 rcases hy with rfl|rfl|rfl|rfl|rfl|rfl
 ·decide
 ·omega
 ·omega
 ·have key:∀i,(wordsL.getD i []).length≤7:=fun i=>by
   by_cases h:i<8
   ·have:∀j:Fin 8,(wordsL.getD j.val []).length≤7:=by decide
    exact this ⟨i,h⟩
   ·rw [List.getD_eq_getElem?_getD,List.getElem?_eq_none (by show 8≤i;omega)];simp
  exact key _
 ·omega
 ·split<;>decide
theorem words_at{i:Nat}(h:i<8):(wordsL.map strV)[0+((i:Int)).toNat*1]? =some (strV (wordsL.getD i [])):=by
 rw [Int.toNat_natCast,Nat.zero_add,Nat.mul_one,List.getElem?_map,List.getElem?_eq_getElem (by exact h),List.getD_eq_getElem?_getD,List.getElem?_eq_getElem (by exact h)];rfl
theorem Wt.fine.pl{w:Wt}{n:Nat}(h:w.fine n=true):(-99≤w.s.e∧w.s.e≤99)∧(-99≤w.s.n∧w.s.n≤99):=by
 simp only [Wt.fine,isPlace,between,Bool.and_eq_true,decide_eq_true_eq] at h
 omega
variable {main:Bool}{J:Goroutine→Mem→Prop}(hJ:Closed prog main J)
include hJ
theorem line_c{p:Nat}{l:List UInt8}{own:List (Nat×Obj)}{xs:List (List UInt8)}(hb:Bd 160 p l own)(hv:LsT ro v xs)(hc:capOk v)(hn:xs.length≤1000000)(hj:(joinL [32] xs).length≤100000000)(hl:l.length≤100000000):
  CallV prog J (.func (.func 134) [bdV p].toArray [].toArray) [v] ro own fun r ro' pre'=>r= .tuple #[]∧ro'=ro∧Bd 160 p (l++lineS xs) pre':=by
 obtain⟨_,_,rfl⟩:=hv.form
 refine CallV.intro (first:= [_]) (vs:= [_]) (cap:= []) hJ Kr fun c cs tail hret=>enter_X (n:=11) func134 U U (Nl U) ?_
 have C:Ctx prog main J (bf 134 .normal):=⟨hJ,by decide⟩
 refine Xd C fun hok=>Dm C 0 hok U U U<|Dp 1 hok (fun _ _ _ A h=>R.nilC C U (A.w U U) (A.x U U) h)<|Df (off':=0) C 2 hok U U U runUnderlying160 U sizeOf158 U<|Dm C 3 hok U U U<|De 4 (some 8) [] hok (fun _ _ A hk=>?_)
 refine R.callP C U (A.w U U) (A.x U U) (A.s U U) (join_c hJ hv hc hn O Dd) (hk _ _ ⟨QFs.nil, ?_⟩)
 refine Dp 5 hok (fun _ _ _ A h=>R.str C U (A.w U U) (A.x U U) (A.x U U) (b_sadd (by simp only [List.length_cons,List.length_nil];omega)) h)<|De 6 (some 10) [] hok (fun _ _ A hk=>?_)
 refine R.call C U (A.w U U) (A.x U U) (A.s U U) U (write_c hJ hb (by rw [List.length_append];simp only [List.length_cons,List.length_nil];omega) ro) fun w1 ro1 pre1 hl1 hp1=>hk _ _ ⟨QFs.nil, ?_⟩
 obtain⟨rfl,rfl,hb1⟩:=hp1
 refine D.done C hok Kr<|X.fall C U U func134 U (by exact .nil) ?_
 exact hret _ _ _ _ (RO.le_refl _) ⟨rfl,rfl,hb1⟩ (List.Sublist.refl _)
theorem reachField_c(hp:EnvP ro)(h1: -99≤x.lo∧x.lo≤99)(h2: -99≤x.hi∧x.hi≤99):CallP prog J (fnv 136) [x.val] ro (strV (reachS x)):=by
 have l1:=decI_len x.lo
 have l2:=decI_len x.hi
 refine CallP.intro hJ Kr fun c cs tail hret=>enter_X (n:=19) func136 U U (Nl U) ?_
 have C:Ctx prog main J (bf 136 .normal):=⟨hJ,by decide⟩
 refine Xr C U U<|R.box C U U U U fun p1=>Ad C U U<|Xs C<|Xr C U U<|Rf C 0 U U runUnderlying46 U sizeOf3<|Rl C U U isAgg3 V U<|Rf C 1 U U runUnderlying46 U sizeOf3<|Rl C U U isAgg3 V U<|R.int C U U U U b_eql<|R.done C<|X.cond C.1 U (fun g1=>?_) (fun g1=>?_)
 ·have e1:x.lo=x.hi:=eq_of_beq g1
  refine Xr C U U<|Rf C 0 U U runUnderlying46 U sizeOf3<|Rl C U U isAgg3 V U<|R.callP C U U U U (itoaI_c hJ h1.1 h1.2 hp)<|Ad C U U<|Xt C func136<|Hp hret ?_
  rw [reachS,if_pos e1];rfl
 ·have e1:¬x.lo=x.hi:=fun h=>by rw [h] at g1;simp at g1
  refine X.skip C.1<|Xs C<|Xd C fun hok=>Df (off':=0) C 0 hok U U U runUnderlying46 U sizeOf3 U<|D1 C 1 hok U U isAgg3 V U<|Df (off':=1) C 4 hok U U U runUnderlying46 U sizeOf3 U<|D1 C 5 hok U U isAgg3 V U<|De 2 (some 13) [true,false] hok (fun _ _ A hk=>?_)
  refine R.callP C U (A.w U U) (A.x U U) (A.s U U) (itoaI_c hJ h1.1 h1.2 hp) (hk _ _ ⟨(QFs.cons (QF.of U (fun _ _ A h=>R.loadOne C U (A.w U U) (A.x U U) isAgg3 V U h)) QFs.nil), ?_⟩)
  refine Dp 3 hok (fun _ _ _ A h=>R.str C U (A.w U U) (A.x U U) (A.x U U) (b_sadd (by simp only [List.length_append,List.length_cons,List.length_nil];omega)) h)<|De 6 (some 17) [false] hok (fun _ _ A hk=>?_)
  refine R.callP C U (A.w U U) (A.x U U) (A.s U U) (itoaI_c hJ h2.1 h2.2 hp) (hk _ _ ⟨QFs.nil, ?_⟩)
  refine Dp 7 hok (fun _ _ _ A h=>R.str C U (A.w U U) (A.x U U) (A.x U U) (b_sadd (by simp only [List.length_append,List.length_cons,List.length_nil];omega)) h)<|Da C 8 hok U U<|D.done C hok Kr<|Xt C func136<|Hp hret ?_
  rw [reachS,if_neg e1];rfl
theorem print_c{b:Bk}(he:Env ro)(hw:EnvW ro)(hp:EnvP ro)(hv:BkV ro v b)(hs:b.short):
  CallR prog J (fnv 75) [v] ro (fun r _=>r=if checkChart b=0 then .tuple [strV (printL b), .int .i64 0].toArray else .tuple [strV [], .int .i64 (checkChart b)].toArray):=by
 have hv0:=hv
 obtain⟨vc,vw,rfl,hvc,hvw⟩:=hv
 obtain⟨cb,cc,rfl⟩:=hvc.form
 obtain⟨wb,wc,rfl⟩:=hvw.form
 refine CallR.intro hJ Kr fun c cs tail hret=>enter_X (n:=81) func75 U U (Nl U) ?_
 have C:Ctx prog main J (bf 75 .normal):=⟨hJ,by decide⟩
 refine Xr C U U<|R.box C U U U U fun p1=>R.asg C U U U<|Ad C U U<|Xs C<|Xr C U U<|R5 C U U isAgg25 sizeOf25 V Tk5<|R.callP C U U U U (checkChart_c hJ he hv0 hs)<|Ad C U U<|Xr C U U<|Rm C U U<|R.int C U U U U b_neq<|R.done C<|X.cond C.1 U (fun g1=>?_) (fun g1=>?_)
 ·have h1:¬checkChart b=0:=by simpa using g1
  refine Xr C U U<|Rm C U U<|R.asg C U U U<|Ad C U U<|X.ret C U U func75 U (by exact(.tmp U (.tmp U .nil)))<|Hr hret (RO.le_refl _) ?_
  rw [if_neg h1];rfl
 ·have h1:checkChart b=0:=by simpa using g1
  have hg:=good_iff.1 h1
  have hw1:=hg.w
  refine X.skip C.1<|Xr C U U<|R.alloc C U U zeroValue160 U fun p5=>R.done C<|Xr C U U<|R.makeFunc C U U U U<|R.asg C U U U<|Ad C U U<|Xs C<|Xd C fun hok=>Dm C 0 hok U U U<|Dm C 1 hok U U U<|Df (off':=0) C 2 hok U U U runUnderlying25 U sizeOf3 U<|D1 C 3 hok U U isAgg3 V U<|Dm C 5 hok U U U<|Df (off':=1) C 6 hok U U U runUnderlying25 U sizeOf3 U<|D1 C 7 hok U U isAgg3 V U<|Dm C 9 hok U U U<|Df (off':=2) C 10 hok U U U runUnderlying25 U sizeOf3 U<|D1 C 11 hok U U isAgg3 V U<|De 4 (some 23) [true,true,false] hok (fun _ _ A hk=>?_)
  refine R.callP C U (A.w U U) (A.x U U) (A.s U U) (itoaI_c hJ O O hp) (hk _ _ ⟨(QFs.cons (QF.of U (fun _ _ A h=>R.loadOne C U (A.w U U) (A.x U U) isAgg3 V U h)) (QFs.cons (QF.of U (fun _ _ A h=>R.loadOne C U (A.w U U) (A.x U U) isAgg3 V U h)) QFs.nil)), ?_⟩)
  refine De 8 (some 27) [true,false] hok (fun _ _ A hk=>?_)
  refine R.callP C U (A.w U U) (A.x U U) (A.s U U) (itoaI_c hJ (by have:=hg.h;omega) (by have:=hg.h;omega) hp) (hk _ _ ⟨(QFs.cons (QF.of U (fun _ _ A h=>R.loadOne C U (A.w U U) (A.x U U) isAgg3 V U h)) QFs.nil), ?_⟩)
  refine De 12 (some 31) [false] hok (fun _ _ A hk=>?_)
  refine R.callP C U (A.w U U) (A.x U U) (A.s U U) (itoaI_c hJ (by have:=hg.f;omega) (by have:=hg.f;omega) hp) (hk _ _ ⟨QFs.nil, ?_⟩)
  refine De 13 (some 32) [] hok (fun _ _ A hk=>?_)
  refine R.buildSlice C (vs:=_) U (A.w U U) (show pvals _ _=some (numbered 0 [_,_,_,_]) from(A.p U U)) U runUnderlying167 sizeOf9 zeroValue9 Dd ((.cons U U (.cons U U (.cons U U (.cons U U .nil))))) fun p32=>hk _ _ ⟨QFs.nil, ?_⟩
  refine De 14 (some 33) [] hok (fun _ _ A hk=>?_)
  refine R.persist C.1 fun ro2 hl2 h32=>?_
  have hls:LsT ro2 (.slice (some ⟨p32,0,none⟩) 4 4) [sChart,decI b.w,decI b.h,decI b.f]:=⟨some ⟨p32,0,none⟩,4,rfl, .inr ⟨p32,0,_,_,_,rfl,h32,Tk4⟩⟩
  have hm0:∀y∈ [sChart,decI b.w,decI b.h,decI b.f],y.length≤5:=by
   have d1:=decI_len b.w
   have d2:=decI_len b.h
   have d3:=decI_len b.f
   intro y hy
   simp only [List.mem_cons,List.not_mem_nil,or_false] at hy
   rcases hy with rfl|rfl|rfl|rfl<;>first|decide|omega
  have hln0:=lineS_len _ hm0
  simp only [List.length_cons,List.length_nil] at hln0
  generalize hL0:lineS [sChart,decI b.w,decI b.h,decI b.f]=L0 at hln0
  refine R.call C U (A.w U U) (A.x U U) (A.s U U) (pre:= [_]) U (line_c hJ (l:= []) (.mk (show BOk 160 by unfold BOk;kernel_rfl) (.inl U) (show Buf 5 1 [] _ (bys []) [] from .nil)) hls ⟨_,_,_,rfl,Nat.le_refl _⟩ Zi O Zi) fun w1 ro3 pre3 hl3 hp3=>hk _ _ ⟨QFs.nil, ?_⟩
  obtain⟨rfl,rfl,hb3⟩:=hp3
  rw [List.nil_append,hL0] at hb3
  refine D.done C hok Kr<|Xs C<|Xr C U U<|Rf C 3 U U runUnderlying25 U sizeOf22<|R.loadOne C U U U isAgg22 Vm U<|Rn C U U runUnderlying22<|Rm C U U<|R.done C<|X.block C.1<|X.loopI (ι:=Nat×RO×List (Nat×Obj)) C.1 (fun s=>s.1≤b.cs.length∧ro3.le s.2.1∧Bd 160 p5 (L0++(b.cs.take s.1).flatMap compS) s.2.2)
   (fun s=> [(1,bdV p1),(5,bdV p5),(6, .func (.func 134) [bdV p5].toArray [].toArray),(7,fnv 135),(35, .slice cb b.cs.length cc),(36, .int .i64 (b.cs.length:Int)),(37, .int .i64 (s.1:Int))])
   (fun s=>⟨s.2.1,s.2.2++((p1, .cells [.int .i64 b.w, .int .i64 b.h, .int .i64 b.f, .slice cb b.cs.length cc, .slice wb b.ws.length wc].toArray 25 (0,0))::tail)⟩) (fun s=>b.cs.length-s.1) (0,ro3,pre3) ⟨Nat.zero_le _,RO.le_refl _,by simpa using hb3⟩ rfl ⟨U,U,U,U,U,U,U,trivial⟩ fun s hs' hnext=>?_
  obtain⟨i,ro4,q4⟩:=s
  obtain⟨hi,hle4,hb4⟩:=hs'
  simp only at hi hle4 hb4 hnext⊢
  have hl4:=RO.le_trans hl2 hle4
  have hnc:=hg.nc
  have hcl:((b.cs.take i).flatMap compS).length≤3*17:=Nat.le_trans (flat_bd compS (m:=17) _ (fun x=>by have:=(lineS_len _ (compS_mem x)).2;simpa [compS] using this)) (Nat.mul_le_mul_right _ (by rw [List.length_take];omega))
  refine Xr C U U<|R.int C U U U U b_lss<|R.done C<|Xs C<|X.cond C.1 U (fun g2=>?_) (fun g2=>?_)
  ·have hi':i<b.cs.length:=by simp only [dT] at g2;omega
   have htk:b.cs.take (i+1)=b.cs.take i++ [b.cs[i]]:=List.take_succ_eq_append_getElem hi'
   obtain⟨zp,zo,zcap,zl,zt,zfq,hze,hzro,hzsub⟩:=(hvc.mono hl4).at Rc.len O
   cases hze
   have hzi:=hzsub i hi'
   have hxb:=Rc.fine.bd (hg.cs _ (List.getElem_mem hi'))
   have hcm:=compS_mem b.cs[i]
   have hcln:=lineS_len _ hcm
   simp only [List.length_cons,List.length_nil] at hcln
   generalize b.cs[i]=x at htk hzi hxb hcm hcln
   refine X.skip C.1<|Xs C<|X.block C.1<|Xr C U U<|Rx C U U U runUnderlying22 sizeOf46<|R.loadAggRo C U U U isAgg46 sizeOf46 hzro (show Sub (zo+((i:Int)).toNat*2) 2 zl x.cells by rw [Int.toNat_natCast];exact hzi)<|R.alloc C U U zeroValue46 U fun p9=>?_;refine R.store C U U U U sizeOf46 U U U (by repeat (first|exact Uh|apply Ut|apply Upd.app)) Ph2<|R.done C<|X.region C U U<|Rm C U U<|R.loadAgg C U U U isAgg46 sizeOf46 Vm Tk2<|R.callP C U U U U (reachField_c hJ (hp.mono hl4) hxb.1 hxb.2)<|R.buildSlice C (vs:=_) U U (show pvals _ _=some (numbered 0 [_,_]) from rfl) U runUnderlying167 sizeOf9 zeroValue9 Dd ((.cons U U (.cons U U .nil))) fun p44=>R.persist C.1 fun ro5 hl5 h44=>?_
   have hls5:LsT ro5 (.slice (some ⟨p44,0,none⟩) 2 2) [sComp,reachS x]:=⟨some ⟨p44,0,none⟩,2,rfl, .inr ⟨p44,0,_,_,_,rfl,h44,Tk2⟩⟩
   refine R.perm C.1 (List.perm_middle.symm)<|R.call C U U U U U (line_c hJ hb4 hls5 ⟨_,_,_,rfl,Nat.le_refl _⟩ Zi O (by rw [List.length_append];omega)) fun w6 ro6 pre6 hl6 hp6=>?_
   obtain⟨rfl,rfl,hb6⟩:=hp6
   refine R.done C<|X.inBlock C.1<|X.region C U U<|Ra C U U U<|Rm C U U<|R.done C<|X.drop C.1 (own':=pre6++((p1,_)::tail)) (List.Sublist.append_left (List.sublist_cons_self _ _) _)<|X.weaken ?_ (hnext (i+1,ro6,pre6) ⟨hi',RO.le_trans hle4 hl5, ?_⟩ (by simp only;omega))
   ·exact⟨rfl,rfl,rfl,rfl,rfl,rfl,by simp [look],trivial⟩
   ·rw [htk,List.flatMap_append, ←List.append_assoc]
    simpa [compS] using hb6
  ·have hi':i=b.cs.length:=by simp only [dF] at g2;omega
   subst hi'
   rw [List.take_length] at hb4 hcl
   have hL1:(L0++b.cs.flatMap compS).length≤100:=by rw [List.length_append];omega
   generalize hL1d:L0++b.cs.flatMap compS=L1 at hb4 hL1
   have hnw:=hg.nw
   refine X.exit C.1 U<|Xs C<|Xr C U U<|Rf C 4 U U runUnderlying25 U sizeOf23<|R.loadOne C U U U isAgg23 Vm U<|Rn C U U runUnderlying23<|Rm C U U<|R.done C<|X.block C.1<|X.loopI (ι:=Nat×RO×List (Nat×Obj)) C.1 (fun s=>s.1≤b.ws.length∧ro4.le s.2.1∧Bd 160 p5 (L1++(b.ws.take s.1).flatMap witS) s.2.2)
    (fun s=> [(1,bdV p1),(5,bdV p5),(6, .func (.func 134) [bdV p5].toArray [].toArray),(7,fnv 135),(48, .slice wb b.ws.length wc),(49, .int .i64 (b.ws.length:Int)),(50, .int .i64 (s.1:Int))])
    (fun s=>⟨s.2.1,s.2.2++((p1, .cells [.int .i64 b.w, .int .i64 b.h, .int .i64 b.f, .slice cb b.cs.length cc, .slice wb b.ws.length wc].toArray 25 (0,0))::tail)⟩) (fun s=>b.ws.length-s.1) (0,ro4,q4) ⟨Nat.zero_le _,RO.le_refl _,by simpa using hb4⟩ rfl ⟨U,U,U,U,U,U,U,trivial⟩ fun s hs' hnext2=>?_
   obtain⟨i,ro5,q5⟩:=s
   obtain⟨hi,hle5,hb5⟩:=hs'
   simp only at hi hle5 hb5 hnext2⊢
   have hl5:=RO.le_trans hl4 hle5
   have hwl:((b.ws.take i).flatMap witS).length≤5*49:=Nat.le_trans (flat_bd witS (m:=49) _ (fun x=>by have:=(lineS_len _ (witS_mem x)).2;simpa [witS] using this)) (Nat.mul_le_mul_right _ (by rw [List.length_take];omega))
   refine Xr C U U<|R.int C U U U U b_lss<|R.done C<|Xs C<|X.cond C.1 U (fun g3=>?_) (fun g3=>?_)
   ·have hi':i<b.ws.length:=by simp only [dT] at g3;omega
    have htk:b.ws.take (i+1)=b.ws.take i++ [b.ws[i]]:=List.take_succ_eq_append_getElem hi'
    obtain⟨zp,zo,zcap,zl,zt,zfq,hze,hzro,hzsub⟩:=(hvw.mono hl5).at Wt.len O
    cases hze
    have hzi:=hzsub i hi'
    obtain⟨hxs,hxb,hxk⟩:=Wt.fine.ok (hg.ws _ (List.getElem_mem hi'))
    have hxs':=Wt.fine.pl (hg.ws _ (List.getElem_mem hi'))
    have hcm:=witS_mem b.ws[i]
    have hcln:=lineS_len _ hcm
    simp only [List.length_cons,List.length_nil] at hcln
    generalize b.ws[i]=x at htk hzi hxs hxb hxk hxs' hcm hcln
    obtain⟨bb,hbb⟩:∃k:Nat,x.b=(k:Int):=⟨x.b.toNat,O⟩
    obtain⟨_,wfq,hwro⟩:=hw.mono hl5
    refine X.skip C.1<|Xs C<|X.block C.1<|Xr C U U<|Rx C U U U runUnderlying23 sizeOf58<|R.loadAggRo C U U U isAgg58 sizeOf58 hzro (show Sub (zo+((i:Int)).toNat*5) 5 zl x.cells by rw [Int.toNat_natCast];exact hzi)<|R.alloc C U U zeroValue58 U fun p11=>?_;refine R.store C U U U U sizeOf58 U U U (by repeat (first|exact Uh|apply Ut|apply Upd.app)) Ph5<|R.done C<|Xr C U U<|Ad C U U<|Xs C<|Xr C U U<|Rf C 4 U U runUnderlying58 U sizeOf4<|R.loadOne C U U U isAgg4 Vm U<|R.done C<|X.afterI (ι:=Unit) (fun _=>True) (fun _=> [(1,bdV p1),(5,bdV p5),(6, .func (.func 134) [bdV p5].toArray [].toArray),(7,fnv 135),(11,bdV p11),(12,strV (if x.sure then sSure else sMaybe)),(48, .slice (some ⟨zp,zo,none⟩) b.ws.length wc),(49, .int .i64 (b.ws.length:Int)),(50, .int .i64 (i:Int))])
     (fun _=>⟨ro5,(p11, .cells x.cells.toArray 58 (0,0))::(q5++((p1, .cells [.int .i64 b.w, .int .i64 b.h, .int .i64 b.f, .slice cb b.cs.length cc, .slice (some ⟨zp,zo,none⟩) b.ws.length wc].toArray 25 (0,0))::tail))⟩) (fun _ _=>?_) (fun hcont=>?_)
    rotate_left
    ·have _:=hi'
     refine X.cond C.1 U (fun g4=>?_) (fun g4=>?_)
     ·rw [g4] at hcont
      refine X.region C U U<|Ad C U U<|X.weaken ?_ (hcont () trivial)
      exact⟨U,U,U,U,U,U,U,U,U,trivial⟩
     ·rw [g4] at hcont
      refine X.skip C.1<|X.weaken ?_ (hcont () trivial)
      exact⟨U,U,U,U,U,U,U,U,U,trivial⟩
    refine Xd C fun hok=>Dm C 0 hok U U U<|Dm C 1 hok U U U<|Df (off':=0) C 2 hok U U U runUnderlying58 U sizeOf27 U<|Df (off':=0) C 3 hok U U U runUnderlying27 U sizeOf3 U<|Dl 4 hok (fun _ _ A h=>R.loadOne C U (A.w U U) (A.x U U) isAgg3 Vm U h)<|Dm C 6 hok U U U<|Df (off':=0) C 7 hok U U U runUnderlying58 U sizeOf27 U<|Df (off':=1) C 8 hok U U U runUnderlying27 U sizeOf3 U<|Dl 9 hok (fun _ _ A h=>R.loadOne C U (A.w U U) (A.x U U) isAgg3 Vm U h)<|Df (off':=2) C 11 hok U U U runUnderlying58 U sizeOf3 U<|Dl 12 hok (fun _ _ A h=>R.loadOne C U (A.w U U) (A.x U U) isAgg3 Vm U h)<|Dp 13 hok (fun _ _ _ A h=>R.indexAddrA C U (A.w U U) (A.x U U) (A.x U U) runUnderlying164 sizeOf9 O O h)<|Dl 14 hok (fun _ _ A h=>R.loadOneRo C U (A.w U U) (A.x U U) isAgg9 hwro (show(wordsL.map strV)[0+(x.b).toNat*1]? =some (strV (wordsL.getD x.b.toNat [])) by rw [hbb];exact words_at O) h)<|Dm C 15 hok U U U<|Df (off':=3) C 16 hok U U U runUnderlying58 U sizeOf3 U<|Dl 17 hok (fun _ _ A h=>R.loadOne C U (A.w U U) (A.x U U) isAgg3 Vm U h)<|Dm C 19 hok U U U<|De 5 (some 61) [true,true,true,true,false] hok (fun _ _ A hk=>?_)
    refine R.callP C U (A.w U U) (A.x U U) (A.s U U) (itoaI_c hJ hxs'.1.1 hxs'.1.2 (hp.mono hl5)) (hk _ _ ⟨(QFs.cons (QF.of U (fun _ _ A h=>R.loadOne C U (A.w U U) (A.x U U) isAgg3 Vm U h)) (QFs.cons (QF.of U (fun _ _ A h=>R.loadOneRo C U (A.w U U) (A.x U U) isAgg9 hwro (show(wordsL.map strV)[0+(x.b).toNat*1]? =some (strV (wordsL.getD x.b.toNat [])) by rw [hbb];exact words_at O) h)) (QFs.cons (QF.of U (fun _ _ A h=>R.loadOne C U (A.w U U) (A.x U U) isAgg3 Vm U h)) (QFs.cons (QF.of U (fun _ _ A h=>R.loadOne C U (A.w U U) (A.x U U) isAgg3 Vm U h)) QFs.nil)))), ?_⟩)
    refine De 10 (some 66) [true,true,true,false] hok (fun _ _ A hk=>?_)
    refine R.callP C U (A.w U U) (A.x U U) (A.s U U) (itoaI_c hJ hxs'.2.1 hxs'.2.2 (hp.mono hl5)) (hk _ _ ⟨(QFs.cons (QF.of U (fun _ _ A h=>R.loadOne C U (A.w U U) (A.x U U) isAgg3 Vm U h)) (QFs.cons (QF.of U (fun _ _ A h=>R.loadOneRo C U (A.w U U) (A.x U U) isAgg9 hwro (show(wordsL.map strV)[0+(x.b).toNat*1]? =some (strV (wordsL.getD x.b.toNat [])) by rw [hbb];exact words_at O) h)) (QFs.cons (QF.of U (fun _ _ A h=>R.loadOne C U (A.w U U) (A.x U U) isAgg3 Vm U h)) QFs.nil))), ?_⟩)
    refine De 18 (some 74) [false,true,true] hok (fun _ _ A hk=>?_)
    refine R.callP C U (A.w U U) (A.x U U) (A.s U U) (itoaI_c hJ O O (hp.mono hl5)) (hk _ _ ⟨(QFs.cons (QF.of U (fun _ _ A h=>R.loadOneRo C U (A.w U U) (A.x U U) isAgg9 hwro (show(wordsL.map strV)[0+(x.b).toNat*1]? =some (strV (wordsL.getD x.b.toNat [])) by rw [hbb];exact words_at O) h)) (QFs.cons (QF.of U (fun _ _ A h=>R.loadOne C U (A.w U U) (A.x U U) isAgg3 Vm U h)) QFs.nil)), ?_⟩)
    refine De 20 (some 76) [false,false] hok (fun _ _ A hk=>?_)
    refine R.buildSlice C (vs:=_) U (A.w U U) (show pvals _ _=some (numbered 0 [_,_,_,_,_,_]) from(A.p U U)) U runUnderlying167 sizeOf9 zeroValue9 Dd ((.cons U U (.cons U U (.cons U U (.cons U U (.cons U U (.cons U U .nil))))))) fun p76=>hk _ _ ⟨QFs.nil, ?_⟩
    refine De 21 (some 77) [] hok (fun _ _ A hk=>?_)
    refine R.persist C.1 fun ro6 hl6 h76=>?_
    have hls6:LsT ro6 (.slice (some ⟨p76,0,none⟩) 6 6) [sWit,decI x.s.e,decI x.s.n,wordsL.getD x.b.toNat [],decI x.k,if x.sure then sSure else sMaybe]:=⟨some ⟨p76,0,none⟩,6,rfl, .inr ⟨p76,0,_,_,_,rfl,h76,Tk6⟩⟩
    refine R.perm C.1 (List.perm_middle.symm)<|R.call C U (A.w U U) (A.x U U) (A.s U U) U (line_c hJ hb5 hls6 ⟨_,_,_,rfl,Nat.le_refl _⟩ Zi O (by rw [List.length_append];omega)) fun w7 ro7 pre7 hl7 hp7=>hk _ _ ⟨QFs.nil, ?_⟩
    obtain⟨rfl,rfl,hb7⟩:=hp7
    refine D.done C hok Kr<|X.inBlock C.1<|X.region C U U<|Ra C U U U<|Rm C U U<|R.done C<|X.drop C.1 (own':=pre7++((p1,_)::tail)) (List.Sublist.append_left (List.sublist_cons_self _ _) _)<|X.weaken ?_ (hnext2 (i+1,ro7,pre7) ⟨hi',RO.le_trans hle5 hl6, ?_⟩ (by simp only;omega))
    ·exact⟨rfl,rfl,rfl,rfl,rfl,rfl,by simp [look],trivial⟩
    ·rw [htk,List.flatMap_append, ←List.append_assoc]
     simpa [witS] using hb7
   ·have hi':i=b.ws.length:=by simp only [dF] at g3;omega
    subst hi'
    rw [List.take_length] at hb5 hwl
    refine X.exit C.1 U<|Xr C U U<|Rf C 0 U U runUnderlying160 U sizeOf158<|R.call C U U U U U (string_c hJ hb5 (by rw [List.length_append];omega) ro5) fun w8 ro8 pre8 hl8 hp8=>?_
    obtain⟨rfl,rfl,rfl⟩:=hp8
    refine R.asg C U U U<|Ad C U U<|X.ret C U U func75 U (by exact(.tmp U (.tmp U .nil)))<|hret _ _ _ hl5 (by repeat (first|exact List.Sublist.refl _|apply List.Sublist.cons|apply List.sublist_append_of_sublist_right)) ?_
    rw [if_pos h1,printL,hL0,hL1d];rfl
end Go.Lg.B
