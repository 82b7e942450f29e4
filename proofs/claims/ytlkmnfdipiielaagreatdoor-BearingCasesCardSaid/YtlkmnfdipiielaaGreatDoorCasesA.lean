/-
  It is proved that the given function answers true for every input, whatever is scheduled: the statement Cases of the seat. Conditions: none but those of the given statement itself.
-/
import Derived.Test.YtlkmnfdipiielaaGreatDoorKE
import Derived.ChangeArms
import Derived.WideShapes
import Derived.ChangeShapes
import Derived.Conc.Holds
set_option maxRecDepth 100000
set_option linter.all false
namespace Go.Lg
open Go Go.Conc
section
variable {P : Program} {main : Bool} {J : Goroutine → Mem → Prop} {b : Frame} (C : Ctx P main J b) {cs : List Frame} {n : Nat} {ds : List Deferred} {σ₀ σ : Slots} {M : Mem} {ro : RO} {own : List (Nat × Obj)} {k : List Item} {ops : Array Oper} {L : List Nat} {Ql : List Pn} {ty : TypeId} {pos : String} {af : Array Edge} {g : Option (Nat × Bool)} {d i : Nat} {rest : List Nat} {v : Value} {t tt : TypeId} {x y : Operand} {bb off nn : Nat} {fq : Nat × Nat} {l out : List Value}
include C
theorem Rl (ho : ops[i]? = some ⟨some d, .load tt x, ty, pos, af, g⟩) (hx : ev σ x = some (.pointer (some ⟨bb, off, none⟩))) (ht : ∀ w, Sem.run P (Go.isAgg tt) w = .ok false w) (hm : (bb, Obj.cells l.toArray t fq) ∈ own) (hv : l[off]? = some v) (h : R J b cs n ops rest k ds ((d, v) :: σ) ⟨ro, own⟩) (hg : wantedS ops σ ⟨some d, .load tt x, ty, pos, af, g⟩ = some true := by rfl) : R J b cs n ops (i :: rest) k ds σ ⟨ro, own⟩ := R.loadOne C ho hg hx ht hm hv h
theorem R5 (ho : ops[i]? = some ⟨some d, .load tt x, ty, pos, af, g⟩) (hx : ev σ x = some (.pointer (some ⟨bb, off, none⟩))) (ht : ∀ w, Sem.run P (Go.isAgg tt) w = .ok true w) (hz : ∀ w, Sem.run P (Go.sizeOf tt) w = .ok nn w) (hm : (bb, Obj.cells l.toArray t fq) ∈ own) (hs : Sub off nn l out) (h : R J b cs n ops rest k ds ((d, .agg out.toArray) :: σ) ⟨ro, own⟩) (hg : wantedS ops σ ⟨some d, .load tt x, ty, pos, af, g⟩ = some true := by rfl) : R J b cs n ops (i :: rest) k ds σ ⟨ro, own⟩ := R.loadAgg C ho hg hx ht hz hm hs h
theorem Ra {t t' : TypeId} {p q : Int} (ho : ops[i]? = some ⟨some d, .binOp .add t x y t', ty, pos, af, g⟩) (hx : ev σ x = some (.int .i64 p)) (hy : ev σ y = some (.int .i64 q)) (h : R J b cs n ops rest k ds ((d, .int .i64 (p + q)) :: σ) M) (hg : wantedS ops σ ⟨some d, .binOp .add t x y t', ty, pos, af, g⟩ = some true := by rfl) (h1 : -9223372036854775808 ≤ p + q := by omega) (h2 : p + q ≤ 9223372036854775807 := by omega) : R J b cs n ops (i :: rest) k ds σ M := R.int C ho hg hx hy (b_add h1 h2) h
theorem Rn {bb : Option Addr} {len cap : Nat} {e : TypeId} (ho : ops[i]? = some ⟨some d, .call ⟨.builtin .len, #[x], #[t]⟩, ty, pos, af, g⟩) (hx : ev σ x = some (.slice bb len cap)) (hu : ∀ w, Sem.run P (Go.underlying t) w = .ok (.slice e) w) (h : R J b cs n ops rest k ds ((d, .int .i64 (len : Int)) :: σ) M) (hg : wantedS ops σ ⟨some d, .call ⟨.builtin .len, #[x], #[t]⟩, ty, pos, af, g⟩ = some true := by rfl) : R J b cs n ops (i :: rest) k ds σ M := R.lenSlice C ho hg hx hu h
theorem D2 (i : Nat) (hok : drawOk ops = true) (ho : ops[i]? = some ⟨some d, .load tt x, ty, pos, af, g⟩) (hx : ev σ x = some (.pointer (some ⟨bb, off, none⟩))) (ht : ∀ w, Sem.run P (Go.isAgg tt) w = .ok false w) (hm : ro bb = some (Obj.cells l.toArray t fq)) (hv : l[off]? = some v)
    (h : D J b cs n ops σ₀ (i :: L) (⟨i, σ, v⟩ :: Ql) k ds ((d, v) :: σ) ⟨ro, own⟩) (hr : rd ops i x = true := by rfl) (hd : dstAt ops i = some d := by rfl) (hf : freeB ops L i = true := by kernel_rfl) (hg : wantedS ops σ ⟨some d, .load tt x, ty, pos, af, g⟩ = some true := by rfl) : D J b cs n ops σ₀ L Ql k ds σ ⟨ro, own⟩ :=
  D.l hok hd hf (fun _ _ A h => R.loadOneRo C ho (A.w ho hg) (A.x hr hx) ht hm hv h) h
theorem Da (i : Nat) (hok : drawOk ops = true) (ho : ops[i]? = some ⟨some d, .assign x, ty, pos, af, g⟩) (hx : ev σ x = some v) (h : D J b cs n ops σ₀ (i :: L) Ql k ds ((d, v) :: σ) M) (hr : rd ops i x = true := by rfl) (hd : dstAt ops i = some d := by rfl) (hf : freeB ops L i = true := by kernel_rfl) (hg : wantedS ops σ ⟨some d, .assign x, ty, pos, af, g⟩ = some true := by rfl) : D J b cs n ops σ₀ L Ql k ds σ M :=
  D.p hok hd hf (fun _ _ _ A h => R.asg C ho (A.w ho hg) (A.x hr hx) h) h
theorem Ds (i : Nat) {bb : Option Addr} {len cap : Nat} {e : TypeId} (hok : drawOk ops = true) (ho : ops[i]? = some ⟨some d, .call ⟨.builtin .len, #[x], #[t]⟩, ty, pos, af, g⟩) (hx : ev σ x = some (.slice bb len cap)) (hu : ∀ w, Sem.run P (Go.underlying t) w = .ok (.slice e) w) (h : D J b cs n ops σ₀ (i :: L) Ql k ds ((d, .int .i64 (len : Int)) :: σ) M) (hr : rd ops i x = true := by rfl) (hd : dstAt ops i = some d := by rfl) (hf : freeB ops L i = true := by kernel_rfl) (hg : wantedS ops σ ⟨some d, .call ⟨.builtin .len, #[x], #[t]⟩, ty, pos, af, g⟩ = some true := by rfl) : D J b cs n ops σ₀ L Ql k ds σ M :=
  D.p hok hd hf (fun _ _ _ A h => R.lenSlice C ho (A.w ho hg) (A.x hr hx) hu h) h
end
theorem I {α : Sort _} {a : α} : a = a := rfl
theorem dT {p : Prop} [Decidable p] : (decide p = true) = p := decide_eq_true_eq
theorem dF {p : Prop} [Decidable p] : (decide p = false) = ¬ p := propext decide_eq_false_iff_not
end Go.Lg
namespace Go.Lg
open Go Go.Conc
section
variable {P : Program} {main : Bool} {J : Goroutine → Mem → Prop} {b : Frame} (C : Ctx P main J b) {cs : List Frame} {n : Nat} {ds : List Deferred} {σ : Slots} {ro : RO} {own : List (Nat × Obj)} {k : List Item} {ops : Array Oper} {i : Nat} {rest : List Nat}
 {dst : Option Nat} {ty : TypeId} {pos : String} {af : Array Edge} {g : Option (Nat × Bool)}
include C
end
end Go.Lg
namespace Go.Lg.B
open Go Go.Conc Go.Lg Go.Proofs Go.Proofs.Tryz
theorem compact_len (l : List Int) : ∀ i, (compactL (l.take i)).length ≤ i
 | 0 => by simp [compactL]
 | i + 1 => by
  by_cases h : i < l.length
  ·rw [compact_take h]
   have := compact_len l i
   unfold cstep; split <;> simp <;> omega
  ·rw [List.take_of_length_le (by omega)]
   have := compact_len l i
   rw [List.take_of_length_le (by omega)] at this
   omega
variable {main : Bool} {J : Goroutine → Mem → Prop} (hJ : Closed prog main J)
include hJ
end Go.Lg.B
namespace Go.Lg
open Go Go.Conc
end Go.Lg
namespace Go.Lg.B
open Go Go.Conc Go.Lg Go.Proofs Go.Proofs.Tryz
theorem sameInts_iff {a c : List Int} : sameInts a c = decide (a = c) := by
 unfold sameInts earlier
 have h := cmpL_flip a c
 by_cases e : a = c
 ·subst e; simp [cmpL_refl]
 ·have : cmpL a c ≠ 0 := fun h => e (cmpL_zero h)
  rw [decide_eq_false e]
  by_cases h1 : cmpL a c < 0
  ·simp [h1]
  ·have h2 : cmpL c a < 0 := by omega
   simp [h2]
variable {main : Bool} {J : Goroutine → Mem → Prop} (hJ : Closed prog main J)
include hJ
end Go.Lg.B
namespace Go.Lg
open Go
abbrev roOf (W : World) : RO := fun b => W.heap[b]?
theorem Sub.of_get {off n : Nat} {l out : List Value} (hn : off + n ≤ l.length) (ho : out.length = n) (h : ∀ i, i < n → l[off + i]? = out[i]?) : Sub off n l out := by
 have e : out = (l.drop off).take n := by
  refine List.ext_getElem? fun i => ?_
  by_cases hi : i < n
  ·rw [← h i hi, List.getElem?_take_of_lt hi, List.getElem?_drop]
  ·rw [List.getElem?_eq_none (by omega), List.getElem?_eq_none (by simp; omega)]
 rw [e]; exact Sub.of hn
theorem cell_block {W : World} {a : Addr} {v : Value} (h : W.cell? a = some v) : a.spot = none ∧ ∃ l t fq, W.heap[a.block]? = some (.cells l t fq) ∧ l[a.off]? = some v := by
 unfold World.cell? at h
 split at h
 ·rename_i c t fq hc
  split at h
  ·cases h
  ·rename_i hs
   exact ⟨by simpa using hs, c, t, fq, hc, h⟩
 ·cases h
theorem cells_get {W : World} {base : Nat} {a : Addr} {n : Nat} {l : List Value} (h : W.cells? base a n = some l) : l.length = n ∧ ∀ i, i < n → W.cell? (a.add i) = l[i]? := by
 unfold World.cells? at h
 split at h
 ·refine ⟨by simpa using mapM_some_length h, fun i hi => mapM_some_get h i i (by simp [hi])⟩
 ·cases h
theorem add_add (a : Addr) (i j : Nat) : (a.add i).add j = a.add (i + j) := by
 by_cases h1 : i = 0 <;> by_cases h2 : j = 0 <;> simp [Addr.add, h1, h2] <;> omega
theorem add_none {a : Addr} (h : a.spot = none) (i : Nat) : a.add i = ⟨a.block, a.off + i, none⟩ := by
 obtain ⟨b, o, s⟩ := a
 subst h
 by_cases h1 : i = 0 <;> simp [Addr.add, h1]
section
variable {H : Type} {enc0 : TypeId × Value → H} {P : Program} {W : World} {base : Nat} {sp : Nat → Bool} {held : Bool}
theorem ls_of_trod {α : Type} {enc : α → List Value} {k : Nat} {t e : TypeId} {fuel : Nat} {cs : List Value} {x : DataW H × List MemPlace} (ht : P.underlying t = some (.slice e)) (hc : P.cellsOf e = k) (hk : 0 < k) (hlen : ∀ x, (enc x).length = k)
  (hel : ∀ n cs z, DataW.trod enc0 P W base sp held n e cs = some z → ∃ y, cs = enc y) (h : DataW.trod enc0 P W base sp held fuel t cs = some x) : ∃ v xs, cs = [v] ∧ Ls enc k (roOf W) v xs := by
 subst hc
 rcases DataW.trod_slice ht h with ⟨rfl, _⟩ | ⟨a, len, cap, elems, rest, n, _, rfl, _, hb, hl, _, hlen2, hel2, _⟩
 ·exact ⟨_, [], rfl, .nil⟩
 ·have one : ∀ i, i < len → ∃ y : α, W.cells? base (a.add (i * P.cellsOf e)) (P.cellsOf e) = some (enc y) := fun i hi => by
   have h1 := hel2 i hi
   rw [List.getElem?_eq_getElem (by omega)] at h1
   obtain ⟨l, h2, h3⟩ := Option.bind_eq_some_iff.1 h1
   obtain ⟨y, rfl⟩ := hel _ _ _ h3
   exact ⟨y, h2⟩
  have all : ∀ m, m ≤ len → ∃ ys : List α, ys.length = m ∧ ∀ j, j < m * P.cellsOf e → W.cell? (a.add j) = (ys.flatMap enc)[j]? := by
   intro m
   induction m with
   | zero => exact fun _ => ⟨[], rfl, fun j hj => by omega⟩
   | succ m ih =>
    intro hm
    obtain ⟨ys, h1, h2⟩ := ih (by omega)
    obtain ⟨y, hy⟩ := one m (by omega)
    refine ⟨ys ++ [y], by simp [h1], fun j hj => ?_⟩
    have hfl : (ys.flatMap enc).length = m * P.cellsOf e := by rw [flatMap_len hlen, h1]
    rw [List.flatMap_append]
    by_cases hjm : j < m * P.cellsOf e
    ·rw [List.getElem?_append_left (by omega)]; exact h2 j hjm
    ·rw [List.getElem?_append_right (by omega), hfl]
     have := (cells_get hy).2 (j - m * P.cellsOf e) (by rw [Nat.succ_mul] at hj; omega)
     simp only [List.flatMap_cons, List.flatMap_nil, List.append_nil]
     rw [← this, add_add]
     congr 2
     omega
  obtain ⟨ys, h1, h2⟩ := all len (Nat.le_refl _)
  refine ⟨_, ys, rfl, some a, cap, by rw [h1], ?_⟩
  by_cases h0 : len = 0
  ·exact .inl (List.eq_nil_of_length_eq_zero (by omega))
  ·right
   have hfl : (ys.flatMap enc).length = len * P.cellsOf e := by rw [flatMap_len hlen, h1]
   have hpos : 0 < len * P.cellsOf e := Nat.mul_pos (by omega) hk
   have hlast := h2 (len * P.cellsOf e - 1) (by omega)
   rw [List.getElem?_eq_getElem (by omega)] at hlast
   have hfirst := h2 0 hpos
   rw [List.getElem?_eq_getElem (by omega)] at hfirst
   have hs : a.spot = none := (cell_block hfirst).1
   rw [add_none hs] at hlast
   obtain ⟨_, l, t', fq, hh, hl2⟩ := cell_block hlast
   refine ⟨a.block, a.off, l.toList, t', fq, by obtain ⟨ab, ao, az⟩ := a; subst hs; rfl, by rw [Array.toArray_toList]; exact hh, ?_⟩
   rw [h1]
   have hlt : a.off + (len * P.cellsOf e - 1) < l.size := (Array.getElem?_eq_some_iff.1 hl2).1
   refine Sub.of_get (by simp; omega) hfl fun i hi => ?_
   have := h2 i hi
   rw [add_none hs] at this
   unfold World.cell? at this
   simp only at this
   rw [hh] at this
   simpa using this
theorem int_of_trod {t : TypeId} {k : IntKind} {fuel : Nat} {cs : List Value} {x : DataW H × List MemPlace} (ht : P.underlying t = some (.int k)) (h : DataW.trod enc0 P W base sp held fuel t cs = some x) : ∃ n, cs = [.int k n] ∧ (Lit.int k n).wf = true := by
 cases fuel with
 | zero => simp [DataW.trod] at h
 | succ n =>
  unfold DataW.trod at h
  rw [ht] at h
  split at h <;> simp_all
theorem bool_of_trod {t : TypeId} {fuel : Nat} {cs : List Value} {x : DataW H × List MemPlace} (ht : P.underlying t = some .bool) (h : DataW.trod enc0 P W base sp held fuel t cs = some x) : ∃ b, cs = [.bool b] := by
 cases fuel with
 | zero => simp [DataW.trod] at h
 | succ n =>
  unfold DataW.trod at h
  rw [ht] at h
  split at h <;> simp_all
end
end Go.Lg
namespace Go.Lg.B
open Go Go.Conc Go.Lg Go.Proofs Go.WideShapes Go.ChangeShapes Go.Proofs.Tryz
set_option maxRecDepth 100000
theorem cells3 : prog.cellsOf 3 = 1 := by kernel_rfl
theorem cells4 : prog.cellsOf 4 = 1 := by kernel_rfl
theorem cells22 : prog.cellsOf 22 = 1 := by kernel_rfl
theorem cells23 : prog.cellsOf 23 = 1 := by kernel_rfl
theorem cells25 : prog.cellsOf 25 = 5 := by kernel_rfl
theorem cells27 : prog.cellsOf 27 = 2 := by kernel_rfl
theorem cells46 : prog.cellsOf 46 = 2 := by kernel_rfl
theorem cells58 : prog.cellsOf 58 = 5 := by kernel_rfl
section
variable {H : Type} {enc0 : TypeId × Value → H} {W : World} {base : Nat} {sp : Nat → Bool} {held : Bool}
theorem field_of {P : Program} {t : TypeId} {fs : Array Field} {fuel : Nat} {cs : List Value} {x : DataW H × List MemPlace} (ht : P.underlying t = some (.struct fs)) (h : DataW.trod enc0 P W base sp held fuel t cs = some x) :
  cs.length = P.cellsOf t ∧ ∀ (i : Nat) (f : Field), fs[i]? = some f → ∃ n z, DataW.trod enc0 P W base sp held n f.type ((cs.drop f.offset).take (P.cellsOf f.type)) = some z := by
 obtain ⟨xs, n, _, _, h1, h2, h3⟩ := DataW.trod_struct ht h
 refine ⟨h1, fun i f hf => ?_⟩
 have hi : i < xs.length := by rw [h2]; exact (Array.getElem?_eq_some_iff.1 hf).1
 exact ⟨n, xs[i], by rw [h3 i f hf, List.getElem?_eq_getElem hi]⟩
theorem sq_of {n : Nat} {cs : List Value} {z : DataW H × List MemPlace} (h : DataW.trod enc0 prog W base sp held n 27 cs = some z) : ∃ s : Sq, cs = s.cells := by
 obtain ⟨hl, hf⟩ := field_of underlying27 h
 rw [cells27] at hl
 match cs, hl with
 | [a, c], _ =>
  have g0 : ∃ n z, DataW.trod enc0 prog W base sp held n 3 (([a, c].drop 0).take (prog.cellsOf 3)) = some z := hf 0 _ rfl
  rw [cells3] at g0
  obtain ⟨_, _, h0⟩ := g0
  have g1 : ∃ n z, DataW.trod enc0 prog W base sp held n 3 (([a, c].drop 1).take (prog.cellsOf 3)) = some z := hf 1 _ rfl
  rw [cells3] at g1
  obtain ⟨_, _, h1⟩ := g1
  obtain ⟨x0, e0, _⟩ := int_of_trod underlying3 h0
  obtain ⟨x1, e1, _⟩ := int_of_trod underlying3 h1
  simp at e0 e1
  subst e0; subst e1
  exact ⟨⟨x0, x1⟩, rfl⟩
theorem rc_of {n : Nat} {cs : List Value} {z : DataW H × List MemPlace} (h : DataW.trod enc0 prog W base sp held n 46 cs = some z) : ∃ s : Rc, cs = s.cells := by
 obtain ⟨hl, hf⟩ := field_of underlying46 h
 rw [cells46] at hl
 match cs, hl with
 | [a, c], _ =>
  have g0 : ∃ n z, DataW.trod enc0 prog W base sp held n 3 (([a, c].drop 0).take (prog.cellsOf 3)) = some z := hf 0 _ rfl
  rw [cells3] at g0
  obtain ⟨_, _, h0⟩ := g0
  have g1 : ∃ n z, DataW.trod enc0 prog W base sp held n 3 (([a, c].drop 1).take (prog.cellsOf 3)) = some z := hf 1 _ rfl
  rw [cells3] at g1
  obtain ⟨_, _, h1⟩ := g1
  obtain ⟨x0, e0, _⟩ := int_of_trod underlying3 h0
  obtain ⟨x1, e1, _⟩ := int_of_trod underlying3 h1
  simp at e0 e1
  subst e0; subst e1
  exact ⟨⟨x0, x1⟩, rfl⟩
theorem wt_of {n : Nat} {cs : List Value} {z : DataW H × List MemPlace} (h : DataW.trod enc0 prog W base sp held n 58 cs = some z) : ∃ s : Wt, cs = s.cells := by
 obtain ⟨hl, hf⟩ := field_of underlying58 h
 rw [cells58] at hl
 match cs, hl with
 | [a, c, d, e, f], _ =>
  have g0 : ∃ n z, DataW.trod enc0 prog W base sp held n 27 (([a, c, d, e, f].drop 0).take (prog.cellsOf 27)) = some z := hf 0 _ rfl
  rw [cells27] at g0
  obtain ⟨_, _, h0⟩ := g0
  have g1 : ∃ n z, DataW.trod enc0 prog W base sp held n 3 (([a, c, d, e, f].drop 2).take (prog.cellsOf 3)) = some z := hf 1 _ rfl
  rw [cells3] at g1
  obtain ⟨_, _, h1⟩ := g1
  have g2 : ∃ n z, DataW.trod enc0 prog W base sp held n 3 (([a, c, d, e, f].drop 3).take (prog.cellsOf 3)) = some z := hf 2 _ rfl
  rw [cells3] at g2
  obtain ⟨_, _, h2⟩ := g2
  have g3 : ∃ n z, DataW.trod enc0 prog W base sp held n 4 (([a, c, d, e, f].drop 4).take (prog.cellsOf 4)) = some z := hf 3 _ rfl
  rw [cells4] at g3
  obtain ⟨_, _, h3⟩ := g3
  obtain ⟨s, e0⟩ := sq_of h0
  obtain ⟨x1, e1, _⟩ := int_of_trod underlying3 h1
  obtain ⟨x2, e2, _⟩ := int_of_trod underlying3 h2
  obtain ⟨x3, e3⟩ := bool_of_trod underlying4 h3
  simp [Sq.cells] at e0 e1 e2 e3
  obtain ⟨rfl, rfl⟩ := e0
  subst e1; subst e2; subst e3
  exact ⟨⟨s, x1, x2, x3⟩, rfl⟩
theorem rcs_of {n : Nat} {cs : List Value} {z : DataW H × List MemPlace} (h : DataW.trod enc0 prog W base sp held n 22 cs = some z) : ∃ v xs, cs = [v] ∧ Ls Rc.cells 2 (fun b => W.heap[b]?) v xs :=
 ls_of_trod underlying22 cells46 (by decide) Rc.len (fun _ _ _ h => rc_of h) h
theorem wts_of {n : Nat} {cs : List Value} {z : DataW H × List MemPlace} (h : DataW.trod enc0 prog W base sp held n 23 cs = some z) : ∃ v xs, cs = [v] ∧ Ls Wt.cells 5 (fun b => W.heap[b]?) v xs :=
 ls_of_trod underlying23 cells58 (by decide) Wt.len (fun _ _ _ h => wt_of h) h
theorem argSq {r : Reach} {b0 : Nat} {v : Value} {d : DataW H} {p : List MemPlace} (hv : Value.okWide prog W r b0 27 v) (h : DataW.Trod enc0 prog W base sp held 27 v d p) : ∃ s : Sq, v = s.val := by
 obtain ⟨cs, rfl, _⟩ := okWide_struct underlying27 hv
 obtain ⟨n, h⟩ := h
 obtain ⟨s, e⟩ := sq_of h
 exact ⟨s, by rw [Sq.val, ← e]; rfl⟩
theorem argBk {r : Reach} {b0 : Nat} {v : Value} {d : DataW H} {p : List MemPlace} (hv : Value.okWide prog W r b0 25 v) (h : DataW.Trod enc0 prog W base sp held 25 v d p) : ∃ b, BkV (fun b => W.heap[b]?) v b := by
 obtain ⟨⟨cs⟩, rfl, _⟩ := okWide_struct underlying25 hv
 obtain ⟨n, h⟩ := h
 obtain ⟨hl, hf⟩ := field_of (cs := cs) underlying25 h
 rw [cells25] at hl
 match cs, hl with
 | [a, c, d, e, f], _ =>
  have g0 : ∃ n z, DataW.trod enc0 prog W base sp held n 3 (([a, c, d, e, f].drop 0).take (prog.cellsOf 3)) = some z := hf 0 _ rfl
  rw [cells3] at g0
  obtain ⟨_, _, h0⟩ := g0
  have g1 : ∃ n z, DataW.trod enc0 prog W base sp held n 3 (([a, c, d, e, f].drop 1).take (prog.cellsOf 3)) = some z := hf 1 _ rfl
  rw [cells3] at g1
  obtain ⟨_, _, h1⟩ := g1
  have g2 : ∃ n z, DataW.trod enc0 prog W base sp held n 3 (([a, c, d, e, f].drop 2).take (prog.cellsOf 3)) = some z := hf 2 _ rfl
  rw [cells3] at g2
  obtain ⟨_, _, h2⟩ := g2
  have g3 : ∃ n z, DataW.trod enc0 prog W base sp held n 22 (([a, c, d, e, f].drop 3).take (prog.cellsOf 22)) = some z := hf 3 _ rfl
  rw [cells22] at g3
  obtain ⟨_, _, h3⟩ := g3
  have g4 : ∃ n z, DataW.trod enc0 prog W base sp held n 23 (([a, c, d, e, f].drop 4).take (prog.cellsOf 23)) = some z := hf 4 _ rfl
  rw [cells23] at g4
  obtain ⟨_, _, h4⟩ := g4
  obtain ⟨x0, e0, _⟩ := int_of_trod underlying3 h0
  obtain ⟨x1, e1, _⟩ := int_of_trod underlying3 h1
  obtain ⟨x2, e2, _⟩ := int_of_trod underlying3 h2
  obtain ⟨v3, x3, e3, l3⟩ := rcs_of h3
  obtain ⟨v4, x4, e4, l4⟩ := wts_of h4
  simp at e0 e1 e2 e3 e4
  subst e0; subst e1; subst e2; subst e3; subst e4
  exact ⟨⟨x0, x1, x2, x3, x4⟩, _, _, rfl, l3, l4⟩
theorem argInt {r : Reach} {b0 : Nat} {v : Value} {d : DataW H} {p : List MemPlace} (hv : Value.okWide prog W r b0 3 v) (h : DataW.Trod enc0 prog W base sp held 3 v d p) : ∃ n, v = .int .i64 n ∧ -9223372036854775808 ≤ n ∧ n ≤ 9223372036854775807 := by
 obtain ⟨x, rfl, _, _, wx⟩ := open_int underlying3 hv h
 exact ⟨x, rfl, by simpa [Lit.wf, IntKind.min, IntKind.max, IntKind.signed, IntKind.bits] using wx⟩
end
end Go.Lg.B
namespace Go.Lg.B
open Go Go.Conc Go.Lg Go.Proofs Go.Proofs.Tryz
def trueOf (x y : Int) : Int :=
 if 12 * min (max x (-x)) (max y (-y)) ≤ 5 * max (max x (-x)) (max y (-y)) then (if max x (-x) > max y (-y) then (if x > 0 then 2 else 6) else if y > 0 then 0 else 4)
 else if x > 0 then (if y > 0 then 1 else 3) else if y > 0 then 7 else 5
theorem trueOf_bearing (a z : Sq) : trueOf (z.e - a.e) (z.n - a.n) = bearing a z := by
 generalize hx : z.e - a.e = x
 generalize hy : z.n - a.n = y
 simp only [bearing, aside, hx, hy, trueOf]
 repeat' split
 all_goals first | rfl | (exfalso; simp_all; done) | (exfalso; simp_all; omega)
section
variable {main : Bool} {J : Goroutine → Mem → Prop} (hJ : Closed prog main J)
include hJ
theorem nearR_c (s : Sq) (ro : RO) : CallP prog J (fnv 83) [s.val] ro (.bool (isPlace s)) := by
 refine CallP.intro hJ (by kernel_rfl) fun c cs tail hret => enter_X (n := 11) func83 I I (Nl I) ?_
 have C : Ctx prog main J (bf 83 .normal) := ⟨hJ, by decide⟩
 refine Xr C I I<|R.box C I I I I fun p1 => Ad C I I<|Xr C I I<|Rf C 0 I I runUnderlying27 I sizeOf3<|Rl C I I isAgg3 (by repeat constructor) I<|R.callP C I I I I (betweenR_c hJ _ _ _ _)<|Rm C I I<|R.fix (t := 6) I (fun q1 => ?_) (fun q1 => ?_)
 ·have q1 := q1
  refine Rf C 1 I I runUnderlying27 I sizeOf3<|Rl C I I isAgg3 (by repeat constructor) I<|R.callP C I I I I (betweenR_c hJ _ _ _ _)<|R.pickT C I I I I<|Ad C I I<|Xt C func83<|Hp hret ?_
  simp_all [isPlace, retVal]
 ·have q1 := q1
  refine R.pass C I I<|R.pass C I I<|R.pass C I I<|R.pickF C I I I I<|Ad C I I<|Xt C func83<|Hp hret ?_
  simp_all [isPlace, retVal]
theorem insideR_c (x : Rc) (l m : Int) (ro : RO) : CallP prog J (fnv 90) [x.val, .int .i64 l, .int .i64 m] ro (.bool (isReach x l m)) := by
 refine CallP.intro hJ (by kernel_rfl) fun c cs tail hret => enter_X (n := 24) func90 I I (Nl I) ?_
 have C : Ctx prog main J (bf 90 .normal) := ⟨hJ, by decide⟩
 refine Xr C I I<|R.box C I I I I fun p3 => Ad C I I<|Xr C I I<|Rm C I I<|Rf C 0 I I runUnderlying46 I sizeOf3<|Rl C I I isAgg3 (by repeat constructor) I<|R.int C I I I I b_leq<|Rm C I I<|R.fix (t := 11) I (fun q1 => ?_) (fun q1 => ?_)
 ·have q1 := q1
  refine Rf C 0 I I runUnderlying46 I sizeOf3<|Rl C I I isAgg3 (by repeat constructor) I<|Rf C 1 I I runUnderlying46 I sizeOf3<|Rl C I I isAgg3 (by repeat constructor) I<|R.int C I I I I b_leq<|R.pickT C I I I I<|Rm C I I<|R.fix (t := 18) I (fun q2 => ?_) (fun q2 => ?_)
  ·have q2 := q2
   refine Rf C 1 I I runUnderlying46 I sizeOf3<|Rl C I I isAgg3 (by repeat constructor) I<|Rm C I I<|R.int C I I I I b_leq<|R.pickT C I I I I<|Ad C I I<|Xt C func90<|Hp hret ?_
   first | (simp_all [isReach, retVal]; done) | (simp_all [isReach, retVal]; omega)
  ·have q2 := q2
   refine R.pass C I I<|R.pass C I I<|R.pass C I I<|R.pass C I I<|R.pickF C I I I I<|Ad C I I<|Xt C func90<|Hp hret ?_
   first | (simp_all [isReach, retVal]; done) | (simp_all [isReach, retVal]; omega)
 ·have q1 := q1
  refine R.pass C I I<|R.pass C I I<|R.pass C I I<|R.pass C I I<|R.pass C I I<|R.pickF C I I I I<|Rm C I I<|R.pass C I I<|R.pass C I I<|R.pass C I I<|R.pass C I I<|R.pickF C I I I I<|Ad C I I<|Xt C func90<|Hp hret ?_
  first | (simp_all [isReach, retVal]; done) | (simp_all [isReach, retVal]; omega)
theorem isCompassR_c {b : Bk} {v : Value} {ro : RO} (hv : BkV ro v b) (hb : b.short) (k : Int) : CallP prog J (fnv 91) [v, .int .i64 k] ro (.bool (between k 0 (b.cs.length - 1))) := by
 obtain ⟨vc, vw, rfl, hc, hw⟩ := hv
 obtain ⟨h1, h2⟩ := hb
 obtain ⟨b1, c1, rfl⟩ := hc.form
 refine CallP.intro hJ (by kernel_rfl) fun c cs tail hret => enter_X (n := 11) func91 I I (Nl I) ?_
 have C : Ctx prog main J (bf 91 .normal) := ⟨hJ, by decide⟩
 refine Xr C I I<|R.box C I I I I fun p2 => Ad C I I<|Xr C I I<|Rm C I I<|Rf C 3 I I runUnderlying25 I sizeOf22<|Rl C I I isAgg22 (by repeat constructor) I<|Rn C I I runUnderlying22<|R.int C I I I I (b_sub (by omega) (by omega))<|R.callP C I I I I (betweenR_c hJ _ _ _ _)<|Ad C I I<|Xt C func91<|Hp hret ?_
 simp_all [retVal]
theorem isWitnessR_c {b : Bk} {v : Value} {ro : RO} (hv : BkV ro v b) (hb : b.short) (k : Int) : CallP prog J (fnv 112) [v, .int .i64 k] ro (.bool (between k 0 (b.ws.length - 1))) := by
 obtain ⟨vc, vw, rfl, hc, hw⟩ := hv
 obtain ⟨h1, h2⟩ := hb
 obtain ⟨b1, c1, rfl⟩ := hw.form
 refine CallP.intro hJ (by kernel_rfl) fun c cs tail hret => enter_X (n := 11) func112 I I (Nl I) ?_
 have C : Ctx prog main J (bf 112 .normal) := ⟨hJ, by decide⟩
 refine Xr C I I<|R.box C I I I I fun p2 => Ad C I I<|Xr C I I<|Rm C I I<|Rf C 4 I I runUnderlying25 I sizeOf23<|Rl C I I isAgg23 (by repeat constructor) I<|Rn C I I runUnderlying23<|R.int C I I I I (b_sub (by omega) (by omega))<|R.callP C I I I I (betweenR_c hJ _ _ _ _)<|Ad C I I<|Xt C func112<|Hp hret ?_
 simp_all [retVal]
theorem greatR_c {b : Bk} {v : Value} {ro : RO} (hv : BkV ro v b) : CallP prog J (fnv 18) [v] ro (.bool (decide (20 < b.cs.length) || decide (20 < b.ws.length))) := by
 obtain ⟨vc, vw, rfl, hc, hw⟩ := hv
 obtain ⟨b1, c1, rfl⟩ := hc.form
 obtain ⟨b2, c2, rfl⟩ := hw.form
 refine CallP.intro hJ (by kernel_rfl) fun c cs tail hret => enter_X (n := 13) func18 I I (Nl I) ?_
 have C : Ctx prog main J (bf 18 .normal) := ⟨hJ, by decide⟩
 refine Xr C I I<|R.box C I I I I fun p1 => Ad C I I<|Xr C I I<|Rf C 3 I I runUnderlying25 I sizeOf22<|Rl C I I isAgg22 (by repeat constructor) I<|Rn C I I runUnderlying22<|R.int C I I I I b_gtr<|Rm C I I<|R.fix (t := 7) I (fun q1 => ?_) (fun q1 => ?_)
 ·have q1 := q1
  refine R.pass C I I<|R.pass C I I<|R.pass C I I<|R.pass C I I<|R.pickT C I I I I<|Ad C I I<|Xt C func18<|Hp hret ?_
  (simp only [decide_eq_true_eq, decide_eq_false_iff_not, retVal] at *; refine congrArg Value.bool ?_; rw [Bool.eq_iff_iff]; simp; try omega)
 ·have q1 := q1
  refine Rf C 4 I I runUnderlying25 I sizeOf23<|Rl C I I isAgg23 (by repeat constructor) I<|Rn C I I runUnderlying23<|R.int C I I I I b_gtr<|R.pickF C I I I I<|Ad C I I<|Xt C func18<|Hp hret ?_
  (simp only [decide_eq_true_eq, decide_eq_false_iff_not, retVal] at *; refine congrArg Value.bool ?_; rw [Bool.eq_iff_iff]; simp; try omega)
theorem trueOfR_c (x y : Int) (hx : -1000000 ≤ x ∧ x ≤ 1000000) (hy : -1000000 ≤ y ∧ y ≤ 1000000) (ro : RO) : CallP prog J (fnv 84) [.int .i64 x, .int .i64 y] ro (.int .i64 (trueOf x y)) := by
 obtain ⟨x1, x2⟩ := hx
 obtain ⟨y1, y2⟩ := hy
 refine CallP.intro hJ (by kernel_rfl) fun c cs tail hret => enter_X (n := 37) func84 I I (Nl I) ?_
 have C : Ctx prog main J (bf 84 .normal) := ⟨hJ, by decide⟩
 refine Xr C I I<|Ad C I I<|Xr C I I<|Rm C I I<|Rm C I I<|R.neg C I I I (by omega) (by omega)<|R.max2 C I I I I<|Rm C I I<|Rm C I I<|R.neg C I I I (by omega) (by omega)<|R.max2 C I I I I<|R.asg C I I I<|Ad C I I<|Xs C<|Xr C I I<|Rm C I I<|Rm C I I<|R.min2 C I I I I<|R.int C I I I I (b_mul (by omega) (by omega))<|Rm C I I<|Rm C I I<|R.max2 C I I I I<|R.int C I I I I (b_mul (by omega) (by omega))<|R.int C I I I I b_leq<|R.done C<|X.cond C.1 I (fun q1 => ?_) (fun q1 => ?_)
 ·have q1 := q1
  refine Xs C<|Xr C I I<|Rm C I I<|Rm C I I<|R.int C I I I I b_gtr<|R.done C<|X.cond C.1 I (fun q2 => ?_) (fun q2 => ?_)
  ·have q2 := q2
   refine Xs C<|Xr C I I<|Rm C I I<|R.int C I I I I b_gtr<|R.done C<|X.cond C.1 I (fun q3 => ?_) (fun q3 => ?_)
   ·have q3 := q3
    refine Xr C I I<|Ad C I I<|Xt C func84<|Hp hret ?_
    (simp only [decide_eq_true_eq, decide_eq_false_iff_not] at *; simp only [trueOf, retVal]; repeat' split) <;> first | rfl | (exfalso; omega)
   ·have q3 := q3
    refine X.skip C.1<|Xr C I I<|Ad C I I<|Xt C func84<|Hp hret ?_
    (simp only [decide_eq_true_eq, decide_eq_false_iff_not] at *; simp only [trueOf, retVal]; repeat' split) <;> first | rfl | (exfalso; omega)
  ·have q2 := q2
   refine X.skip C.1<|Xs C<|Xr C I I<|Rm C I I<|R.int C I I I I b_gtr<|R.done C<|X.cond C.1 I (fun q4 => ?_) (fun q4 => ?_)
   ·have q4 := q4
    refine Xr C I I<|Ad C I I<|Xt C func84<|Hp hret ?_
    (simp only [decide_eq_true_eq, decide_eq_false_iff_not] at *; simp only [trueOf, retVal]; repeat' split) <;> first | rfl | (exfalso; omega)
   ·have q4 := q4
    refine X.skip C.1<|Xr C I I<|Ad C I I<|Xt C func84<|Hp hret ?_
    (simp only [decide_eq_true_eq, decide_eq_false_iff_not] at *; simp only [trueOf, retVal]; repeat' split) <;> first | rfl | (exfalso; omega)
 ·have q1 := q1
  refine X.skip C.1<|Xs C<|Xr C I I<|Rm C I I<|R.int C I I I I b_gtr<|R.done C<|X.cond C.1 I (fun q5 => ?_) (fun q5 => ?_)
  ·have q5 := q5
   refine Xs C<|Xr C I I<|Rm C I I<|R.int C I I I I b_gtr<|R.done C<|X.cond C.1 I (fun q6 => ?_) (fun q6 => ?_)
   ·have q6 := q6
    refine Xr C I I<|Ad C I I<|Xt C func84<|Hp hret ?_
    (simp only [decide_eq_true_eq, decide_eq_false_iff_not] at *; simp only [trueOf, retVal]; repeat' split) <;> first | rfl | (exfalso; omega)
   ·have q6 := q6
    refine X.skip C.1<|Xr C I I<|Ad C I I<|Xt C func84<|Hp hret ?_
    (simp only [decide_eq_true_eq, decide_eq_false_iff_not] at *; simp only [trueOf, retVal]; repeat' split) <;> first | rfl | (exfalso; omega)
  ·have q5 := q5
   refine X.skip C.1<|Xs C<|Xr C I I<|Rm C I I<|R.int C I I I I b_gtr<|R.done C<|X.cond C.1 I (fun q7 => ?_) (fun q7 => ?_)
   ·have q7 := q7
    refine Xr C I I<|Ad C I I<|Xt C func84<|Hp hret ?_
    (simp only [decide_eq_true_eq, decide_eq_false_iff_not] at *; simp only [trueOf, retVal]; repeat' split) <;> first | rfl | (exfalso; omega)
   ·have q7 := q7
    refine X.skip C.1<|Xr C I I<|Ad C I I<|Xt C func84<|Hp hret ?_
    (simp only [decide_eq_true_eq, decide_eq_false_iff_not] at *; simp only [trueOf, retVal]; repeat' split) <;> first | rfl | (exfalso; omega)
end
end Go.Lg.B
namespace Go.Lg.B
open Go Go.Conc Go.Lg Go.Proofs Go.Proofs.Tryz
theorem rz_iff {k : Int} : ∀ {m : Nat} {n : Int}, k ∈ rz n m ↔ n ≤ k ∧ k < n + m
 | 0, n => by simp only [rz, List.not_mem_nil, false_iff]; omega
 | m + 1, n => by rw [rz, List.mem_cons, rz_iff]; omega
theorem ups_iff {k : Nat} : ∀ {m n : Nat}, k ∈ ups n m ↔ n ≤ k ∧ k < n + m
 | 0, n => by simp only [ups, List.not_mem_nil, false_iff]; omega
 | m + 1, n => by rw [ups, List.mem_cons, ups_iff]; omega
theorem maskOf_bit (p : Nat → Bool) (i : Nat) : ∀ n, (maskOf p n).testBit i = (decide (i < n) && p i)
 | 0 => by simp [maskOf]
 | n + 1 => by
  simp only [maskOf]
  by_cases h : p n = true
  ·rw [if_pos h, Nat.testBit_or, maskOf_bit, Nat.testBit_two_pow]
   by_cases e : i = n
   ·subst e; simp [h]
   ·have : (i < n + 1) ↔ i < n := by omega
    simp [Ne.symm e, this]
  ·rw [if_neg h, maskOf_bit]
   by_cases e : i = n
   ·subst e; simp [h]
   ·have : (i < n + 1) ↔ i < n := by omega
    simp [this]
theorem andNot_zero {a c : Nat} : (andNot a c == 0) = true ↔ ∀ i, a.testBit i = true → c.testBit i = true := by
 rw [beq_iff_eq]
 constructor
 ·intro h i ha
  have := congrArg (fun x => x.testBit i) h
  simp only [andNot, Nat.testBit_xor, Nat.testBit_and, ha, Nat.zero_testBit] at this
  cases hc : c.testBit i
  ·rw [hc] at this; simp at this
  ·rfl
 ·intro h
  refine Nat.eq_of_testBit_eq fun i => ?_
  simp only [andNot, Nat.testBit_xor, Nat.testBit_and, Nat.zero_testBit]
  cases ha : a.testBit i
  ·simp
  ·simp [h i ha]
theorem and_zero {a c : Nat} : (a &&& c == 0) = true ↔ ∀ i, a.testBit i = true → c.testBit i = false := by
 rw [beq_iff_eq]
 constructor
 ·intro h i ha
  have := congrArg (fun x => x.testBit i) h
  simpa only [Nat.testBit_and, ha, Nat.zero_testBit, Bool.true_and] using this
 ·intro h
  refine Nat.eq_of_testBit_eq fun i => ?_
  simp only [Nat.testBit_and, Nat.zero_testBit]
  cases ha : a.testBit i
  ·simp
  ·simp [h i ha]
theorem bits_mem (m : Nat) (k : Int) : ∀ n, k ∈ bitsUpto m n ↔ ∃ i : Nat, i < n ∧ m.testBit i = true ∧ k = i
 | 0 => by simp [bitsUpto]
 | n + 1 => by
  simp only [bitsUpto]
  have ih := bits_mem m k n
  by_cases h : m.testBit n = true
  ·rw [if_pos h, List.mem_append, ih, List.mem_singleton]
   constructor
   ·rintro (⟨i, h1, h2, h3⟩ | rfl)
    ·exact ⟨i, by omega, h2, h3⟩
    ·exact ⟨n, by omega, h, rfl⟩
   ·rintro ⟨i, h1, h2, h3⟩
    by_cases e : i = n
    ·exact .inr (by rw [h3, e])
    ·exact .inl ⟨i, by omega, h2, h3⟩
  ·rw [if_neg h, ih]
   constructor
   ·rintro ⟨i, h1, h2, h3⟩; exact ⟨i, by omega, h2, h3⟩
   ·rintro ⟨i, h1, h2, h3⟩
    by_cases e : i = n
    ·rw [e] at h2; exact absurd h2 h
    ·exact ⟨i, by omega, h2, h3⟩
theorem bits_up (m : Nat) : ∀ n, List.Pairwise (· < ·) (bitsUpto m n)
 | 0 => List.Pairwise.nil
 | n + 1 => by
  simp only [bitsUpto]
  split
  ·refine List.pairwise_append.2 ⟨bits_up m n, List.pairwise_singleton _ _, fun x hx y hy => ?_⟩
   obtain ⟨i, h1, _, rfl⟩ := (bits_mem m x n).1 hx
   obtain rfl := List.mem_singleton.1 hy
   omega
  ·exact bits_up m n
theorem up_nodup {l : List Int} (h : List.Pairwise (· < ·) l) : l.Nodup := h.imp fun h => by omega
theorem up_ext {l m : List Int} (hl : List.Pairwise (· < ·) l) (hm : List.Pairwise (· < ·) m) (h : ∀ x, x ∈ l ↔ x ∈ m) : l = m :=
 List.Perm.eq_of_pairwise (fun a b _ _ h1 h2 => by omega) hl hm ((List.perm_ext_iff_of_nodup (up_nodup hl) (up_nodup hm)).2 h)
theorem listOf_eq {m : Nat} {l : List Int} (hl : List.Pairwise (· < ·) l) (hr : ∀ k ∈ l, 0 ≤ k ∧ k < 5) (hm : ∀ i : Nat, m.testBit i = l.contains (i : Int)) : listOf m = l := by
 refine up_ext (bits_up m 5) hl fun x => ?_
 unfold listOf
 rw [bits_mem]
 constructor
 ·rintro ⟨i, _, h2, rfl⟩
  rw [hm] at h2; simpa using h2
 ·intro hx
  obtain ⟨h1, h2⟩ := hr x hx
  refine ⟨x.toNat, by omega, ?_, by omega⟩
  rw [hm, show ((x.toNat : Nat) : Int) = x by omega]
  simpa using hx
end Go.Lg.B
namespace Go.Lg.B
open Go Go.Conc Go.Lg Go.Proofs Go.Proofs.Tryz
section
variable {main : Bool} {J : Goroutine → Mem → Prop} (hJ : Closed prog main J)
include hJ
theorem checkChartR_c {b : Bk} {v : Value} {ro : RO} (hv : BkV ro v b) (hs : b.short) : CallP prog J (fnv 25) [v] ro (.int .i64 (checkChart b)) := by
 have hvv := hv
 obtain ⟨vc, vw, rfl, hc, hw⟩ := hv
 obtain ⟨b1, c1, rfl⟩ := hc.form
 obtain ⟨b2, c2, rfl⟩ := hw.form
 have hs0 := hs
 obtain ⟨hs1, hs2⟩ := hs
 by_cases hch : b.chart = 0
 ·have hch' : between b.w 2 7 = true ∧ between b.h 2 7 = true ∧ between b.f 0 2 = true := by
   simp only [Bk.chart] at hch
   cases h1 : between b.w 2 7 <;> cases h2 : between b.h 2 7 <;> cases h3 : between b.f 0 2 <;> simp [h1, h2, h3] at hch ⊢
  obtain ⟨g1, g2, g3⟩ := hch'
  refine CallP.intro hJ (by kernel_rfl) fun c cs tail hret => enter_X (n := 82) func25 I I (Nl I) ?_
  have C : Ctx prog main J (bf 25 .normal) := ⟨hJ, by decide⟩
  refine Xr C I I<|R.box C I I I I fun p1 => Ad C I I<|Xs C<|Xr C I I<|Rf C 0 I I runUnderlying25 I sizeOf3<|Rl C I I isAgg3 (by repeat constructor) I<|R.callP C I I I I (betweenR_c hJ _ _ _ _)<|R.not C I I I<|R.fixv (t := 10) (v' := .bool false) I (by (rw [g1]; rfl))<|Rm C I I<|Rf C 1 I I runUnderlying25 I sizeOf3<|Rl C I I isAgg3 (by repeat constructor) I<|R.callP C I I I I (betweenR_c hJ _ _ _ _)<|R.not C I I I<|R.fixv (t := 15) (v' := .bool false) I (by (rw [g2]; rfl))<|R.pickF C I I I I<|Rm C I I<|Rf C 2 I I runUnderlying25 I sizeOf3<|Rl C I I isAgg3 (by repeat constructor) I<|R.callP C I I I I (betweenR_c hJ _ _ _ _)<|R.not C I I I<|R.fixv (t := 21) (v' := .bool false) I (by (rw [g3]; rfl))<|R.pickF C I I I I<|R.done C<|X.cond C.1 I (fun h => nomatch h) (fun _ => ?_)
  refine X.skip C.1<|Xs C<|Xr C I I<|Rf C 3 I I runUnderlying25 I sizeOf22<|Rl C I I isAgg22 (by repeat constructor) I<|Rn C I I runUnderlying22<|R.callP C I I I I (betweenR_c hJ _ _ _ _)<|R.not C I I I<|R.done C<|X.cond C.1 I (fun hn => ?_) (fun hn => ?_)
  ·have hn := hn
   refine Xr C I I<|Ad C I I<|Xt C func25<|Hp hret ?_
   simp only [checkChart, hch, Bk.compassesH]
   simp_all [retVal]
  ·have hn := hn
   have hn' : between (b.cs.length : Int) 1 3 = true := by simpa using hn
   refine X.skip C.1<|Xs C<|Xr C I I<|Ad C I I<|X.block C.1<|X.loopI (ι := Nat) C.1 (fun i => i ≤ b.cs.length ∧ csH (b.cs.drop i) = csH b.cs) (fun i => [(1, .pointer (some ⟨p1, 0, none⟩)), (3, .int .i64 (i : Int))])
    (fun _ => ⟨ro, (p1, .cells [.int .i64 b.w, .int .i64 b.h, .int .i64 b.f, .slice b1 b.cs.length c1, .slice b2 b.ws.length c2].toArray 25 (0, 0)) :: tail⟩) (fun i => b.cs.length - i) 0 ⟨Nat.zero_le _, rfl⟩ rfl ⟨rfl, rfl, trivial⟩ fun i hi hnext => ?_
   obtain ⟨hi, hr⟩ := hi
   refine Xs C<|Xr C I I<|Rm C I I<|Rf C 3 I I runUnderlying25 I sizeOf22<|Rl C I I isAgg22 (by repeat constructor) I<|Rn C I I runUnderlying22<|R.int C I I I I b_lss<|R.done C<|X.cond C.1 I (fun hlt => ?_) (fun hlt => ?_)
   ·have hlt := hlt
    simp only [dT] at hlt
    have hi' : i < b.cs.length := by omega
    obtain ⟨p, off, cap, l, t, fq, hsl, hrop, hsub⟩ := hc.at Rc.len (by omega)
    cases hsl
    rw [List.drop_eq_getElem_cons hi'] at hr
    simp only [csH] at hr
    refine X.skip C.1<|Xs C<|X.block C.1<|Xr C I I<|Rf C 3 I I runUnderlying25 I sizeOf22<|Rl C I I isAgg22 (by repeat constructor) I<|Rm C I I<|Rx C I I I runUnderlying22 sizeOf46<|R.loadAggRo C I I I isAgg46 sizeOf46 hrop (hsub i hi')<|R.alloc C I I zeroValue46 I fun p4 => R.store C I I I I sizeOf46 I I I (by repeat (first | exact Uh | apply Ut)) (.here (.here .nil))<|R.done C<|Xr C I I<|R5 C I I isAgg46 sizeOf46 (by repeat constructor) Tk2<|R.callP C I I I I (insideR_c hJ b.cs[i] _ _ _)<|R.not C I I I<|Rm C I I<|R.fix (t := 43) I (fun hg => ?_) (fun hg => ?_)
    ·have hg := hg
     have hf : (b.cs[i]).fine = false := by simp at hg; simp [Rc.fine, hg]
     simp [hf] at hr
     refine R.pass C I I<|R.pass C I I<|R.pass C I I<|R.pass C I I<|R.pass C I I<|R.pass C I I<|R.pickT C I I I I<|R.done C<|X.cond C.1 I (fun _ => ?_) (fun h => nomatch h)
     refine Xr C I I<|Ad C I I<|Xt C func25<|Hp hret ?_
     simp [checkChart, hch, Bk.compassesH, hn', retVal, ← hr]
    ·have hg := hg
     have hbd := isReach_bd (x := b.cs[i]) (by simpa using hg)
     refine Rf C 1 I I runUnderlying46 I sizeOf3<|Rl C I I isAgg3 (by repeat constructor) I<|Rf C 0 I I runUnderlying46 I sizeOf3<|Rl C I I isAgg3 (by repeat constructor) I<|R.int C I I I I (b_sub (by omega) (by omega))<|R.int C I I I I b_geq<|R.pickF C I I I I<|R.done C<|X.cond C.1 I (fun hd => ?_) (fun hd => ?_)
     ·have hd := hd
      have hf : (b.cs[i]).fine = false := by simp at hd; simp [Rc.fine]; intro _; omega
      simp [hf] at hr
      refine Xr C I I<|Ad C I I<|Xt C func25<|Hp hret ?_
      simp [checkChart, hch, Bk.compassesH, hn', retVal, ← hr]
     ·have hd := hd
      refine X.skip C.1<|X.inBlock C.1<|X.region C I I<|Rm C I I<|Ra C I I I<|Ad C I I ?_
      have hf : (b.cs[i]).fine = true := by simp at hd hg; simp [Rc.fine, hg]; omega
      simp [hf] at hr
      refine X.weak C.1 (Weak.sub (List.sublist_cons_self _ _)) (X.weaken ?_ (hnext (i + 1) ⟨by omega, hr⟩ (by omega)))
      exact ⟨rfl, by simp [look], trivial⟩
   ·have hlt := hlt
    simp only [dF] at hlt
    obtain rfl : i = b.cs.length := by omega
    have hcs : b.compassesH = 0 := by simp [csH] at hr; simp [Bk.compassesH, hn', ← hr]
    have hcc : checkChart b = b.witnessesH := by simp [checkChart, hch, hcs]
    refine X.exit C.1 I<|Xs C<|Xr C I I<|Rf C 4 I I runUnderlying25 I sizeOf23<|Rl C I I isAgg23 (by repeat constructor) I<|Rn C I I runUnderlying23<|R.int C I I I I b_gtr<|R.done C<|X.cond C.1 I (fun h5 => ?_) (fun h5 => ?_)
    ·have h5 := h5
     refine Xr C I I<|Ad C I I<|Xt C func25<|Hp hret ?_
     simp at h5
     rw [hcc]
     simp [Bk.witnessesH, retVal]; omega
    ·have h5 := h5
     simp at h5
     refine X.skip C.1<|Xs C<|Xr C I I<|Ad C I I<|X.block C.1<|X.loopI (ι := Nat) C.1 (fun i => i ≤ b.ws.length ∧ wtsH b.cs.length (b.ws.drop i) = wtsH b.cs.length b.ws) (fun i => [(1, .pointer (some ⟨p1, 0, none⟩)), (5, .int .i64 (i : Int))])
      (fun _ => ⟨ro, (p1, .cells [.int .i64 b.w, .int .i64 b.h, .int .i64 b.f, .slice b1 b.cs.length c1, .slice b2 b.ws.length c2].toArray 25 (0, 0)) :: tail⟩) (fun i => b.ws.length - i) 0 ⟨Nat.zero_le _, rfl⟩ rfl ⟨rfl, rfl, trivial⟩ fun i hi hnext2 => ?_
     obtain ⟨hi, hr⟩ := hi
     refine Xs C<|Xr C I I<|Rm C I I<|Rf C 4 I I runUnderlying25 I sizeOf23<|Rl C I I isAgg23 (by repeat constructor) I<|Rn C I I runUnderlying23<|R.int C I I I I b_lss<|R.done C<|X.cond C.1 I (fun hlt2 => ?_) (fun hlt2 => ?_)
     ·have hlt2 := hlt2
      simp only [dT] at hlt2
      have hi' : i < b.ws.length := by omega
      obtain ⟨p, off, cap, l, t, fq, hsl, hrop, hsub⟩ := hw.at Wt.len (by omega)
      cases hsl
      rw [List.drop_eq_getElem_cons hi'] at hr
      simp only [wtsH] at hr
      refine X.skip C.1<|Xs C<|X.block C.1<|Xr C I I<|Rf C 4 I I runUnderlying25 I sizeOf23<|Rl C I I isAgg23 (by repeat constructor) I<|Rm C I I<|Rx C I I I runUnderlying23 sizeOf58<|R.loadAggRo C I I I isAgg58 sizeOf58 hrop (hsub i hi')<|R.alloc C I I zeroValue58 I fun p6 => R.store C I I I I sizeOf58 I I I (by repeat (first | exact Uh | apply Ut)) (.here (.here (.here (.here (.here .nil)))))<|R.done C<|Xs C<|Xr C I I<|Rf C 0 I I runUnderlying58 I sizeOf27<|R5 C I I isAgg27 sizeOf27 (by repeat constructor) Tk2<|R.callP C I I I I (nearR_c hJ (b.ws[i]).s _)<|R.not C I I I<|Rm C I I<|R.fix (t := 71) I (fun hg2 => ?_) (fun hg2 => ?_)
      ·have hg2 := hg2
       refine R.pass C I I<|R.pass C I I<|R.pass C I I<|R.pass C I I<|R.pickT C I I I I<|R.done C<|X.cond C.1 I (fun _ => ?_) (fun h => nomatch h)
       refine Xr C I I<|Ad C I I<|Xt C func25<|Hp hret ?_
       simp at hg2
       simp [hg2] at hr
       rw [hcc]
       simp [Bk.witnessesH, retVal, ← hr]; omega
      ·have hg2 := hg2
       refine Rf C 2 I I runUnderlying58 I sizeOf3<|Rl C I I isAgg3 (by repeat constructor) I<|R.callP C I I I I (betweenR_c hJ _ _ _ _)<|R.not C I I I<|R.pickF C I I I I<|R.done C<|X.cond C.1 I (fun hd => ?_) (fun hd => ?_)
       ·have hd := hd
        refine Xr C I I<|Ad C I I<|Xt C func25<|Hp hret ?_
        simp at hg2 hd
        simp [hg2, hd] at hr
        rw [hcc]
        simp [Bk.witnessesH, retVal, ← hr]; omega
       ·have hd := hd
        refine X.skip C.1<|Xr C I I<|R5 C I I isAgg25 sizeOf25 (by repeat constructor) Tk5<|Rf C 3 I I runUnderlying58 I sizeOf3<|Rl C I I isAgg3 (by repeat constructor) I<|R.callP C I I I I (isCompassR_c hJ hvv hs0 _)<|R.not C I I I<|R.done C<|X.cond C.1 I (fun hk => ?_) (fun hk => ?_)
        ·have hk := hk
         refine Xr C I I<|Ad C I I<|Xt C func25<|Hp hret ?_
         simp at hg2 hd hk
         simp [hg2, hd, there, hk] at hr
         rw [hcc]
         simp [Bk.witnessesH, retVal, ← hr]; omega
        ·have hk := hk
         refine X.skip C.1<|X.inBlock C.1<|X.region C I I<|Rm C I I<|Ra C I I I<|Ad C I I ?_
         simp at hg2 hd hk
         simp [hg2, hd, there, hk] at hr
         refine X.weak C.1 (Weak.sub (List.sublist_cons_self _ _)) (X.weaken ?_ (hnext2 (i + 1) ⟨by omega, hr⟩ (by omega)))
         exact ⟨rfl, by simp [look], trivial⟩
     ·have hlt2 := hlt2
      simp only [dF] at hlt2
      obtain rfl : i = b.ws.length := by omega
      simp [wtsH] at hr
      refine X.exit C.1 I<|Xr C I I<|Ad C I I<|Xt C func25<|Hp hret ?_
      rw [hcc]
      simp [Bk.witnessesH, retVal, ← hr]; omega
 ·have hone : b.chart = 1 := by
   simp only [Bk.chart] at hch ⊢
   split at hch
   ·rename_i h; rw [if_pos h]
   ·exact absurd rfl hch
  have hcc : checkChart b = 1 := by rw [checkChart, if_pos hch, hone]
  have hany : (!between b.w 2 7 || !between b.h 2 7 || !between b.f 0 2) = true := by
   simp only [Bk.chart] at hch
   split at hch
   ·assumption
   ·exact absurd rfl hch
  by_cases g1 : between b.w 2 7 = true
  ·by_cases g2 : between b.h 2 7 = true
   ·have g3 : between b.f 0 2 = false := by simpa [g1, g2] using hany
    refine CallP.intro hJ (by kernel_rfl) fun c cs tail hret => enter_X (n := 82) func25 I I (Nl I) ?_
    have C : Ctx prog main J (bf 25 .normal) := ⟨hJ, by decide⟩
    refine Xr C I I<|R.box C I I I I fun p1 => Ad C I I<|Xs C<|Xr C I I<|Rf C 0 I I runUnderlying25 I sizeOf3<|Rl C I I isAgg3 (by repeat constructor) I<|R.callP C I I I I (betweenR_c hJ _ _ _ _)<|R.not C I I I<|R.fixv (t := 10) (v' := .bool false) I (by (rw [g1]; rfl))<|Rm C I I<|Rf C 1 I I runUnderlying25 I sizeOf3<|Rl C I I isAgg3 (by repeat constructor) I<|R.callP C I I I I (betweenR_c hJ _ _ _ _)<|R.not C I I I<|R.fixv (t := 15) (v' := .bool false) I (by (rw [g2]; rfl))<|R.pickF C I I I I<|Rm C I I<|Rf C 2 I I runUnderlying25 I sizeOf3<|Rl C I I isAgg3 (by repeat constructor) I<|R.callP C I I I I (betweenR_c hJ _ _ _ _)<|R.not C I I I<|R.fixv (t := 21) (v' := .bool true) I (by (rw [g3]; rfl))<|R.pickF C I I I I<|R.done C<|X.cond C.1 I (fun _ => ?_) (fun h => nomatch h)
    refine Xr C I I<|Ad C I I<|Xt C func25<|Hp hret ?_
    rw [hcc]; rfl
   ·have g2 : between b.h 2 7 = false := by simpa using g2
    refine CallP.intro hJ (by kernel_rfl) fun c cs tail hret => enter_X (n := 82) func25 I I (Nl I) ?_
    have C : Ctx prog main J (bf 25 .normal) := ⟨hJ, by decide⟩
    refine Xr C I I<|R.box C I I I I fun p1 => Ad C I I<|Xs C<|Xr C I I<|Rf C 0 I I runUnderlying25 I sizeOf3<|Rl C I I isAgg3 (by repeat constructor) I<|R.callP C I I I I (betweenR_c hJ _ _ _ _)<|R.not C I I I<|R.fixv (t := 10) (v' := .bool false) I (by (rw [g1]; rfl))<|Rm C I I<|Rf C 1 I I runUnderlying25 I sizeOf3<|Rl C I I isAgg3 (by repeat constructor) I<|R.callP C I I I I (betweenR_c hJ _ _ _ _)<|R.not C I I I<|R.fixv (t := 15) (v' := .bool true) I (by (rw [g2]; rfl))<|R.pickF C I I I I<|Rm C I I<|R.pass C I I<|R.pass C I I<|R.pass C I I<|R.pass C I I<|R.pickT C I I I I<|R.done C<|X.cond C.1 I (fun _ => ?_) (fun h => nomatch h)
    refine Xr C I I<|Ad C I I<|Xt C func25<|Hp hret ?_
    rw [hcc]; rfl
  ·have g1 : between b.w 2 7 = false := by simpa using g1
   refine CallP.intro hJ (by kernel_rfl) fun c cs tail hret => enter_X (n := 82) func25 I I (Nl I) ?_
   have C : Ctx prog main J (bf 25 .normal) := ⟨hJ, by decide⟩
   refine Xr C I I<|R.box C I I I I fun p1 => Ad C I I<|Xs C<|Xr C I I<|Rf C 0 I I runUnderlying25 I sizeOf3<|Rl C I I isAgg3 (by repeat constructor) I<|R.callP C I I I I (betweenR_c hJ _ _ _ _)<|R.not C I I I<|R.fixv (t := 10) (v' := .bool true) I (by (rw [g1]; rfl))<|Rm C I I<|R.pass C I I<|R.pass C I I<|R.pass C I I<|R.pass C I I<|R.pickT C I I I I<|Rm C I I<|R.pass C I I<|R.pass C I I<|R.pass C I I<|R.pass C I I<|R.pickT C I I I I<|R.done C<|X.cond C.1 I (fun _ => ?_) (fun h => nomatch h)
   refine Xr C I I<|Ad C I I<|Xt C func25<|Hp hret ?_
   rw [hcc]; rfl
end
end Go.Lg.B
namespace Go.Lg.B
open Go Go.Conc Go.Lg Go.Proofs Go.Proofs.Tryz
theorem ic_at {l : List Int} {off : Nat} {ll : List Value} (hsub : ∀ i (hi : i < l.length), Sub (off + i * 1) 1 ll (ic l[i])) {i : Nat} (hi : i < l.length) : ll[off + i * 1]? = some (.int .i64 l[i]) := by
 have := (hsub i hi).get 0 (by decide)
 simpa [ic] using this
section
variable {main : Bool} {J : Goroutine → Mem → Prop} (hJ : Closed prog main J)
include hJ
theorem holdsR_c {v : Value} {ro : RO} {l : List Int} (hl : LsI ro v l) (hn : l.length ≤ 1000000) (n : Int) : CallP prog J (fnv 54) [v, .int .i64 n] ro (.bool (l.contains n)) := by
 obtain ⟨lb, lc, rfl⟩ := hl.form
 refine CallP.intro hJ (by kernel_rfl) fun c cs tail hret => enter_X (n := 18) func54 I I (Nl I) ?_
 have C : Ctx prog main J (bf 54 .normal) := ⟨hJ, by decide⟩
 refine Xr C I I<|Ad C I I<|Xs C<|Xr C I I<|Ad C I I<|X.block C.1<|X.loopI (ι := Nat) C.1 (fun i => i ≤ l.length ∧ l.contains n = (l.drop i).contains n) (fun i => [(0, .slice lb l.length lc), (1, .int .i64 n), (5, .int .i64 (i : Int))])
  (fun _ => ⟨ro, tail⟩) (fun i => l.length - i) 0 ⟨Nat.zero_le _, rfl⟩ rfl ⟨rfl, rfl, rfl, trivial⟩ fun i hi hnext => ?_
 obtain ⟨hi, hr⟩ := hi
 refine Xs C<|Xr C I I<|Rm C I I<|Rm C I I<|Rn C I I runUnderlying28<|R.int C I I I I b_lss<|R.done C<|X.cond C.1 I (fun hlt => ?_) (fun hlt => ?_)
 ·have hlt := hlt
  simp only [dT] at hlt
  have hi' : i < l.length := by omega
  obtain ⟨pp, off, cap, ll, t, fq, hsl, hrop, hsub⟩ := hl.at ic_len (by omega)
  cases hsl
  have hx := ic_at hsub hi'
  rw [List.drop_eq_getElem_cons hi', List.contains_cons] at hr
  refine X.skip C.1<|Xs C<|X.block C.1<|Xr C I I<|Rm C I I<|Rm C I I<|Rx C I I I runUnderlying28 sizeOf3<|R.loadOneRo C I I I isAgg3 hrop hx<|Rm C I I<|R.int C I I I I b_eql<|R.done C<|X.cond C.1 I (fun he => ?_) (fun he => ?_)
  ·have he := he
   have he2 : l[i] = n := by simpa using he
   rw [he2, beq_self_eq_true, Bool.true_or] at hr
   refine Xr C I I<|Ad C I I<|Xt C func54<|Hp hret ?_
   rw [hr]; rfl
  ·have he := he
   have he2 : l[i] ≠ n := by simpa using he
   rw [beq_eq_false_iff_ne.2 (Ne.symm he2), Bool.false_or] at hr
   refine X.skip C.1<|X.inBlock C.1<|X.region C I I<|Rm C I I<|Ra C I I I<|Ad C I I<|X.weaken ?_ (hnext (i + 1) ⟨hi', hr⟩ (by omega))
   exact ⟨rfl, rfl, by simp [look], trivial⟩
 ·have hlt := hlt
  simp only [dF] at hlt
  obtain rfl : i = l.length := by omega
  rw [List.drop_length] at hr
  refine X.exit C.1 I<|Xr C I I<|Ad C I I<|Xt C func54<|Hp hret ?_
  rw [hr]; rfl
end
end Go.Lg.B
namespace Go.Lg.B
open Go Go.Conc Go.Lg Go.Proofs Go.Proofs.Tryz
def ext (most : Int) (i : Nat) (l : List (List Int)) : List (List Int) := (l.filter fun x => decide ((x.length : Int) < most)).map fun x => x ++ [(i : Int)]
def sets (most : Int) : Nat → List (List Int)
 | 0 => [[]]
 | i + 1 => sets most i ++ ext most i (sets most i)
theorem ext_le (most : Int) (i : Nat) (l : List (List Int)) : (ext most i l).length ≤ l.length := by
 unfold ext; rw [List.length_map]; exact List.length_filter_le _ _
theorem sets_len (most : Int) : ∀ n, (sets most n).length ≤ 2 ^ n
 | 0 => by simp [sets]
 | n + 1 => by
  have h1 := sets_len most n
  have h2 := ext_le most n (sets most n)
  simp only [sets, List.length_append]
  have : 2 ^ (n + 1) = 2 ^ n + 2 ^ n := by rw [Nat.pow_succ]; omega
  omega
theorem sets_pos (most : Int) : ∀ n, 0 < (sets most n).length
 | 0 => by simp [sets]
 | n + 1 => by have := sets_pos most n; simp only [sets, List.length_append]; omega
theorem sets_each (most : Int) : ∀ n, ∀ l ∈ sets most n, l.length ≤ n
 | 0, l, h => by simp [sets] at h; simp [h]
 | n + 1, l, h => by
  rcases List.mem_append.1 h with h | h
  ·have := sets_each most n l h; omega
  ·obtain ⟨x, hx, rfl⟩ := List.mem_map.1 h
   have := sets_each most n x (List.mem_filter.1 hx).1
   simp; omega
theorem ext_take (most : Int) (i : Nat) (l : List (List Int)) {k : Nat} (h : k < l.length) : ext most i (l.take (k + 1)) = ext most i (l.take k) ++ (if (l[k].length : Int) < most then [l[k] ++ [(i : Int)]] else []) := by
 unfold ext
 rw [List.take_add_one, List.getElem?_eq_getElem h, List.filter_append, List.map_append]
 congr 1
 by_cases hm : (l[k].length : Int) < most <;> simp [hm]
abbrev LE := Value × List Int
def le (p : LE) : List Value := [p.1]
theorem le_len (p : LE) : (le p).length = 1 := rfl
def LL (ro : RO) (v : Value) (l : List (List Int)) : Prop := ∃ xs : List LE, Ls le 1 ro v xs ∧ xs.map (·.2) = l ∧ ∀ p ∈ xs, LsI ro p.1 p.2
theorem le_flat (xs : List LE) : (xs.flatMap le).length = xs.length := by rw [flatMap_len le_len, Nat.mul_one]
theorem le_get (xs : List LE) (sp : List Value) {k : Nat} (h : k < xs.length) : (xs.flatMap le ++ sp)[0 + k * 1]? = some xs[k].1 := by
 have hl := le_flat xs
 rw [Nat.zero_add, Nat.mul_one, List.getElem?_append_left (by omega)]
 clear hl
 induction xs generalizing k with
 | nil => simp at h
 | cons x xs ih =>
  cases k with
  | zero => rfl
  | succ k => exact ih (by simpa using h)
section
variable {main : Bool} {J : Goroutine → Mem → Prop} (hJ : Closed prog main J)
include hJ
theorem setsR_c {n : Nat} {most : Int} (hn : n ≤ 5) {ro : RO} : CallR prog J (fnv 133) [.int .i64 (n : Int), .int .i64 most] ro (fun x ro' => LL ro' x (sets most n)) := by
 refine CallR.intro hJ (by kernel_rfl) fun c cs tail hret => enter_X (n := 42) func133 I I (Nl I) ?_
 have C : Ctx prog main J (bf 133 .normal) := ⟨hJ, by decide⟩
 refine Xr C I I<|Ad C I I<|Xr C I I<|R.buildSlice C (vs := _) I I (show pvals _ _ = some (numbered 0 [_]) from rfl) I runUnderlying149 sizeOf28 zeroValue28 (by decide) (Cat.one I I) fun p9 => Ad C I I<|Xs C<|Xr C I I<|Ad C I I<|X.block C.1<|X.loopI (ι := Nat × RO × Value × List LE × List (Nat × Obj)) C.1 (fun s => s.1 ≤ n ∧ ro.le s.2.1 ∧ Buf 28 1 tail s.2.2.1 (s.2.2.2.1.flatMap le) s.2.2.2.2 ∧ s.2.2.2.1.map (·.2) = sets most s.1 ∧ ∀ p ∈ s.2.2.2.1, LsI s.2.1 p.1 p.2) (fun s => [(0, .int .i64 (n : Int)), (1, .int .i64 most), (5, s.2.2.1), (6, .int .i64 (s.1 : Int))])
  (fun s => ⟨s.2.1, s.2.2.2.2⟩) (fun s => n - s.1) (0, ro, .slice (some ⟨p9, 0, none⟩) 1 1, [(.slice none 0 0, [])], (p9, .cells [.slice none 0 0].toArray 28 (0, 0)) :: tail) ⟨Nat.zero_le _, RO.le_refl _, Buf.blk (cells := [.slice none 0 0]) (spare := []) (len := 1) (cap := 1) rfl rfl (Nat.le_refl _), rfl, fun p hp => by simp at hp; subst hp; exact Ls.nil⟩ rfl ⟨rfl, rfl, rfl, rfl, trivial⟩ fun s hs hnext => ?_
 obtain ⟨i, ro1, v1, xs1, own1⟩ := s
 obtain ⟨hi, hle1, hb1, hxs1, hls1⟩ := hs
 simp only at hi hle1 hb1 hxs1 hls1 hnext ⊢
 have hlen1 : xs1.length = (sets most i).length := by rw [← hxs1, List.length_map]
 have hspos := sets_pos most i
 have hpow : (sets most i).length ≤ 2 ^ i := sets_len most i
 have hpow5 : 2 ^ i ≤ 2 ^ 5 := Nat.pow_le_pow_right (by decide) (by omega)
 have hff1 := le_flat xs1
 obtain ⟨b1, c1, hv1⟩ := hb1.form (by decide)
 rw [hff1, Nat.div_one] at hv1
 subst hv1
 refine Xs C<|Xr C I I<|Rm C I I<|Rm C I I<|R.int C I I I I b_lss<|R.done C<|X.cond C.1 I (fun hlt => ?_) (fun hlt => ?_)
 ·have hlt := hlt
  simp only [dT] at hlt
  have hi' : i < n := by omega
  refine X.skip C.1<|Xs C<|X.block C.1<|Xr C I I<|Rm C I I<|Rn C I I runUnderlying149<|Ad C I I<|Xr C I I<|Ad C I I<|X.block C.1<|X.loopI (ι := Nat × RO × Value × List LE × List (Nat × Obj)) C.1 (fun s => s.1 ≤ xs1.length ∧ ro1.le s.2.1 ∧ Buf 28 1 tail s.2.2.1 (s.2.2.2.1.flatMap le) s.2.2.2.2 ∧ s.2.2.2.1.map (·.2) = sets most i ++ ext most i ((sets most i).take s.1) ∧ ∀ p ∈ s.2.2.2.1, LsI s.2.1 p.1 p.2) (fun s => [(0, .int .i64 (n : Int)), (1, .int .i64 most), (5, s.2.2.1), (6, .int .i64 (i : Int)), (7, .int .i64 (xs1.length : Int)), (8, .int .i64 (s.1 : Int))])
   (fun s => ⟨s.2.1, s.2.2.2.2⟩) (fun s => xs1.length - s.1) (0, ro1, .slice b1 xs1.length c1, xs1, own1) ⟨Nat.zero_le _, RO.le_refl _, hb1, by simp [hxs1, ext], hls1⟩ rfl ⟨rfl, rfl, rfl, rfl, rfl, rfl, trivial⟩ fun s hs hnext2 => ?_
  obtain ⟨k, ro2, v2, xs2, own2⟩ := s
  obtain ⟨hk, hle2, hb2, hxs2, hls2⟩ := hs
  simp only at hk hle2 hb2 hxs2 hls2 hnext2 ⊢
  have hel := ext_le most i ((sets most i).take k)
  have htk : ((sets most i).take k).length ≤ (sets most i).length := by rw [List.length_take]; omega
  have hlen2 := congrArg List.length hxs2
  rw [List.length_map, List.length_append] at hlen2
  have hff2 := le_flat xs2
  obtain ⟨p2', len2, cap2, spare2, rfl, hc2, rfl, hset2⟩ := hb2.at (by omega)
  obtain rfl : len2 = xs2.length := by omega
  refine Xs C<|Xr C I I<|Rm C I I<|Rm C I I<|R.int C I I I I b_lss<|R.done C<|X.cond C.1 I (fun hlt2 => ?_) (fun hlt2 => ?_)
  ·have hlt2 := hlt2
   simp only [dT] at hlt2
   have hk1 : k < (sets most i).length := by omega
   have hk2 : k < xs2.length := by omega
   have hxk : xs2[k].2 = (sets most i)[k] := by
    have h1 : (xs2.map (·.2))[k]? = some (sets most i)[k] := by rw [hxs2, List.getElem?_append_left hk1, List.getElem?_eq_getElem hk1]
    rw [List.getElem?_map, List.getElem?_eq_getElem hk2] at h1
    simpa using h1
   have hlk := hls2 _ (List.getElem_mem hk2)
   have hx := le_get xs2 spare2 hk2
   generalize hL : xs2[k].2 = l at hxk hlk
   generalize xs2[k].1 = vk at hx hlk
   have hll : l.length ≤ i := by rw [hxk]; exact sets_each most i _ (List.getElem_mem hk1)
   have hlk0 := hlk
   obtain ⟨bk, ck, rfl⟩ := hlk.form
   have hext := ext_take most i (sets most i) hk1
   rw [← hxk] at hext
   refine X.skip C.1<|Xs C<|X.block C.1<|Xr C I I<|Rm C I I<|Rm C I I<|Rx C I I I runUnderlying149 sizeOf28<|R.loadOne C I I I isAgg28 (by repeat constructor) hx<|Rn C I I runUnderlying28<|Rm C I I<|R.int C I I I I b_lss<|R.done C<|X.cond C.1 I (fun hm => ?_) (fun hm => ?_)
   ·have hm := hm
    simp only [dT] at hm
    rw [if_pos hm] at hext
    have hfl := flat_len l
    refine X.region C I I<|Rm C I I<|R.buildSlice C (vs := _) I I (show pvals _ _ = some (numbered 0 []) from rfl) I runUnderlying28 sizeOf3 zeroValue3 (by decide) (.nil) fun p30 => Rm C I I<|Rm C I I<|Rx C I I I runUnderlying149 sizeOf28<|R.loadOne C I I I isAgg28 (by repeat constructor) hx<|R.append (kk := 1) C I I I I runUnderlying28 runUnderlying28 (fun _ => nofun) (show prog.info? 3 = some Tryz.t3 by kernel_rfl) I I I (by decide) (by decide) (Buf.blk (cells := []) (spare := []) (len := 0) (cap := 0) I I (Nat.le_refl _)) (hlk0.rd ic_len) (ones_ic l) (by simp only [List.length_nil]; omega) fun v' own' hb' => Rm C I I<|R.buildSlice C (vs := _) I I (show pvals _ _ = some (numbered 0 [_]) from rfl) I runUnderlying28 sizeOf3 zeroValue3 (by decide) (Cat.one I I) fun p37 => R.append1 (kk := 1) C I I I I runUnderlying28 runUnderlying28 (fun _ => nofun) (show prog.info? 3 = some Tryz.t3 by kernel_rfl) I I I (by decide) (by decide) hb' I I (by simp only [List.length_append, List.length_cons, List.length_nil]; omega) fun v' own' hb' => ?_
    have e3 : ([] ++ l.flatMap ic) ++ [Value.int .i64 (i : Int)] = (l ++ [(i : Int)]).flatMap ic := by simp [List.flatMap_append, ic]
    rw [e3] at hb'
    refine R.finish C.1 ic_len (by decide) hb' fun ro3 hl3 hls3 => ?_
    obtain ⟨b3, c3, rfl⟩ := hls3.form
    refine R.buildSlice C (vs := _) I I (show pvals _ _ = some (numbered 0 [_]) from rfl) I runUnderlying149 sizeOf28 zeroValue28 (by decide) (Cat.one I I) fun p39 => R.append1 (kk := 1) C I I I I runUnderlying149 runUnderlying149 (fun _ => nofun) (show prog.info? 28 = some Tryz.t28 by kernel_rfl) I I I (by decide) (by decide) hb2 I I (by simp only [List.length_append, List.length_cons, List.length_nil]; omega) fun v' own' hb' => Ad C I I<|X.inBlock C.1<|X.region C I I<|Rm C I I<|Ra C I I I<|Ad C I I<|X.weaken ?_ (hnext2 (k + 1, ro3, _, xs2 ++ [(.slice b3 (l ++ [(i : Int)]).length c3, l ++ [(i : Int)])], _) ⟨by omega, RO.le_trans hle2 hl3, by simpa [List.flatMap_append, le] using hb', ?_, fun p hp => ?_⟩ (by omega))
    ·exact ⟨rfl, rfl, rfl, rfl, rfl, by simp [look], trivial⟩
    ·rw [List.map_append, hxs2, hext, List.append_assoc]; rfl
    ·rcases List.mem_append.1 hp with hp | hp
     ·exact (hls2 p hp).mono hl3
     ·rw [List.mem_singleton.1 hp]; exact hls3
   ·have hm := hm
    simp only [dF] at hm
    rw [if_neg hm, List.append_nil] at hext
    refine X.skip C.1<|X.inBlock C.1<|X.region C I I<|Rm C I I<|Ra C I I I<|Ad C I I<|X.weaken ?_ (hnext2 (k + 1, ro2, _, xs2, _) ⟨by omega, hle2, hb2, by rw [hxs2, hext], hls2⟩ (by omega))
    exact ⟨rfl, rfl, rfl, rfl, rfl, by simp [look], trivial⟩
  ·have hlt2 := hlt2
   simp only [dF] at hlt2
   obtain rfl : k = xs1.length := by omega
   rw [List.take_of_length_le (by omega)] at hxs2
   refine X.exit C.1 I<|X.inBlock C.1<|X.region C I I<|Rm C I I<|Ra C I I I<|Ad C I I<|X.weaken ?_ (hnext (i + 1, ro2, _, xs2, _) ⟨hi', RO.le_trans hle1 hle2, hb2, hxs2, hls2⟩ (by omega))
   exact ⟨rfl, rfl, rfl, by simp [look], trivial⟩
 ·have hlt := hlt
  simp only [dF] at hlt
  obtain rfl : i = n := by omega
  refine X.exit C.1 I<|Xr C I I<|R.finish C.1 le_len (by decide) hb1 fun ro3 hl3 hls3 => Rm C I I<|Ad C I I<|Xt C func133<|Hr hret (RO.le_trans hle1 hl3) ?_
  exact ⟨xs1, hls3, hxs1, fun p hp => (hls1 p hp).mono hl3⟩
end
end Go.Lg.B
namespace Go.Lg.B
open Go Go.Conc Go.Lg Go.Proofs Go.Proofs.Tryz
def sqAt (w : Int) (n : Nat) : Sq := ⟨(n : Int) % w, (n : Int) / w⟩
def squares (b : Bk) : List Sq := (List.range (b.w * b.h).toNat).map (sqAt b.w)
section
variable {main : Bool} {J : Goroutine → Mem → Prop} (hJ : Closed prog main J)
include hJ
theorem squaresR_c {b : Bk} {v : Value} {ro : RO} (hv : BkV ro v b) (hb : b.good) : CallR prog J (fnv 96) [v] ro (fun x ro' => LsS ro' x (squares b)) := by
 obtain ⟨vc, vw, rfl, hc, hw⟩ := hv
 have hw7 := hb.w
 have hh7 := hb.h
 have hmul : 4 ≤ b.w * b.h ∧ b.w * b.h ≤ 49 := by
  constructor
  ·have : 2 * 2 ≤ b.w * b.h := Int.mul_le_mul hw7.1 hh7.1 (by decide) (by omega)
   omega
  ·have : b.w * b.h ≤ 7 * 7 := Int.mul_le_mul hw7.2 hh7.2 (by omega) (by decide)
   omega
 obtain ⟨N, hN⟩ : ∃ N, N = b.w * b.h := ⟨_, rfl⟩
 rw [← hN] at hmul
 refine CallR.intro hJ (by kernel_rfl) fun c cs tail hret => enter_X (n := 27) func96 I I (Nl I) ?_
 have C : Ctx prog main J (bf 96 .normal) := ⟨hJ, by decide⟩
 refine Xr C I I<|R.box C I I I I fun p1 => Ad C I I<|Xr C I I<|Ad C I I<|Xs C<|Xr C I I<|Ad C I I<|X.block C.1<|X.loopI (ι := Nat × Value × List (Nat × Obj)) C.1 (fun s => s.1 ≤ N.toNat ∧ Buf 27 2 [] s.2.1 (((List.range s.1).map (sqAt b.w)).flatMap Sq.cells) s.2.2) (fun s => [(1, .pointer (some ⟨p1, 0, none⟩)), (3, s.2.1), (4, .int .i64 (s.1 : Int))])
  (fun s => ⟨ro, s.2.2 ++ (p1, .cells [.int .i64 b.w, .int .i64 b.h, .int .i64 b.f, vc, vw].toArray 25 (0, 0)) :: tail⟩) (fun s => N.toNat - s.1) (0, .slice none 0 0, []) ⟨Nat.zero_le _, .nil⟩ rfl ⟨rfl, rfl, rfl, trivial⟩ fun s hs hnext => ?_
 obtain ⟨i, vb, own0⟩ := s
 obtain ⟨hi, hbuf⟩ := hs
 simp only at hi hbuf hnext ⊢
 have hfl : (((List.range i).map (sqAt b.w)).flatMap Sq.cells).length = i * 2 := by rw [flatMap_len Sq.len]; simp
 refine Xs C<|Xr C I I<|Rm C I I<|Rf C 0 I I runUnderlying25 I sizeOf3<|R.loadOne C I I I isAgg3 (by repeat (first | exact Mh | apply Mt | apply List.mem_append_right)) I<|Rf C 1 I I runUnderlying25 I sizeOf3<|R.loadOne C I I I isAgg3 (by repeat (first | exact Mh | apply Mt | apply List.mem_append_right)) I<|R.int C I I I I (b_mul (by omega) (by omega))<|R.int C I I I I b_lss<|R.done C<|X.cond C.1 I (fun hlt => ?_) (fun hlt => ?_)
 ·have hlt := hlt
  simp only [dT] at hlt
  refine X.skip C.1<|Xs C<|X.block C.1<|Xd C fun hok => Dm C 0 hok I I I<|Dm C 1 hok I I I<|Df (off' := 0) C 2 hok I I I runUnderlying25 I sizeOf3 I<|Dl 3 hok (fun _ _ A h => R.loadOne C I (A.w I I) (A.x I I) isAgg3 (by repeat (first | exact Mh | apply Mt | apply List.mem_append_right)) I h)<|Di C 4 hok I I I I I (b_remP (by omega) (by omega))<|Dm C 5 hok I I I<|Df (off' := 0) C 6 hok I I I runUnderlying25 I sizeOf3 I<|Dl 7 hok (fun _ _ A h => R.loadOne C I (A.w I I) (A.x I I) isAgg3 (by repeat (first | exact Mh | apply Mt | apply List.mem_append_right)) I h)<|Di C 8 hok I I I I I (b_quoP (by omega) (by omega) (by omega))<|Dp 9 hok (fun _ _ _ A h => R.build C I (A.w I I) (A.p I I) zeroValue27 I runUnderlying27 (by kernel_rfl) (Fills.part I I sizeOf3 I (.here .nil) (Fills.part I I sizeOf3 I (.skip (.here .nil)) .nil)) h)<|De 10 (some 24) [false, false] hok (fun _ _ A hk => ?_)
  refine R.buildSlice C (vs := _) I (A.w I I) (show pvals _ _ = some (numbered 0 [_]) from (A.p I I)) I runUnderlying41 sizeOf27 zeroValue27 (by decide) (Cat.one I I) fun p24 => hk _ _ ⟨QFs.nil, ?_⟩
  refine De 11 (some 25) [] hok (fun _ _ A hk => ?_)
  refine R.append1 (kk := 2) C I (A.w I I) (A.x I I) (A.x I I) runUnderlying41 runUnderlying41 (fun _ => nofun) (show prog.info? 27 = some Tryz.t27 by kernel_rfl) I I I (by decide) (by decide) (hbuf.app _) I I (by simp only [List.length_append, List.length_cons, List.length_nil]; omega) fun v' own' hb' => hk _ _ ⟨QFs.nil, ?_⟩
  refine Da C 12 hok I I<|D.done C hok (by kernel_rfl)<|X.inBlock C.1<|X.region C I I<|Rm C I I<|Ra C I I I<|Ad C I I ?_
  obtain ⟨own2, rfl, hb2⟩ := Buf.unapp (tail := []) hb'
  refine X.weaken ?_ (hnext (i + 1, _, own2) ⟨by omega, by simpa [List.range_succ, List.flatMap_append, Sq.cells, sqAt] using hb2⟩ (by omega))
  exact ⟨rfl, rfl, by simp [look], trivial⟩
 ·have hlt := hlt
  simp only [dF] at hlt
  obtain rfl : i = N.toNat := by omega
  refine X.exit C.1 I<|Xr C I I<|R.finish C.1 Sq.len (by decide) (hbuf.app _) fun ro3 hl3 hls3 => Rm C I I<|Ad C I I<|Xt C func96<|Hr hret hl3 ?_
  rw [squares, ← hN]; exact hls3
end
end Go.Lg.B
namespace Go.Lg.B
open Go Go.Conc Go.Lg Go.Proofs Go.Proofs.Tryz
def wideRc (x : Rc) : Nat := (x.hi + 1 - x.lo).toNat
def offsStep (x : Rc) (l : List (List Int)) : List (List Int) := l.flatMap fun o => (rz x.lo (wideRc x)).map fun n => o ++ [n]
def offsAll (l : List Rc) : List (List Int) := l.foldl (fun a x => offsStep x a) [[]]
theorem offsStep_len (x : Rc) : ∀ l, (offsStep x l).length = l.length * wideRc x
 | [] => by simp [offsStep]
 | o :: l => by
  have := offsStep_len x l
  simp only [offsStep, List.flatMap_cons, List.length_append, List.length_map, rz_len, List.length_cons] at this ⊢
  rw [this, Nat.succ_mul, Nat.add_comm]
theorem offsAll_succ (l : List Rc) {i : Nat} (h : i < l.length) : offsAll (l.take (i + 1)) = offsStep l[i] (offsAll (l.take i)) := by
 unfold offsAll
 rw [List.take_add_one, List.getElem?_eq_getElem h, List.foldl_append]
 rfl
theorem offsAll_len {l : List Rc} (h : ∀ x ∈ l, x.fine = true) : ∀ i, i ≤ l.length → (offsAll (l.take i)).length ≤ 3 ^ i
 | 0, _ => by simp [offsAll]
 | i + 1, hi => by
  have ih := offsAll_len h i (by omega)
  rw [offsAll_succ l (by omega), offsStep_len]
  have hf := h _ (List.getElem_mem (show i < l.length by omega))
  simp only [Rc.fine, Bool.and_eq_true, decide_eq_true_eq] at hf
  have : wideRc l[i] ≤ 3 := by unfold wideRc; omega
  calc _ ≤ 3 ^ i * 3 := Nat.mul_le_mul ih this
   _ = 3 ^ (i + 1) := by rw [Nat.pow_succ]
theorem offsAll_each (l : List Rc) : ∀ i, i ≤ l.length → ∀ o ∈ offsAll (l.take i), o.length = i
 | 0, _, o, ho => by simp [offsAll] at ho; simp [ho]
 | i + 1, hi, o, ho => by
  rw [offsAll_succ l (by omega)] at ho
  obtain ⟨o', h1, h2⟩ := List.mem_flatMap.1 ho
  obtain ⟨n, _, rfl⟩ := List.mem_map.1 h2
  have := offsAll_each l i (by omega) o' h1
  simp [this]
theorem rz_take (lo : Int) : ∀ m, rz lo (m + 1) = rz lo m ++ [lo + m]
 | 0 => by simp [rz]
 | m + 1 => by
  have := rz_take (lo + 1) m
  rw [rz, this, rz]
  simp only [List.cons_append]
  congr 2
  rw [show lo + 1 + (m : Int) = lo + ((m + 1 : Nat) : Int) by omega]
theorem offsStep_take (x : Rc) (l : List (List Int)) {k : Nat} (h : k < l.length) : offsStep x (l.take (k + 1)) = offsStep x (l.take k) ++ (rz x.lo (wideRc x)).map fun n => l[k] ++ [n] := by
 unfold offsStep
 rw [List.take_add_one, List.getElem?_eq_getElem h, List.flatMap_append]
 simp
theorem le_at {xs : List LE} {off : Nat} {ll : List Value} (hsub : ∀ i (hi : i < xs.length), Sub (off + i * 1) 1 ll (le xs[i])) {i : Nat} (hi : i < xs.length) : ll[off + i * 1]? = some xs[i].1 := by
 have := (hsub i hi).get 0 (by decide)
 simpa [le] using this
section
variable {main : Bool} {J : Goroutine → Mem → Prop} (hJ : Closed prog main J)
include hJ
theorem offsR_c {b : Bk} {v : Value} {ro : RO} (hv : BkV ro v b) (hb : b.good) : CallR prog J (fnv 183) [v] ro (fun x ro' => LL ro' x (offsAll b.cs)) := by
 obtain ⟨vc, vw, rfl, hc, hw⟩ := hv
 have hnc := hb.nc
 have hfine := hb.cs
 obtain ⟨cb, cc, rfl⟩ := hc.form
 refine CallR.intro hJ (by kernel_rfl) fun c cs tail hret => enter_X (n := 52) func183 I I (Nl I) ?_
 have C : Ctx prog main J (bf 183 .normal) := ⟨hJ, by decide⟩
 refine Xr C I I<|R.box C I I I I fun p1 => Ad C I I<|Xr C I I<|R.buildSlice C (vs := _) I I (show pvals _ _ = some (numbered 0 [_]) from rfl) I runUnderlying149 sizeOf28 zeroValue28 (by decide) (Cat.one I I) fun p8 => Ad C I I<|Xs C<|Xr C I I<|Ad C I I<|X.block C.1<|X.persist C.1 fun ro8 hl8 h8 => X.loopI (ι := Nat × RO × Value × List LE) C.1 (fun s => s.1 ≤ b.cs.length ∧ ro.le s.2.1 ∧ Ls le 1 s.2.1 s.2.2.1 s.2.2.2 ∧ s.2.2.2.map (·.2) = offsAll (b.cs.take s.1) ∧ ∀ p ∈ s.2.2.2, LsI s.2.1 p.1 p.2) (fun s => [(1, .pointer (some ⟨p1, 0, none⟩)), (3, s.2.2.1), (4, .int .i64 (s.1 : Int))])
  (fun s => ⟨s.2.1, (p1, .cells [.int .i64 b.w, .int .i64 b.h, .int .i64 b.f, .slice cb b.cs.length cc, vw].toArray 25 (0, 0)) :: tail⟩) (fun s => b.cs.length - s.1) (0, ro8, .slice (some ⟨p8, 0, none⟩) 1 1, [(.slice none 0 0, [])]) ⟨Nat.zero_le _, hl8, Ls.lit (xs := [((.slice none 0 0, []) : LE)]) le_len h8, rfl, fun p hp => by simp at hp; subst hp; exact Ls.nil⟩ rfl ⟨rfl, rfl, rfl, trivial⟩ fun s hs hnext => ?_
 obtain ⟨i, ro1, v1, xs1⟩ := s
 obtain ⟨hi, hle1, hL1, hxs1, hls1⟩ := hs
 simp only at hi hle1 hL1 hxs1 hls1 hnext ⊢
 have hL10 := hL1
 obtain ⟨b1, c1, rfl⟩ := hL1.form
 have hlen1 := congrArg List.length hxs1
 rw [List.length_map] at hlen1
 have hb3 := offsAll_len hfine i hi
 have hpow : 3 ^ i ≤ 3 ^ 3 := Nat.pow_le_pow_right (by decide) (by omega)
 have hc1 := hc.mono hle1
 refine Xs C<|Xr C I I<|Rm C I I<|Rf C 3 I I runUnderlying25 I sizeOf22<|Rl C I I isAgg22 (by repeat constructor) I<|Rn C I I runUnderlying22<|R.int C I I I I b_lss<|R.done C<|X.cond C.1 I (fun hlt => ?_) (fun hlt => ?_)
 ·have hlt := hlt
  simp only [dT] at hlt
  have hi' : i < b.cs.length := by omega
  obtain ⟨pc, offc, capc, llc, tc, fqc, hslc, hropc, hsubc⟩ := hc1.at Rc.len (by omega)
  cases hslc
  have hlo : llc[offc + i * 2 + 0]? = some (.int .i64 (b.cs[i]).lo) := by simpa [Rc.cells] using (hsubc i hi').get 0 (by decide)
  have hhi : llc[offc + i * 2 + 1]? = some (.int .i64 (b.cs[i]).hi) := by simpa [Rc.cells] using (hsubc i hi').get 1 (by decide)
  have hfx := hfine _ (List.getElem_mem hi')
  simp only [Rc.fine, isReach, Bool.and_eq_true, decide_eq_true_eq] at hfx
  have hsucc := offsAll_succ b.cs hi'
  generalize hX : b.cs[i] = x at hlo hhi hfx hsucc
  have hwd : wideRc x ≤ 3 := by unfold wideRc; omega
  have hwd2 : (wideRc x : Int) = x.hi + 1 - x.lo := by unfold wideRc; omega
  refine X.skip C.1<|Xs C<|X.block C.1<|Xr C I I<|Ad C I I<|Xs C<|Xr C I I<|Ad C I I<|X.block C.1<|X.loopI (ι := Nat × RO × Value × List LE × List (Nat × Obj)) C.1 (fun s => s.1 ≤ xs1.length ∧ ro1.le s.2.1 ∧ Buf 28 1 [] s.2.2.1 (s.2.2.2.1.flatMap le) s.2.2.2.2 ∧ s.2.2.2.1.map (·.2) = offsStep x ((offsAll (b.cs.take i)).take s.1) ∧ ∀ p ∈ s.2.2.2.1, LsI s.2.1 p.1 p.2) (fun s => [(1, .pointer (some ⟨p1, 0, none⟩)), (3, .slice b1 xs1.length c1), (4, .int .i64 (i : Int)), (5, s.2.2.1), (6, .int .i64 (s.1 : Int))])
   (fun s => ⟨s.2.1, s.2.2.2.2 ++ (p1, .cells [.int .i64 b.w, .int .i64 b.h, .int .i64 b.f, .slice (some ⟨pc, offc, none⟩) b.cs.length cc, vw].toArray 25 (0, 0)) :: tail⟩) (fun s => xs1.length - s.1) (0, ro1, .slice none 0 0, [], []) ⟨Nat.zero_le _, RO.le_refl _, .nil, by simp [offsStep], fun p hp => nomatch hp⟩ rfl ⟨rfl, rfl, rfl, rfl, rfl, trivial⟩ fun s hs hnext2 => ?_
  obtain ⟨k, ro2, v2, xs2, own2⟩ := s
  obtain ⟨hk, hle2, hb2, hxs2, hls2⟩ := hs
  simp only at hk hle2 hb2 hxs2 hls2 hnext2 ⊢
  refine Xs C<|Xr C I I<|Rm C I I<|Rm C I I<|Rn C I I runUnderlying149<|R.int C I I I I b_lss<|R.done C<|X.cond C.1 I (fun hlt2 => ?_) (fun hlt2 => ?_)
  ·have hlt2 := hlt2
   simp only [dT] at hlt2
   have hk' : k < xs1.length := by omega
   have hk1 : k < (offsAll (b.cs.take i)).length := by omega
   have hstep := offsStep_take x (offsAll (b.cs.take i)) hk1
   have hxk : xs1[k].2 = (offsAll (b.cs.take i))[k] := by
    have h1 : (xs1.map (·.2))[k]? = some (offsAll (b.cs.take i))[k] := by rw [hxs1, List.getElem?_eq_getElem hk1]
    rw [List.getElem?_map, List.getElem?_eq_getElem hk'] at h1
    simpa using h1
   have hlk := hls1 _ (List.getElem_mem hk')
   have hol := offsAll_each b.cs i hi _ (List.getElem_mem hk1)
   rw [← hxk] at hstep hol
   obtain ⟨pa, offa, capa, lla, ta, fqa, hsla, hropa, hsuba⟩ := hL10.at le_len (by omega)
   cases hsla
   have hx := le_at hsuba hk'
   generalize hL : xs1[k].2 = l at hlk hstep hol
   generalize xs1[k].1 = vk at hx hlk
   have hlk0 := hlk
   obtain ⟨bk, ck, rfl⟩ := hlk.form
   have hfl := flat_len l
   refine X.skip C.1<|Xs C<|X.block C.1<|Xr C I I<|Rf C 3 I I runUnderlying25 I sizeOf22<|R.loadOne C I I I isAgg22 (by repeat (first | exact Mh | apply Mt | apply List.mem_append_right)) I<|Rm C I I<|Rx C I I I runUnderlying22 sizeOf46<|R.fieldAddr C I I I runUnderlying46 I sizeOf3 I<|R.loadOneRo C I I I isAgg3 (hle2 _ _ hropc) hlo<|Ad C I I<|X.block C.1<|X.loopI (ι := Nat × RO × Value × List LE × List (Nat × Obj)) C.1 (fun s => s.1 ≤ wideRc x ∧ ro2.le s.2.1 ∧ Buf 28 1 [] s.2.2.1 (s.2.2.2.1.flatMap le) s.2.2.2.2 ∧ s.2.2.2.1.map (·.2) = offsStep x ((offsAll (b.cs.take i)).take k) ++ (rz x.lo s.1).map (fun n => l ++ [n]) ∧ ∀ p ∈ s.2.2.2.1, LsI s.2.1 p.1 p.2) (fun s => [(1, .pointer (some ⟨p1, 0, none⟩)), (3, .slice (some ⟨pa, offa, none⟩) xs1.length c1), (4, .int .i64 (i : Int)), (5, s.2.2.1), (6, .int .i64 (k : Int)), (7, .int .i64 (x.lo + (s.1 : Int)))])
    (fun s => ⟨s.2.1, s.2.2.2.2 ++ (p1, .cells [.int .i64 b.w, .int .i64 b.h, .int .i64 b.f, .slice (some ⟨pc, offc, none⟩) b.cs.length cc, vw].toArray 25 (0, 0)) :: tail⟩) (fun s => wideRc x - s.1) (0, ro2, v2, xs2, own2) ⟨Nat.zero_le _, RO.le_refl _, hb2, by simp [hxs2, rz], hls2⟩ rfl ⟨rfl, rfl, rfl, rfl, rfl, by simp [look], trivial⟩ fun s hs hnext3 => ?_
   obtain ⟨m, ro3, v3, xs3, own3⟩ := s
   obtain ⟨hm, hle3, hb3', hxs3, hls3⟩ := hs
   simp only at hm hle3 hb3' hxs3 hls3 hnext3 ⊢
   have hlen3 := congrArg List.length hxs3
   rw [List.length_map, List.length_append, offsStep_len, List.length_map, rz_len, List.length_take] at hlen3
   have hff3 := le_flat xs3
   have hkw : min k (offsAll (b.cs.take i)).length * wideRc x ≤ 27 * 3 := Nat.mul_le_mul (by omega) hwd
   refine Xs C<|Xr C I I<|Rm C I I<|Rf C 3 I I runUnderlying25 I sizeOf22<|R.loadOne C I I I isAgg22 (by repeat (first | exact Mh | apply Mt | apply List.mem_append_right)) I<|Rm C I I<|Rx C I I I runUnderlying22 sizeOf46<|R.fieldAddr C I I I runUnderlying46 I sizeOf3 I<|R.loadOneRo C I I I isAgg3 (hle3 _ _ (hle2 _ _ hropc)) hhi<|R.int C I I I I b_leq<|R.done C<|X.cond C.1 I (fun hle => ?_) (fun hle => ?_)
   ·have hle := hle
    simp only [dT] at hle
    refine X.skip C.1<|Xs C<|X.block C.1<|X.region C I I<|Rm C I I<|R.buildSlice C (vs := _) I I (show pvals _ _ = some (numbered 0 []) from rfl) I runUnderlying28 sizeOf3 zeroValue3 (by decide) (.nil) fun p39 => Rm C I I<|Rm C I I<|Rx C I I I runUnderlying149 sizeOf28<|R.loadOneRo C I I I isAgg28 (hle3 _ _ (hle2 _ _ hropa)) hx<|R.append (kk := 1) C I I I I runUnderlying28 runUnderlying28 (fun _ => nofun) (show prog.info? 3 = some Tryz.t3 by kernel_rfl) I I I (by decide) (by decide) (Buf.blk (cells := []) (spare := []) (len := 0) (cap := 0) I I (Nat.le_refl _)) (((hlk0.mono hle2).mono hle3).rd ic_len) (ones_ic l) (by simp only [List.length_nil]; omega) fun v' own' hb' => Rm C I I<|R.buildSlice C (vs := _) I I (show pvals _ _ = some (numbered 0 [_]) from rfl) I runUnderlying28 sizeOf3 zeroValue3 (by decide) (Cat.one I I) fun p46 => R.append1 (kk := 1) C I I I I runUnderlying28 runUnderlying28 (fun _ => nofun) (show prog.info? 3 = some Tryz.t3 by kernel_rfl) I I I (by decide) (by decide) hb' I I (by simp only [List.length_append, List.length_cons, List.length_nil]; omega) fun v' own' hb' => ?_
    have e3 : ([] ++ l.flatMap ic) ++ [Value.int .i64 (x.lo + (m : Int))] = (l ++ [x.lo + (m : Int)]).flatMap ic := by simp [List.flatMap_append, ic]
    rw [e3] at hb'
    refine R.finish C.1 ic_len (by decide) hb' fun ro4 hl4 hls4 => ?_
    obtain ⟨b4, c4, rfl⟩ := hls4.form
    refine R.buildSlice C (vs := _) I I (show pvals _ _ = some (numbered 0 [_]) from rfl) I runUnderlying149 sizeOf28 zeroValue28 (by decide) (Cat.one I I) fun p48 => R.append1 (kk := 1) C I I I I runUnderlying149 runUnderlying149 (fun _ => nofun) (show prog.info? 28 = some Tryz.t28 by kernel_rfl) I I I (by decide) (by decide) (hb3'.app _) I I (by simp only [List.length_append, List.length_cons, List.length_nil]; omega) fun v' own' hb' => Ad C I I<|X.inBlock C.1<|X.region C I I<|Rm C I I<|Ra C I I I<|Ad C I I ?_
    obtain ⟨own5, rfl, hb5⟩ := Buf.unapp (tail := []) hb'
    refine X.weaken ?_ (hnext3 (m + 1, ro4, _, xs3 ++ [(.slice b4 (l ++ [x.lo + (m : Int)]).length c4, l ++ [x.lo + (m : Int)])], own5) ⟨by omega, RO.le_trans hle3 hl4, by simpa [List.flatMap_append, le] using hb5, ?_, fun p hp => ?_⟩ (by omega))
    ·exact ⟨rfl, rfl, rfl, rfl, rfl, by simp [look]; omega, trivial⟩
    ·rw [List.map_append, hxs3, rz_take, List.map_append, List.append_assoc]; rfl
    ·rcases List.mem_append.1 hp with hp | hp
     ·exact (hls3 p hp).mono hl4
     ·rw [List.mem_singleton.1 hp]; exact hls4
   ·have hle := hle
    simp only [dF] at hle
    obtain rfl : m = wideRc x := by omega
    rw [← hstep] at hxs3
    refine X.exit C.1 I<|X.inBlock C.1<|X.region C I I<|Rm C I I<|Ra C I I I<|Ad C I I<|X.weaken ?_ (hnext2 (k + 1, ro3, _, xs3, own3) ⟨by omega, RO.le_trans hle2 hle3, hb3', hxs3, hls3⟩ (by omega))
    exact ⟨rfl, rfl, rfl, rfl, by simp [look], trivial⟩
  ·have hlt2 := hlt2
   simp only [dF] at hlt2
   obtain rfl : k = xs1.length := by omega
   rw [List.take_of_length_le (by omega), ← hsucc] at hxs2
   refine X.exit C.1 I<|X.region C I I<|R.finish C.1 le_len (by decide) (hb2.app _) fun ro4 hl4 hls4 => Rm C I I<|Ad C I I<|X.inBlock C.1<|X.region C I I<|Rm C I I<|Ra C I I I<|Ad C I I<|X.weaken ?_ (hnext (i + 1, ro4, _, xs2) ⟨by omega, RO.le_trans hle1 (RO.le_trans hle2 hl4), hls4, hxs2, fun p hp => (hls2 p hp).mono hl4⟩ (by omega))
   exact ⟨rfl, rfl, by simp [look], trivial⟩
 ·have hlt := hlt
  simp only [dF] at hlt
  obtain rfl : i = b.cs.length := by omega
  rw [List.take_length] at hxs1
  refine X.exit C.1 I<|Xr C I I<|Rm C I I<|Ad C I I<|Xt C func183<|Hr hret hle1 ?_
  exact ⟨xs1, hL10, hxs1, hls1⟩
end
end Go.Lg.B
namespace Go.Lg.B
open Go Go.Conc Go.Lg Go.Proofs Go.Proofs.Tryz
section
variable {main : Bool} {J : Goroutine → Mem → Prop} (hJ : Closed prog main J)
include hJ
theorem rightOfR_c (w : Wt) (s : Sq) (o : Int) (hw : w.s.ok) (hs : s.ok) (ho : -3 ≤ o ∧ o ≤ 3) (ro : RO) : CallP prog J (fnv 155) [w.val, s.val, .int .i64 o] ro (.bool (decide (w.s = s) || ((bearing w.s s + o + 8) % 8 == w.b))) := by
 have hr := bearing_range w.s s
 unfold Sq.ok at hw hs
 refine CallP.intro hJ (by kernel_rfl) fun c cs tail hret => enter_X (n := 31) func155 I I (Nl I) ?_
 have C : Ctx prog main J (bf 155 .normal) := ⟨hJ, by decide⟩
 refine Xr C I I<|R.box C I I I I fun p3 => R.box C I I I I fun p4 => Ad C I I<|Xs C<|Xr C I I<|Rf C 0 I I runUnderlying58 I sizeOf27<|R5 C I I isAgg27 sizeOf27 (by repeat constructor) Tk2<|R5 C I I isAgg27 sizeOf27 (by repeat constructor) Tk2<|R.eqAgg (p := [w.s.e, w.s.n]) (q := [s.e, s.n]) C I I I I eqT27 I I (by kernel_rfl)<|R.done C<|X.cond C.1 I (fun heq => ?_) (fun heq => ?_)
 ·have heq := heq
  refine Xr C I I<|Ad C I I<|Xt C func155<|Hp hret ?_
  obtain ⟨se, sn⟩ := s; obtain ⟨⟨we, wn⟩, wb, wk, wsu⟩ := w
  simp_all [retVal]
 ·have heq := heq
  refine X.skip C.1<|Xs C<|Xd C fun hok => Df (off' := 0) C 0 hok I I I runUnderlying27 I sizeOf3 I<|D1 C 1 hok I I isAgg3 (by repeat constructor) I<|Df (off' := 0) C 2 hok I I I runUnderlying58 I sizeOf27 I<|Df (off' := 0) C 3 hok I I I runUnderlying27 I sizeOf3 I<|D1 C 4 hok I I isAgg3 (by repeat constructor) I<|Di C 5 hok I I I I I (b_sub (by omega) (by omega))<|Df (off' := 1) C 6 hok I I I runUnderlying27 I sizeOf3 I<|D1 C 7 hok I I isAgg3 (by repeat constructor) I<|Df (off' := 0) C 8 hok I I I runUnderlying58 I sizeOf27 I<|Df (off' := 1) C 9 hok I I I runUnderlying27 I sizeOf3 I<|D1 C 10 hok I I isAgg3 (by repeat constructor) I<|Di C 11 hok I I I I I (b_sub (by omega) (by omega))<|Dm C 13 hok I I I<|Df (off' := 2) C 17 hok I I I runUnderlying58 I sizeOf3 I<|D1 C 18 hok I I isAgg3 (by repeat constructor) I<|De 12 (some 23) [true, false, false, false, false] hok (fun _ _ A hk => ?_)
  refine R.callP C I (A.w I I) (A.x I I) (A.s I I) (trueOfR_c hJ _ _ (by omega) (by omega) _) (hk _ _ ⟨(QFs.cons (QF.of I (fun _ _ A h => R.loadOne C I (A.w I I) (A.x I I) isAgg3 (by repeat constructor) I h)) QFs.nil), ?_⟩)
  refine D.fixv (t := 23) (v' := .int .i64 (bearing w.s s)) I (by (exact congrArg (Value.int .i64) (trueOf_bearing w.s s)))<|Di C 14 hok I I I I I (b_add (by omega) (by omega))<|Di C 15 hok I I I I I (b_add (by omega) (by omega))<|Di C 16 hok I I I I I (b_remP (by omega) (by omega))<|Di C 19 hok I I I I I b_eql<|Da C 20 hok I I<|D.done C hok (by kernel_rfl)<|Xt C func155<|Hp hret ?_
  obtain ⟨se, sn⟩ := s; obtain ⟨⟨we, wn⟩, wb, wk, wsu⟩ := w
  simp_all [retVal]
theorem sureOnesR_c {b : Bk} {v vl : Value} {ro : RO} {l : List Int} (hv : BkV ro v b) (hl : LsI ro vl l) (hn : l.length ≤ 1000000) (hr0 : ∀ k ∈ l, 0 ≤ k ∧ k < b.ws.length) : CallP prog J (fnv 88) [v, vl] ro (.bool (l.any fun k => (b.wt k.toNat).sure)) := by
 obtain ⟨vc, vw, rfl, hc, hw⟩ := hv
 obtain ⟨wb, wc, rfl⟩ := hw.form
 obtain ⟨lb, lc, rfl⟩ := hl.form
 refine CallP.intro hJ (by kernel_rfl) fun c cs tail hret => enter_X (n := 21) func88 I I (Nl I) ?_
 have C : Ctx prog main J (bf 88 .normal) := ⟨hJ, by decide⟩
 refine Xr C I I<|R.box C I I I I fun p2 => Ad C I I<|Xs C<|Xr C I I<|Ad C I I<|X.block C.1<|X.loopI (ι := Nat) C.1 (fun i => i ≤ l.length ∧ (l.any fun k => (b.wt k.toNat).sure) = ((l.drop i).any fun k => (b.wt k.toNat).sure)) (fun i => [(1, .slice lb l.length lc), (2, .pointer (some ⟨p2, 0, none⟩)), (5, .int .i64 (i : Int))])
  (fun _ => ⟨ro, (p2, .cells [.int .i64 b.w, .int .i64 b.h, .int .i64 b.f, vc, .slice wb b.ws.length wc].toArray 25 (0, 0)) :: tail⟩) (fun i => l.length - i) 0 ⟨Nat.zero_le _, rfl⟩ rfl ⟨rfl, rfl, rfl, trivial⟩ fun i hi hnext => ?_
 obtain ⟨hi, hr⟩ := hi
 refine Xs C<|Xr C I I<|Rm C I I<|Rm C I I<|Rn C I I runUnderlying28<|R.int C I I I I b_lss<|R.done C<|X.cond C.1 I (fun hlt => ?_) (fun hlt => ?_)
 ·have hlt := hlt
  simp only [dT] at hlt
  have hi' : i < l.length := by omega
  obtain ⟨pp, off, cap, ll, t, fq, hsl, hrop, hsub⟩ := hl.at ic_len (by omega)
  cases hsl
  have hx := ic_at hsub hi'
  rw [List.drop_eq_getElem_cons hi', List.any_cons] at hr
  obtain ⟨hk1, hk2⟩ := hr0 l[i] (List.getElem_mem hi')
  obtain ⟨pw, offw, capw, llw, tw, fqw, hslw, hropw, hsubw⟩ := hw.at Wt.len (by omega)
  cases hslw
  have hxw : llw[offw + (l[i]).toNat * 5 + 4]? = some (.bool (b.wt (l[i]).toNat).sure) := by
   have h1 : (l[i]).toNat < b.ws.length := by omega
   have := (hsubw _ h1).get 4 (by decide)
   rw [Bk.wt_get h1] at this
   simpa [Wt.cells] using this
  refine X.skip C.1<|Xs C<|X.block C.1<|Xs C<|Xd C fun hok => Df (off' := 4) C 0 hok I I I runUnderlying25 I sizeOf23 I<|D1 C 1 hok I I isAgg23 (by repeat constructor) I<|Dm C 2 hok I I I<|Dm C 3 hok I I I<|Dx C 4 hok I I I runUnderlying28 sizeOf3<|D2 C 5 hok I I isAgg3 hrop hx<|Dp 6 hok (fun _ _ _ A h => R.indexAddr C I (A.w I I) (A.x I I) (A.x I I) runUnderlying23 sizeOf58 hk1 hk2 h)<|Df C 7 hok I I I runUnderlying58 I sizeOf4 I<|D2 C 8 hok I I isAgg4 hropw hxw<|D.done C hok (by kernel_rfl)<|X.cond C.1 I (fun hs => ?_) (fun hs => ?_)
  ·have hs := hs
   rw [hs, Bool.true_or] at hr
   refine Xr C I I<|Ad C I I<|Xt C func88<|Hp hret ?_
   rw [hr]; rfl
  ·have hs := hs
   rw [hs, Bool.false_or] at hr
   refine X.skip C.1<|X.inBlock C.1<|X.region C I I<|Rm C I I<|Ra C I I I<|Ad C I I<|X.weaken ?_ (hnext (i + 1) ⟨hi', hr⟩ (by omega))
   exact ⟨rfl, rfl, by simp [look], trivial⟩
 ·have hlt := hlt
  simp only [dF] at hlt
  obtain rfl : i = l.length := by omega
  rw [List.drop_length] at hr
  refine X.exit C.1 I<|Xr C I I<|Ad C I I<|Xt C func88<|Hp hret ?_
  rw [hr]; rfl
end
end Go.Lg.B
namespace Go.Lg.B
open Go Go.Conc Go.Lg Go.Proofs Go.Proofs.Tryz
theorem all_range_succ (p : Nat → Bool) (n i : Nat) (h : i < n) : ((List.range n).drop i).all p = (p i && ((List.range n).drop (i + 1)).all p) := by
 rw [List.drop_eq_getElem_cons (by simpa using h), List.all_cons]
 simp
def rightIn (b : Bk) (c : Cs) (i : Nat) : Bool := c.f.contains (i : Int) || right (b.wt i) c.aim
section
variable {main : Bool} {J : Goroutine → Mem → Prop} (hJ : Closed prog main J)
include hJ
theorem allRightR_c {b : Bk} {c0 : Cs} {v vk : Value} {ro : RO} (hv : BkV ro v b) (hb : b.good) (hk : CsV ro vk c0) (hk2 : c0.short) (hs : c0.s.ok) (hlen : c0.o.length = b.cs.length) (hof : ∀ n ∈ c0.o, -3 ≤ n ∧ n ≤ 3) : CallP prog J (fnv 89) [v, vk] ro (.bool ((List.range b.ws.length).all fun i => c0.f.contains (i : Int) || right (b.wt i) c0.aim)) := by
 have hnc := hb.nc
 have hnw := hb.nw
 have hws := hb.ws
 obtain ⟨vc, vw, rfl, hc, hw⟩ := hv
 obtain ⟨wb, wc, rfl⟩ := hw.form
 obtain ⟨vo, vf, rfl, ho, hf⟩ := hk
 obtain ⟨ob, oc, rfl⟩ := ho.form
 obtain ⟨fb, fc, rfl⟩ := hf.form
 obtain ⟨hk1, hk2⟩ := hk2
 refine CallP.intro hJ (by kernel_rfl) fun c cs tail hret => enter_X (n := 37) func89 I I (Nl I) ?_
 have C : Ctx prog main J (bf 89 .normal) := ⟨hJ, by decide⟩
 refine Xr C I I<|R.box C I I I I fun p2 => R.box C I I I I fun p3 => Ad C I I<|Xs C<|Xr C I I<|Ad C I I<|X.block C.1<|X.loopI (ι := Nat) C.1 (fun i => i ≤ b.ws.length ∧ (List.range b.ws.length).all (rightIn b c0) = ((List.range b.ws.length).drop i).all (rightIn b c0)) (fun i => [(2, .pointer (some ⟨p2, 0, none⟩)), (3, .pointer (some ⟨p3, 0, none⟩)), (5, .int .i64 (i : Int))])
  (fun _ => ⟨ro, (p3, .cells [.int .i64 c0.s.e, .int .i64 c0.s.n, .slice ob c0.o.length oc, .slice fb c0.f.length fc].toArray 30 (0, 0)) :: (p2, .cells [.int .i64 b.w, .int .i64 b.h, .int .i64 b.f, vc, .slice wb b.ws.length wc].toArray 25 (0, 0)) :: tail⟩) (fun i => b.ws.length - i) 0 ⟨Nat.zero_le _, rfl⟩ rfl ⟨rfl, rfl, rfl, trivial⟩ fun i hi hnext => ?_
 obtain ⟨hi, hr⟩ := hi
 refine Xs C<|Xr C I I<|Rm C I I<|Rf C 4 I I runUnderlying25 I sizeOf23<|Rl C I I isAgg23 (by repeat constructor) I<|Rn C I I runUnderlying23<|R.int C I I I I b_lss<|R.done C<|X.cond C.1 I (fun hlt => ?_) (fun hlt => ?_)
 ·have hlt := hlt
  simp only [dT] at hlt
  have hi' : i < b.ws.length := by omega
  rw [all_range_succ _ _ _ hi'] at hr
  obtain ⟨pw, offw, capw, llw, tw, fqw, hslw, hropw, hsubw⟩ := hw.at Wt.len (by omega)
  cases hslw
  have hwi := hsubw i hi'
  obtain ⟨hwok, _, hk0, hk3⟩ := Wt.fine.ok (hws _ (List.getElem_mem hi'))
  rw [Bk.wt_get hi'] at hwi hwok hk0 hk3
  generalize hW : b.wt i = W at hwi hwok hk0 hk3
  have hkl : W.k.toNat < c0.o.length := by omega
  obtain ⟨po, offo, capo, llo, to, fqo, hslo, hropo, hsubo⟩ := ho.at ic_len (by omega)
  cases hslo
  have hxo : llo[offo + W.k.toNat * 1]? = some (.int .i64 (c0.o[W.k.toNat])) := ic_at hsubo hkl
  have hoff : c0.aim.off W.k = c0.o[W.k.toNat] := by
   have h3 : W.k = 0 ∨ W.k = 1 ∨ W.k = 2 := by omega
   rcases h3 with h | h | h <;> simp only [h, Aim.off, Cs.aim] <;> simp [List.getD_eq_getElem?_getD] <;> (rw [h] at hkl; simp at hkl; simp [hkl])
  have hoff3 := hof _ (List.getElem_mem hkl)
  by_cases hh : c0.f.contains (i : Int) = true
  ·have hri : rightIn b c0 i = true := by rw [rightIn, hh]; rfl
   refine X.skip C.1<|Xs C<|X.block C.1<|Xr C I I<|Rf C 4 I I runUnderlying25 I sizeOf23<|Rl C I I isAgg23 (by repeat constructor) I<|Rm C I I<|Rx C I I I runUnderlying23 sizeOf58<|R.loadAggRo C I I I isAgg58 sizeOf58 hropw hwi<|R.alloc C I I zeroValue58 I fun p6 => R.store C I I I I sizeOf58 I I I (by repeat (first | exact Uh | apply Ut)) (.here (.here (.here (.here (.here .nil)))))<|R.done C<|Xs C<|Xd C fun hok => Df (off' := 3) C 0 hok I I I runUnderlying30 I sizeOf28 I<|D1 C 1 hok I I isAgg28 (by repeat constructor) I<|Dm C 2 hok I I I<|De 3 (some 22) [false] hok (fun _ _ A hk => ?_)
   refine R.callP C I (A.w I I) (A.x I I) (A.s I I) (holdsR_c hJ hf (by omega) _) (hk _ _ ⟨QFs.nil, ?_⟩)
   refine Dp 4 hok (fun _ _ _ A h => R.not C I (A.w I I) (A.x I I) h)<|D.fixv (t := 23) (v' := .bool false) I (by (rw [hh]; rfl))<|Dm C 5 hok I I I<|Du C 6 hok I<|Du C 7 hok I<|Du C 8 hok I<|Du C 9 hok I<|Du C 10 hok I<|Du C 11 hok I<|Du C 12 hok I<|Du C 13 hok I<|Du C 14 hok I<|Du C 15 hok I<|Du C 16 hok I<|Dp 17 hok (fun _ _ _ A h => R.pickF C I (A.w I I) (A.x I I) (A.x I I) h)<|D.done C hok (by kernel_rfl)<|X.cond C.1 I (fun h => nomatch h) (fun _ => ?_)
   refine X.skip C.1<|X.inBlock C.1<|X.region C I I<|Rm C I I<|Ra C I I I<|Ad C I I ?_
   rw [hri, Bool.true_and] at hr
   refine X.weak C.1 (Weak.sub (List.sublist_cons_self _ _)) (X.weaken ?_ (hnext (i + 1) ⟨hi', hr⟩ (by omega)))
   exact ⟨rfl, rfl, by simp [look], trivial⟩
  ·have hh2 : c0.f.contains (i : Int) = false := by simpa using hh
   refine X.skip C.1<|Xs C<|X.block C.1<|Xr C I I<|Rf C 4 I I runUnderlying25 I sizeOf23<|Rl C I I isAgg23 (by repeat constructor) I<|Rm C I I<|Rx C I I I runUnderlying23 sizeOf58<|R.loadAggRo C I I I isAgg58 sizeOf58 hropw hwi<|R.alloc C I I zeroValue58 I fun p6 => R.store C I I I I sizeOf58 I I I (by repeat (first | exact Uh | apply Ut)) (.here (.here (.here (.here (.here .nil)))))<|R.done C<|Xs C<|Xd C fun hok => Df (off' := 3) C 0 hok I I I runUnderlying30 I sizeOf28 I<|D1 C 1 hok I I isAgg28 (by repeat constructor) I<|Dm C 2 hok I I I<|De 3 (some 22) [false] hok (fun _ _ A hk => ?_)
   refine R.callP C I (A.w I I) (A.x I I) (A.s I I) (holdsR_c hJ hf (by omega) _) (hk _ _ ⟨QFs.nil, ?_⟩)
   refine Dp 4 hok (fun _ _ _ A h => R.not C I (A.w I I) (A.x I I) h)<|D.fixv (t := 23) (v' := .bool true) I (by (rw [hh2]; rfl))<|Dm C 5 hok I I I<|D5 C 6 hok I I isAgg58 sizeOf58 (by repeat constructor) Tk5<|Df (off' := 0) C 7 hok I I I runUnderlying30 I sizeOf27 I<|D5 C 8 hok I I isAgg27 sizeOf27 (by repeat constructor) Tk2<|Df (off' := 2) C 9 hok I I I runUnderlying30 I sizeOf28 I<|D1 C 10 hok I I isAgg28 (by repeat constructor) I<|Df (off' := 3) C 11 hok I I I runUnderlying58 I sizeOf3 I<|D1 C 12 hok I I isAgg3 (by repeat constructor) I<|Dp 13 hok (fun _ _ _ A h => R.indexAddr C I (A.w I I) (A.x I I) (A.x I I) runUnderlying28 sizeOf3 hk0 (by omega) h)<|D2 C 14 hok I I isAgg3 hropo hxo<|De 15 (some 34) [false, false, false, false, false] hok (fun _ _ A hk => ?_)
   refine R.callP C I (A.w I I) (A.x I I) (A.s I I) (rightOfR_c hJ W c0.s _ hwok hs hoff3 _) (hk _ _ ⟨QFs.nil, ?_⟩)
   refine Dp 16 hok (fun _ _ _ A h => R.not C I (A.w I I) (A.x I I) h)<|Dp 17 hok (fun _ _ _ A h => R.pickT C I (A.w I I) (A.x I I) (A.x I I) h)<|D.done C hok (by kernel_rfl) ?_
   have hri : rightIn b c0 i = right W c0.aim := by rw [rightIn, hh2, hW]; rfl
   have hrr : right W c0.aim = (decide (W.s = c0.s) || ((bearing W.s c0.s + c0.o[W.k.toNat] + 8) % 8 == W.b)) := by rw [right, hoff]; rfl
   refine X.cond C.1 I (fun hq => ?_) (fun hq => ?_)
   ·have hq := hq
    rw [← hrr] at hq
    simp only [Bool.not_eq_true'] at hq
    rw [hri, hq, Bool.false_and] at hr
    refine Xr C I I<|Ad C I I<|Xt C func89<|Hp hret ?_
    exact congrArg Value.bool hr.symm
   ·have hq := hq
    rw [← hrr] at hq
    simp only [Bool.not_eq_false'] at hq
    rw [hri, hq, Bool.true_and] at hr
    refine X.skip C.1<|X.inBlock C.1<|X.region C I I<|Rm C I I<|Ra C I I I<|Ad C I I<|X.weak C.1 (Weak.sub (List.sublist_cons_self _ _)) (X.weaken ?_ (hnext (i + 1) ⟨hi', hr⟩ (by omega)))
    exact ⟨rfl, rfl, by simp [look], trivial⟩
 ·have hlt := hlt
  simp only [dF] at hlt
  obtain rfl : i = b.ws.length := by omega
  rw [List.drop_eq_nil_of_le (by simp)] at hr
  refine X.exit C.1 I<|Xr C I I<|Ad C I I<|Xt C func89<|Hp hret ?_
  exact congrArg Value.bool hr.symm
end
end Go.Lg.B
namespace Go.Lg.B
open Go Go.Conc Go.Lg Go.Proofs Go.Proofs.Tryz
abbrev CE := (Value × Value) × Cs
def ce (p : CE) : List Value := [.int .i64 p.2.s.e, .int .i64 p.2.s.n, p.1.1, p.1.2]
theorem ce_len (p : CE) : (ce p).length = 4 := rfl
def LC (ro : RO) (v : Value) (l : List Cs) : Prop := ∃ xs : List CE, Ls ce 4 ro v xs ∧ xs.map (·.2) = l ∧ ∀ p ∈ xs, LsI ro p.1.1 p.2.o ∧ LsI ro p.1.2 p.2.f
def allR (b : Bk) (c : Cs) : Bool := (List.range b.ws.length).all fun i => c.f.contains (i : Int) || right (b.wt i) c.aim
def withAt (b : Bk) (l : List Int) (s : Sq) (os : List (List Int)) : List Cs := (os.filter fun o => allR b ⟨s, o, l⟩).map fun o => ⟨s, o, l⟩
def withFalse (b : Bk) (l : List Int) : List Cs := (squares b).flatMap fun s => withAt b l s (offsAll b.cs)
theorem withAt_take (b : Bk) (l : List Int) (s : Sq) (os : List (List Int)) {k : Nat} (h : k < os.length) : withAt b l s (os.take (k + 1)) = withAt b l s (os.take k) ++ (if allR b ⟨s, os[k], l⟩ = true then [⟨s, os[k], l⟩] else []) := by
 unfold withAt
 rw [List.take_add_one, List.getElem?_eq_getElem h, List.filter_append, List.map_append]
 congr 1
 by_cases hm : allR b ⟨s, os[k], l⟩ = true <;> simp [hm]
theorem withAt_len (b : Bk) (l : List Int) (s : Sq) (os : List (List Int)) : (withAt b l s os).length ≤ os.length := by
 unfold withAt; rw [List.length_map]; exact List.length_filter_le _ _
theorem flat_take {α β : Type} (f : α → List β) (l : List α) {i : Nat} (h : i < l.length) : (l.take (i + 1)).flatMap f = (l.take i).flatMap f ++ f l[i] := by
 rw [List.take_add_one, List.getElem?_eq_getElem h, List.flatMap_append]; simp
theorem flat_bound {α β : Type} (f : α → List β) (m : Nat) (h : ∀ x, (f x).length ≤ m) : ∀ l : List α, (l.flatMap f).length ≤ l.length * m
 | [] => by simp
 | x :: l => by
  have := flat_bound f m h l
  have := h x
  simp only [List.flatMap_cons, List.length_append, List.length_cons, Nat.succ_mul]; omega
theorem offsAll_in {l : List Rc} (hf : ∀ x ∈ l, x.fine = true) : ∀ i, i ≤ l.length → ∀ o ∈ offsAll (l.take i), ∀ n ∈ o, -3 ≤ n ∧ n ≤ 3
 | 0, _, o, ho => by simp [offsAll] at ho; simp [ho]
 | i + 1, hi, o, ho => by
  rw [offsAll_succ l (by omega)] at ho
  obtain ⟨o', h1, h2⟩ := List.mem_flatMap.1 ho
  obtain ⟨n, hn, rfl⟩ := List.mem_map.1 h2
  have hfx := hf _ (List.getElem_mem (show i < l.length by omega))
  simp only [Rc.fine, isReach, Bool.and_eq_true, decide_eq_true_eq] at hfx
  rw [rz_iff] at hn
  intro m hm
  rcases List.mem_append.1 hm with hm | hm
  ·exact offsAll_in hf i (by omega) o' h1 m hm
  ·rw [List.mem_singleton.1 hm]; unfold wideRc at hn; omega
theorem ce_flat (xs : List CE) : (xs.flatMap ce).length = xs.length * 4 := flatMap_len ce_len xs
theorem squares_ok {b : Bk} (hb : b.good) : ∀ s ∈ squares b, s.ok := by
 intro s hs
 obtain ⟨n, hn, rfl⟩ := List.mem_map.1 hs
 have hn := List.mem_range.1 hn
 have hw := hb.w
 have hh := hb.h
 have h49 : b.w * b.h ≤ 49 := by
  have : b.w * b.h ≤ 7 * 7 := Int.mul_le_mul hw.2 hh.2 (by omega) (by decide)
  omega
 have h1 := Int.emod_nonneg (n : Int) (show b.w ≠ 0 by omega)
 have h2 := Int.emod_lt_of_pos (n : Int) (show 0 < b.w by omega)
 have h3 : 0 ≤ (n : Int) / b.w := Int.ediv_nonneg (by omega) (by omega)
 have h4 : (n : Int) / b.w ≤ n := Int.ediv_le_self _ (by omega)
 unfold Sq.ok sqAt
 simp only
 omega
theorem squares_len {b : Bk} (hb : b.good) : (squares b).length ≤ 49 := by
 have hw := hb.w
 have hh := hb.h
 have h49 : b.w * b.h ≤ 49 := by
  have : b.w * b.h ≤ 7 * 7 := Int.mul_le_mul hw.2 hh.2 (by omega) (by decide)
  omega
 simp [squares]; omega
section
variable {main : Bool} {J : Goroutine → Mem → Prop} (hJ : Closed prog main J)
include hJ
theorem withFalseR_c {b : Bk} {v vl : Value} {ro : RO} {l : List Int} (hv : BkV ro v b) (hb : b.good) (hl : LsI ro vl l) (hn : l.length ≤ 1000) : CallR prog J (fnv 156) [v, vl] ro (fun x ro' => LC ro' x (withFalse b l)) := by
 have hvv := hv
 obtain ⟨vc, vw, rfl, hc, hw⟩ := hv
 have hnc := hb.nc
 have hfine := hb.cs
 have hsql := squares_len hb
 have hofl := offsAll_len hfine b.cs.length (Nat.le_refl _)
 have hofe := offsAll_each b.cs b.cs.length (Nat.le_refl _)
 have hofi := offsAll_in hfine b.cs.length (Nat.le_refl _)
 rw [List.take_length] at hofl hofe hofi
 have hpow : 3 ^ b.cs.length ≤ 3 ^ 3 := Nat.pow_le_pow_right (by decide) (by omega)
 obtain ⟨lb, lc, rfl⟩ := hl.form
 refine CallR.intro hJ (by kernel_rfl) fun c cs tail hret => enter_X (n := 45) func156 I I (Nl I) ?_
 have C : Ctx prog main J (bf 156 .normal) := ⟨hJ, by decide⟩
 refine Xr C I I<|R.box C I I I I fun p2 => Ad C I I<|Xs C<|Xd C fun hok => D5 C 0 hok I I isAgg25 sizeOf25 (by repeat constructor) Tk5<|D5 C 2 hok I I isAgg25 sizeOf25 (by repeat constructor) Tk5<|De 1 (some 12) [true, false] hok (fun _ _ A hk => ?_)
 refine R.callR C I (A.w I I) (A.x I I) (A.s I I) ((squaresR_c hJ hvv hb)) fun vS roS hlS hS => hk _ _ ⟨(QFs.cons (QF.of I (fun _ _ A h => R.loadAgg C I (A.w I I) (A.x I I) isAgg25 sizeOf25 (by repeat constructor) Tk5 h)) QFs.nil), ?_⟩
 refine De 3 (some 14) [false] hok (fun _ _ A hk => ?_)
 refine R.callR C I (A.w I I) (A.x I I) (A.s I I) ((offsR_c hJ (hvv.mono hlS) hb)) fun vO roO hlO hO => hk _ _ ⟨QFs.nil, ?_⟩
 refine Da C 4 hok I I<|Da C 5 hok I I<|D.done C hok (by kernel_rfl)<|Xr C I I<|Ad C I I<|Xs C<|Xr C I I<|Ad C I I<|X.block C.1 ?_
 obtain ⟨sb, sc, rfl⟩ := hS.form
 obtain ⟨xO, hOL, hxO, hlO2⟩ := hO
 have hOL0 := hOL
 obtain ⟨ob, oc, rfl⟩ := hOL.form
 have hxOl := congrArg List.length hxO
 rw [List.length_map] at hxOl
 have hvO := (hvv.mono hlS).mono hlO
 have hlOO := (hl.mono hlS).mono hlO
 refine X.loopI (ι := Nat × Value × List CE × List (Nat × Obj)) C.1 (fun s => s.1 ≤ (squares b).length ∧ Buf 30 4 [] s.2.1 (s.2.2.1.flatMap ce) s.2.2.2 ∧ s.2.2.1.map (·.2) = ((squares b).take s.1).flatMap (fun q => withAt b l q (offsAll b.cs)) ∧ ∀ p ∈ s.2.2.1, LsI roO p.1.1 p.2.o ∧ LsI roO p.1.2 p.2.f) (fun s => [(1, .slice lb l.length lc), (2, .pointer (some ⟨p2, 0, none⟩)), (5, .slice sb (squares b).length sc), (6, .slice ob xO.length oc), (7, s.2.1), (8, .int .i64 (s.1 : Int))])
  (fun s => ⟨roO, s.2.2.2 ++ (p2, .cells [.int .i64 b.w, .int .i64 b.h, .int .i64 b.f, vc, vw].toArray 25 (0, 0)) :: tail⟩) (fun s => (squares b).length - s.1) (0, .slice none 0 0, [], []) ⟨Nat.zero_le _, .nil, by simp, fun p hp => nomatch hp⟩ rfl ⟨rfl, rfl, rfl, rfl, rfl, rfl, trivial⟩ fun s hs hnext => ?_
 obtain ⟨i, v1, xs1, own1⟩ := s
 obtain ⟨hi, hb1, hxs1, hls1⟩ := hs
 simp only at hi hb1 hxs1 hls1 hnext ⊢
 refine Xs C<|Xr C I I<|Rm C I I<|Rm C I I<|Rn C I I runUnderlying41<|R.int C I I I I b_lss<|R.done C<|X.cond C.1 I (fun hlt => ?_) (fun hlt => ?_)
 ·have hlt := hlt
  simp only [dT] at hlt
  have hi' : i < (squares b).length := by omega
  have hsok := squares_ok hb _ (List.getElem_mem hi')
  have hsucc := flat_take (fun q => withAt b l q (offsAll b.cs)) (squares b) hi'
  obtain ⟨ps, offs', caps, lls, ts, fqs, hsls, hrops, hsubs⟩ := (hS.mono hlO).at Sq.len (by omega)
  cases hsls
  have hsi := hsubs i hi'
  generalize hQ : (squares b)[i] = q at hsok hsucc hsi
  refine X.skip C.1<|Xs C<|X.block C.1<|Xr C I I<|Ad C I I<|X.block C.1<|X.loopI (ι := Nat × Value × List CE × List (Nat × Obj)) C.1 (fun s => s.1 ≤ xO.length ∧ Buf 30 4 [] s.2.1 (s.2.2.1.flatMap ce) s.2.2.2 ∧ s.2.2.1.map (·.2) = ((squares b).take i).flatMap (fun q => withAt b l q (offsAll b.cs)) ++ withAt b l q ((offsAll b.cs).take s.1) ∧ ∀ p ∈ s.2.2.1, LsI roO p.1.1 p.2.o ∧ LsI roO p.1.2 p.2.f) (fun s => [(1, .slice lb l.length lc), (2, .pointer (some ⟨p2, 0, none⟩)), (5, .slice (some ⟨ps, offs', none⟩) (squares b).length sc), (6, .slice ob xO.length oc), (7, s.2.1), (8, .int .i64 (i : Int)), (9, .int .i64 (s.1 : Int))])
   (fun s => ⟨roO, s.2.2.2 ++ (p2, .cells [.int .i64 b.w, .int .i64 b.h, .int .i64 b.f, vc, vw].toArray 25 (0, 0)) :: tail⟩) (fun s => xO.length - s.1) (0, v1, xs1, own1) ⟨Nat.zero_le _, hb1, by simp [hxs1, withAt], hls1⟩ rfl ⟨rfl, rfl, rfl, rfl, rfl, rfl, rfl, trivial⟩ fun s hs hnext2 => ?_
  obtain ⟨k, v2, xs2, own2⟩ := s
  obtain ⟨hk, hb2, hxs2, hls2⟩ := hs
  simp only at hk hb2 hxs2 hls2 hnext2 ⊢
  have hlen2 := congrArg List.length hxs2
  rw [List.length_map, List.length_append] at hlen2
  have hbd1 := flat_bound (fun q => withAt b l q (offsAll b.cs)) 27 (fun q => Nat.le_trans (withAt_len b l q _) (by omega)) ((squares b).take i)
  have hbd2 := withAt_len b l q ((offsAll b.cs).take k)
  rw [List.length_take] at hbd1 hbd2
  have hff2 := ce_flat xs2
  refine Xs C<|Xr C I I<|Rm C I I<|Rm C I I<|Rn C I I runUnderlying149<|R.int C I I I I b_lss<|R.done C<|X.cond C.1 I (fun hlt2 => ?_) (fun hlt2 => ?_)
  ·have hlt2 := hlt2
   simp only [dT] at hlt2
   have hk' : k < xO.length := by omega
   have hk1 : k < (offsAll b.cs).length := by omega
   have hstep := withAt_take b l q (offsAll b.cs) hk1
   have hxk : xO[k].2 = (offsAll b.cs)[k] := by
    have h1 : (xO.map (·.2))[k]? = some (offsAll b.cs)[k] := by rw [hxO, List.getElem?_eq_getElem hk1]
    rw [List.getElem?_map, List.getElem?_eq_getElem hk'] at h1
    simpa using h1
   have hlk := hlO2 _ (List.getElem_mem hk')
   have hol := hofe _ (List.getElem_mem hk1)
   have hoi := hofi _ (List.getElem_mem hk1)
   rw [← hxk] at hstep hol hoi
   obtain ⟨pa, offa, capa, lla, ta, fqa, hsla, hropa, hsuba⟩ := hOL0.at le_len (by omega)
   cases hsla
   have hx := le_at hsuba hk'
   generalize hL : xO[k].2 = o at hlk hstep hol hoi
   generalize xO[k].1 = vk at hx hlk
   have hlk0 := hlk
   obtain ⟨bk, ck, rfl⟩ := hlk.form
   refine X.skip C.1<|Xs C<|X.block C.1<|Xs C<|Xd C fun hok => Dm C 0 hok I I I<|Dm C 1 hok I I I<|Dx C 2 hok I I I runUnderlying41 sizeOf27<|Dl 3 hok (fun _ _ A h => R.loadAggRo C I (A.w I I) (A.x I I) isAgg27 sizeOf27 hrops hsi h)<|Dm C 4 hok I I I<|Dm C 5 hok I I I<|Dx C 6 hok I I I runUnderlying149 sizeOf28<|D2 C 7 hok I I isAgg28 hropa hx<|Dm C 8 hok I I I<|Dp 9 hok (fun _ _ _ A h => R.build C I (A.w I I) (A.p I I) zeroValue30 I runUnderlying30 (by kernel_rfl) (Fills.part I I sizeOf27 I (.here (.here .nil)) (Fills.part I I sizeOf28 I (.skip (.skip (.here .nil))) (Fills.part I I sizeOf28 I (.skip (.skip (.skip (.here .nil)))) .nil))) h)<|De 10 (some 10) [true, true] hok (fun _ _ A hk => ?_)
   refine R.alloc C I (A.w I I) zeroValue30 I fun p10 => hk _ _ ⟨(QFs.cons (QF.of I (fun _ _ A h => R.loadOneRo C I (A.w I I) (A.x I I) isAgg28 hropa hx h)) (QFs.cons (QF.of I (fun _ _ A h => R.loadAggRo C I (A.w I I) (A.x I I) isAgg27 sizeOf27 hrops hsi h)) QFs.nil)), ?_⟩
   refine De 11 none [false, false] hok (fun _ _ A hk => ?_)
   refine R.store C I (A.w I I) (A.x I I) (A.x I I) sizeOf30 I I I (by repeat (first | exact Uh | apply Ut | apply Upd.app)) (.here (.here (.here (.here .nil)))) (hk undef _ ⟨QFs.nil, ?_⟩)
   refine D.done C hok (by kernel_rfl)<|Xr C I I<|R.loadAgg C I I I isAgg25 sizeOf25 (by repeat (first | exact Mh | apply Mt | apply List.mem_append_right)) Tk5<|R.loadAgg C I I I isAgg30 sizeOf30 (by repeat (first | exact Mh | apply Mt | apply List.mem_append_right)) Tk4 ?_
   have hkc : CsV roO (.agg [.int .i64 q.e, .int .i64 q.n, .slice bk o.length ck, .slice lb l.length lc].toArray) ⟨q, o, l⟩ := ⟨_, _, rfl, hlk0, hlOO⟩
   refine R.callP C I I I I (allRightR_c hJ hvO hb hkc ⟨by simp only; omega, by simp only; omega⟩ hsok hol hoi)<|R.done C<|X.cond C.1 I (fun hr => ?_) (fun hr => ?_)
   ·have hr := hr
    have hr2 : allR b ⟨q, o, l⟩ = true := hr
    rw [if_pos hr2] at hstep
    refine X.region C I I<|Rm C I I<|R.loadAgg C I I I isAgg30 sizeOf30 (by repeat (first | exact Mh | apply Mt | apply List.mem_append_right)) Tk4<|R.buildSlice C (vs := _) I I (show pvals _ _ = some (numbered 0 [_]) from rfl) I runUnderlying122 sizeOf30 zeroValue30 (by decide) (Cat.one I I) fun p42 => R.append2 (kk := 4) C [(p10, .cells [.int .i64 q.e, .int .i64 q.n, .slice bk o.length ck, .slice lb l.length lc].toArray 30 (0, 0))] I I I I runUnderlying122 runUnderlying122 (fun _ => nofun) (show prog.info? 30 = some Tryz.t30 by kernel_rfl) I I I (by decide) (by decide) (hb2.app _) I I (by simp only [List.length_append, List.length_cons, List.length_nil]; omega) fun v' own' hb' => Ad C I I<|X.inBlock C.1<|X.region C I I<|Rm C I I<|Ra C I I I<|Ad C I I ?_
    obtain ⟨own3, rfl, hb3⟩ := Buf.unapp (tail := []) hb'
    refine X.weak C.1 (Weak.sub (List.sublist_cons_self _ _)) (X.weaken ?_ (hnext2 (k + 1, _, xs2 ++ [((.slice bk o.length ck, .slice lb l.length lc), ⟨q, o, l⟩)], own3) ⟨by omega, by simpa [List.flatMap_append, ce] using hb3, by rw [List.map_append, hxs2, hstep, List.append_assoc]; rfl, fun p hp => ?_⟩ (by omega)))
    ·exact ⟨rfl, rfl, rfl, rfl, rfl, rfl, by simp [look], trivial⟩
    ·rcases List.mem_append.1 hp with hp | hp
     ·exact hls2 p hp
     ·rw [List.mem_singleton.1 hp]; exact ⟨hlk0, hlOO⟩
   ·have hr := hr
    have hr2 : ¬ allR b ⟨q, o, l⟩ = true := by rw [show allR b ⟨q, o, l⟩ = false from hr]; simp
    rw [if_neg hr2, List.append_nil] at hstep
    refine X.skip C.1<|X.inBlock C.1<|X.region C I I<|Rm C I I<|Ra C I I I<|Ad C I I<|X.weak C.1 (Weak.sub (List.sublist_cons_self _ _)) (X.weaken ?_ (hnext2 (k + 1, v2, xs2, own2) ⟨by omega, hb2, by rw [hxs2, hstep], hls2⟩ (by omega)))
    exact ⟨rfl, rfl, rfl, rfl, rfl, rfl, by simp [look], trivial⟩
  ·have hlt2 := hlt2
   simp only [dF] at hlt2
   obtain rfl : k = xO.length := by omega
   rw [List.take_of_length_le (show (offsAll b.cs).length ≤ xO.length by omega), ← hsucc] at hxs2
   refine X.exit C.1 I<|X.inBlock C.1<|X.region C I I<|Rm C I I<|Ra C I I I<|Ad C I I<|X.weaken ?_ (hnext (i + 1, v2, xs2, own2) ⟨by omega, hb2, hxs2, hls2⟩ (by omega))
   exact ⟨rfl, rfl, rfl, rfl, rfl, by simp [look], trivial⟩
 ·have hlt := hlt
  simp only [dF] at hlt
  obtain rfl : i = (squares b).length := by omega
  rw [List.take_length] at hxs1
  refine X.exit C.1 I<|Xr C I I<|R.finish C.1 ce_len (by decide) (hb1.app _) fun ro3 hl3 hls3 => Rm C I I<|Ad C I I<|Xt C func156<|Hr hret (RO.le_trans hlS (RO.le_trans hlO hl3)) ?_
  exact ⟨xs1, hls3, hxs1, fun p hp => ⟨(hls1 p hp).1.mono hl3, (hls1 p hp).2.mono hl3⟩⟩
end
end Go.Lg.B
namespace Go.Lg.B
open Go Go.Conc Go.Lg Go.Proofs Go.Proofs.Tryz
theorem sets_range (most : Int) : ∀ n, ∀ l ∈ sets most n, ∀ k ∈ l, 0 ≤ k ∧ k < (n : Int)
 | 0, l, h => by simp [sets] at h; simp [h]
 | n + 1, l, h => by
  rcases List.mem_append.1 h with h | h
  ·intro k hk
   have := sets_range most n l h k hk; omega
  ·obtain ⟨x, hx, rfl⟩ := List.mem_map.1 h
   intro k hk
   rcases List.mem_append.1 hk with hk | hk
   ·have := sets_range most n x (List.mem_filter.1 hx).1 k hk; omega
   ·rw [List.mem_singleton.1 hk]; omega
def noSure (b : Bk) (l : List Int) : Bool := !(l.any fun k => (b.wt k.toNat).sure)
def casesL (b : Bk) : List Cs := ((sets b.f b.ws.length).filter (noSure b)).flatMap (withFalse b)
theorem filt_take {α β : Type} (p : α → Bool) (f : α → List β) (l : List α) {i : Nat} (h : i < l.length) : ((l.take (i + 1)).filter p).flatMap f = ((l.take i).filter p).flatMap f ++ (if p l[i] = true then f l[i] else []) := by
 rw [List.take_add_one, List.getElem?_eq_getElem h, List.filter_append, List.flatMap_append]
 congr 1
 by_cases hp : p l[i] = true <;> simp [hp]
theorem withFalse_len {b : Bk} (hb : b.good) (l : List Int) : (withFalse b l).length ≤ 49 * 27 := by
 have hofl := offsAll_len hb.cs b.cs.length (Nat.le_refl _)
 rw [List.take_length] at hofl
 have hpow : 3 ^ b.cs.length ≤ 3 ^ 3 := Nat.pow_le_pow_right (by decide) hb.nc.2
 have := flat_bound (fun q => withAt b l q (offsAll b.cs)) 27 (fun q => Nat.le_trans (withAt_len b l q _) (by omega)) (squares b)
 exact Nat.le_trans this (Nat.mul_le_mul_right _ (squares_len hb))
theorem ones_ce {ro : RO} : ∀ {xs : List CE}, (∀ p ∈ xs, LsI ro p.1.1 p.2.o ∧ LsI ro p.1.2 p.2.f) → ones (xs.flatMap ce) = true
 | [], _ => rfl
 | p :: xs, h => by
  have ih := ones_ce (xs := xs) fun q hq => h q (List.mem_cons_of_mem _ hq)
  obtain ⟨h1, h2⟩ := h p List.mem_cons_self
  obtain ⟨⟨v1, v2⟩, c⟩ := p
  simp only at h1 h2
  obtain ⟨b1, c1, rfl⟩ := h1.form
  obtain ⟨b2, c2, rfl⟩ := h2.form
  simp only [List.flatMap_cons, ce, List.cons_append, List.nil_append, ones, oneCell, ih, Bool.and_self, Bool.true_and]
theorem LC.mono {ro ro' : RO} {v : Value} {l : List Cs} (h : LC ro v l) (hl : ro.le ro') : LC ro' v l := by
 obtain ⟨xs, h1, h2, h3⟩ := h
 exact ⟨xs, h1.mono hl, h2, fun p hp => ⟨(h3 p hp).1.mono hl, (h3 p hp).2.mono hl⟩⟩
def knownH (b : Bk) (there : Bool) : Int := if checkChart b ≠ 0 then checkChart b else if there = false then 6 else if casesL b = [] then 9 else 0
def KnownV (ro : RO) (b : Bk) (there : Bool) (x : Value) : Prop := ∃ vl, x = .tuple [vl, .int .i64 (knownH b there)].toArray ∧ (knownH b there = 0 → LC ro vl (casesL b)) ∧ (knownH b there ≠ 0 → vl = .slice none 0 0)
section
variable {main : Bool} {J : Goroutine → Mem → Prop} (hJ : Closed prog main J)
include hJ
theorem casesOfR_c {b : Bk} {v : Value} {ro : RO} (hv : BkV ro v b) (hb : b.good) : CallR prog J (fnv 92) [v] ro (fun x ro' => LC ro' x (casesL b)) := by
 have hvv := hv
 obtain ⟨vc, vw, rfl, hc, hw⟩ := hv
 have hnw := hb.nw
 obtain ⟨wb, wc, rfl⟩ := hw.form
 have hsl := sets_len b.f b.ws.length
 have hse := sets_each b.f b.ws.length
 have hsr := sets_range b.f b.ws.length
 have hpow : 2 ^ b.ws.length ≤ 2 ^ 5 := Nat.pow_le_pow_right (by decide) hnw
 refine CallR.intro hJ (by kernel_rfl) fun c cs tail hret => enter_X (n := 34) func92 I I (Nl I) ?_
 have C : Ctx prog main J (bf 92 .normal) := ⟨hJ, by decide⟩
 refine Xr C I I<|R.box C I I I I fun p1 => Ad C I I<|Xr C I I<|Rf C 4 I I runUnderlying25 I sizeOf23<|Rl C I I isAgg23 (by repeat constructor) I<|Rn C I I runUnderlying23<|Rf C 2 I I runUnderlying25 I sizeOf3<|Rl C I I isAgg3 (by repeat constructor) I<|R.callR C I I I I ((setsR_c hJ (n := b.ws.length) (most := b.f) hnw)) fun vT roT hlT hT => Ad C I I<|Xr C I I<|Ad C I I<|Xs C<|Xr C I I<|Ad C I I<|X.block C.1 ?_
 obtain ⟨xT, hTL, hxT, hlT2⟩ := hT
 have hTL0 := hTL
 obtain ⟨tb, tc, rfl⟩ := hTL.form
 have hxTl := congrArg List.length hxT
 rw [List.length_map] at hxTl
 refine X.loopI (ι := Nat × RO × Value × List CE × List (Nat × Obj)) C.1 (fun s => s.1 ≤ xT.length ∧ roT.le s.2.1 ∧ Buf 30 4 [] s.2.2.1 (s.2.2.2.1.flatMap ce) s.2.2.2.2 ∧ s.2.2.2.1.map (·.2) = (((sets b.f b.ws.length).take s.1).filter (noSure b)).flatMap (withFalse b) ∧ ∀ p ∈ s.2.2.2.1, LsI s.2.1 p.1.1 p.2.o ∧ LsI s.2.1 p.1.2 p.2.f) (fun s => [(1, .pointer (some ⟨p1, 0, none⟩)), (3, .slice tb xT.length tc), (4, s.2.2.1), (5, .int .i64 (s.1 : Int))])
  (fun s => ⟨s.2.1, s.2.2.2.2 ++ (p1, .cells [.int .i64 b.w, .int .i64 b.h, .int .i64 b.f, vc, .slice wb b.ws.length wc].toArray 25 (0, 0)) :: tail⟩) (fun s => xT.length - s.1) (0, roT, .slice none 0 0, [], []) ⟨Nat.zero_le _, RO.le_refl _, .nil, by simp, fun p hp => nomatch hp⟩ rfl ⟨rfl, rfl, rfl, rfl, trivial⟩ fun s hs hnext => ?_
 obtain ⟨i, ro1, v1, xs1, own1⟩ := s
 obtain ⟨hi, hle1, hb1, hxs1, hls1⟩ := hs
 simp only at hi hle1 hb1 hxs1 hls1 hnext ⊢
 have hlen1 := congrArg List.length hxs1
 rw [List.length_map] at hlen1
 have hbd1 := flat_bound (withFalse b) (49 * 27) (withFalse_len hb) (((sets b.f b.ws.length).take i).filter (noSure b))
 have hbd2 : (((sets b.f b.ws.length).take i).filter (noSure b)).length ≤ 32 := by
  refine Nat.le_trans (List.length_filter_le _ _) ?_
  rw [List.length_take]; omega
 have hbd3 := Nat.mul_le_mul_right (49 * 27) hbd2
 have hff1 := ce_flat xs1
 refine Xs C<|Xr C I I<|Rm C I I<|Rm C I I<|Rn C I I runUnderlying149<|R.int C I I I I b_lss<|R.done C<|X.cond C.1 I (fun hlt => ?_) (fun hlt => ?_)
 ·have hlt := hlt
  simp only [dT] at hlt
  have hi' : i < xT.length := by omega
  have hi1 : i < (sets b.f b.ws.length).length := by omega
  have hstep := filt_take (noSure b) (withFalse b) (sets b.f b.ws.length) hi1
  have hxi : xT[i].2 = (sets b.f b.ws.length)[i] := by
   have h1 : (xT.map (·.2))[i]? = some (sets b.f b.ws.length)[i] := by rw [hxT, List.getElem?_eq_getElem hi1]
   rw [List.getElem?_map, List.getElem?_eq_getElem hi'] at h1
   simpa using h1
  have hli := hlT2 _ (List.getElem_mem hi')
  have hle5 := hse _ (List.getElem_mem hi1)
  have hrng := hsr _ (List.getElem_mem hi1)
  rw [← hxi] at hstep hle5 hrng
  obtain ⟨pa, offa, capa, lla, ta, fqa, hsla, hropa, hsuba⟩ := hTL0.at le_len (by omega)
  cases hsla
  have hx := le_at hsuba hi'
  generalize hL : xT[i].2 = l at hli hstep hle5 hrng
  generalize xT[i].1 = vk at hx hli
  have hli1 := hli.mono hle1
  obtain ⟨bk, ck, rfl⟩ := hli.form
  have hv1 := (hvv.mono hlT).mono hle1
  refine X.skip C.1<|Xs C<|X.block C.1<|Xs C<|Xd C fun hok => Dl 0 hok (fun _ _ A h => R.loadAgg C I (A.w I I) (A.x I I) isAgg25 sizeOf25 (by repeat (first | exact Mh | apply Mt | apply List.mem_append_right)) Tk5 h)<|Dm C 1 hok I I I<|Dm C 2 hok I I I<|Dx C 3 hok I I I runUnderlying149 sizeOf28<|D2 C 4 hok I I isAgg28 (hle1 _ _ hropa) hx<|De 5 (some 23) [false, false] hok (fun _ _ A hk => ?_)
  refine R.callP C I (A.w I I) (A.x I I) (A.s I I) (sureOnesR_c hJ hv1 hli1 (by omega) hrng) (hk _ _ ⟨QFs.nil, ?_⟩)
  refine Dp 6 hok (fun _ _ _ A h => R.not C I (A.w I I) (A.x I I) h)<|D.done C hok (by kernel_rfl)<|X.cond C.1 I (fun hq => ?_) (fun hq => ?_)
  ·have hq := hq
   have hq2 : noSure b l = true := hq
   rw [if_pos hq2] at hstep
   refine Xd C fun hok => Dm C 0 hok I I I<|Dl 1 hok (fun _ _ A h => R.loadAgg C I (A.w I I) (A.x I I) isAgg25 sizeOf25 (by repeat (first | exact Mh | apply Mt | apply List.mem_append_right)) Tk5 h)<|Dm C 2 hok I I I<|Dm C 3 hok I I I<|Dx C 4 hok I I I runUnderlying149 sizeOf28<|D2 C 5 hok I I isAgg28 (hle1 _ _ hropa) hx<|De 6 (some 31) [false, false] hok (fun _ _ A hk => ?_)
   refine R.callR C I (A.w I I) (A.x I I) (A.s I I) ((withFalseR_c hJ hv1 hb hli1 (by omega))) fun vW roW hlW hW => hk _ _ ⟨QFs.nil, ?_⟩
   refine De 7 (some 32) [] hok (fun _ _ A hk => ?_)
   obtain ⟨xW, hWL, hxW, hlW2⟩ := hW
   have hxWl := congrArg List.length hxW
   rw [List.length_map] at hxWl
   have hwl := withFalse_len hb l
   have hffW := ce_flat xW
   refine R.append (kk := 4) C I (A.w I I) (A.x I I) (A.x I I) runUnderlying122 runUnderlying122 (fun _ => nofun) (show prog.info? 30 = some Tryz.t30 by kernel_rfl) I I I (by decide) (by decide) (hb1.app _) (hWL.rd ce_len) (ones_ce hlW2) (by omega) fun v' own' hb' => hk _ _ ⟨QFs.nil, ?_⟩
   refine Da C 8 hok I I<|D.done C hok (by kernel_rfl)<|X.inBlock C.1<|X.region C I I<|Rm C I I<|Ra C I I I<|Ad C I I ?_
   obtain ⟨own3, rfl, hb3⟩ := Buf.unapp (tail := []) hb'
   refine X.weaken ?_ (hnext (i + 1, roW, _, xs1 ++ xW, own3) ⟨by omega, RO.le_trans hle1 hlW, by simpa [List.flatMap_append] using hb3, by rw [List.map_append, hxs1, hxW, hstep], fun p hp => ?_⟩ (by omega))
   ·exact ⟨rfl, rfl, rfl, by simp [look], trivial⟩
   ·rcases List.mem_append.1 hp with hp | hp
    ·exact ⟨(hls1 p hp).1.mono hlW, (hls1 p hp).2.mono hlW⟩
    ·exact hlW2 p hp
  ·have hq := hq
   have hq2 : ¬ noSure b l = true := by rw [show noSure b l = false from hq]; simp
   rw [if_neg hq2, List.append_nil] at hstep
   refine X.skip C.1<|X.inBlock C.1<|X.region C I I<|Rm C I I<|Ra C I I I<|Ad C I I<|X.weaken ?_ (hnext (i + 1, ro1, v1, xs1, own1) ⟨by omega, hle1, hb1, by rw [hxs1, hstep], hls1⟩ (by omega))
   exact ⟨rfl, rfl, rfl, by simp [look], trivial⟩
 ·have hlt := hlt
  simp only [dF] at hlt
  obtain rfl : i = xT.length := by omega
  rw [List.take_of_length_le (by omega)] at hxs1
  refine X.exit C.1 I<|Xr C I I<|R.finish C.1 ce_len (by decide) (hb1.app _) fun ro3 hl3 hls3 => Rm C I I<|Ad C I I<|Xt C func92<|Hr hret (RO.le_trans hlT (RO.le_trans hle1 hl3)) ?_
  exact ⟨xs1, hls3, hxs1, fun p hp => ⟨(hls1 p hp).1.mono hl3, (hls1 p hp).2.mono hl3⟩⟩
theorem knownR_c {b : Bk} {v : Value} {ro : RO} (hv : BkV ro v b) (hs : b.short) (th : Bool) : CallR prog J (fnv 95) [v, .bool th] ro (fun x ro' => KnownV ro' b th x) := by
 have hvv := hv
 obtain ⟨vc, vw, rfl, hc, hw⟩ := hv
 refine CallR.intro hJ (by kernel_rfl) fun c cs tail hret => enter_X (n := 21) func95 I I (Nl I) ?_
 have C : Ctx prog main J (bf 95 .normal) := ⟨hJ, by decide⟩
 refine Xr C I I<|R.box C I I I I fun p2 => R.asg C I I I<|Ad C I I<|Xs C<|Xr C I I<|R5 C I I isAgg25 sizeOf25 (by repeat constructor) Tk5<|R.callP C I I I I (checkChartR_c hJ hvv hs)<|Ad C I I<|Xr C I I<|Rm C I I<|R.int C I I I I b_neq<|R.done C<|X.cond C.1 I (fun hh => ?_) (fun hh => ?_)
 ·have hh := hh
  simp at hh
  have hk : knownH b th = checkChart b := by rw [knownH, if_pos hh]
  refine Xr C I I<|Rm C I I<|R.asg C I I I<|Ad C I I<|X.ret C I I func95 I (by exact (.tmp I (.tmp I .nil)))<|Hr hret (RO.le_refl _) ?_
  exact ⟨_, by rw [hk]; rfl, fun h => absurd (hk ▸ h) hh, fun _ => rfl⟩
 ·have hh := hh
  simp at hh
  have hg := good_iff.1 hh
  cases th
  ·have hk : knownH b false = 6 := by rw [knownH, if_neg (by simp [hh]), if_pos rfl]
   refine X.skip C.1<|Xs C<|Xr C I I<|Rm C I I<|R.not C I I I<|R.fixv (t := 14) (v' := .bool true) I (by rfl)<|R.done C<|X.cond C.1 I (fun _ => ?_) (fun h => nomatch h)
   refine Xr C I I<|R.asg C I I I<|Ad C I I<|X.ret C I I func95 I (by exact (.tmp I (.tmp I .nil)))<|Hr hret (RO.le_refl _) ?_
   exact ⟨_, by rw [hk]; rfl, fun h => (by rw [hk] at h; cases h), fun _ => rfl⟩
  ·have hk : knownH b true = if casesL b = [] then 9 else 0 := by rw [knownH, if_neg (by simp [hh]), if_neg (by simp)]
   refine X.skip C.1<|Xs C<|Xr C I I<|Rm C I I<|R.not C I I I<|R.fixv (t := 14) (v' := .bool false) I (by rfl)<|R.done C<|X.cond C.1 I (fun h => nomatch h) (fun _ => ?_)
   refine X.skip C.1<|Xr C I I<|R5 C I I isAgg25 sizeOf25 (by repeat constructor) Tk5<|R.callR C I I I I ((casesOfR_c hJ hvv hg)) fun v1 ro2 hl2 hp => Ad C I I<|Xs C<|Xr C I I ?_
   have hp0 := hp
   obtain ⟨xs, hL, hx, hls⟩ := hp
   obtain ⟨lb, lc, rfl⟩ := hL.form
   have hxl := congrArg List.length hx
   rw [List.length_map] at hxl
   refine Rm C I I<|Rn C I I runUnderlying122<|R.int C I I I I b_eql<|R.done C<|X.cond C.1 I (fun hz => ?_) (fun hz => ?_)
   ·have hz := hz
    have hz2 : casesL b = [] := List.eq_nil_of_length_eq_zero (by simp at hz; rw [← hxl]; simp [hz])
    rw [if_pos hz2] at hk
    refine Xr C I I<|R.asg C I I I<|Ad C I I<|X.ret C I I func95 I (by exact (.tmp I (.tmp I .nil)))<|Hr hret hl2 ?_
    exact ⟨_, by rw [hk]; rfl, fun h => (by rw [hk] at h; cases h), fun _ => rfl⟩
   ·have hz := hz
    have hz2 : casesL b ≠ [] := fun h => by
     rw [h] at hxl
     have : xs = [] := List.eq_nil_of_length_eq_zero hxl
     simp [this] at hz
    rw [if_neg hz2] at hk
    refine X.skip C.1<|Xr C I I<|Rm C I I<|R.asg C I I I<|Ad C I I<|X.ret C I I func95 I (by exact (.tmp I (.tmp I .nil)))<|Hr hret hl2 ?_
    exact ⟨_, by rw [hk]; rfl, fun _ => hp0, fun h => absurd hk h⟩
theorem casesR_c {b : Bk} {v : Value} {ro : RO} (hv : BkV ro v b) (hs : b.short) : CallR prog J (fnv 27) [v] ro (fun w _ => w = .tuple [.int .i64 (if checkChart b ≠ 0 then 0 else ((casesL b).length : Int)), .int .i64 (checkChart b)].toArray) := by
 have hvv := hv
 obtain ⟨vc, vw, rfl, hc, hw⟩ := hv
 refine CallR.intro hJ (by kernel_rfl) fun c cs tail hret => enter_X (n := 13) func27 I I (Nl I) ?_
 have C : Ctx prog main J (bf 27 .normal) := ⟨hJ, by decide⟩
 refine Xr C I I<|R.box C I I I I fun p1 => R.asg C I I I<|Ad C I I<|Xs C<|Xr C I I<|R5 C I I isAgg25 sizeOf25 (by repeat constructor) Tk5<|R.callP C I I I I (checkChartR_c hJ hvv hs)<|Ad C I I<|Xr C I I<|Rm C I I<|R.int C I I I I b_neq<|R.done C<|X.cond C.1 I (fun hh => ?_) (fun hh => ?_)
 ·have hh := hh
  simp at hh
  refine Xr C I I<|Rm C I I<|R.asg C I I I<|Ad C I I<|X.ret C I I func27 I (by exact (.tmp I (.tmp I .nil)))<|Hr hret (RO.le_refl _) ?_
  rw [if_pos hh]; rfl
 ·have hh := hh
  simp at hh
  have hg := good_iff.1 hh
  refine X.skip C.1<|Xr C I I<|R5 C I I isAgg25 sizeOf25 (by repeat constructor) Tk5<|R.callR C I I I I ((casesOfR_c hJ hvv hg)) fun v1 ro2 hl2 hp => ?_
  obtain ⟨xs, hL, hx, hls⟩ := hp
  obtain ⟨lb, lc, rfl⟩ := hL.form
  have hxl := congrArg List.length hx
  rw [List.length_map] at hxl
  refine Rn C I I runUnderlying122<|R.asg C I I I<|Ad C I I<|X.ret C I I func27 I (by exact (.tmp I (.tmp I .nil)))<|Hr hret hl2 ?_
  rw [if_neg (by simp [hh]), hh, ← hxl]; rfl
end
end Go.Lg.B
namespace Go.Lg.B
open Go Go.Conc Go.Lg Go.Proofs Go.Proofs.Tryz
theorem flatMap_two {α β : Type} (g h : α → List β) : ∀ l : List α, (l.flatMap g ++ l.flatMap h).Perm (l.flatMap fun x => g x ++ h x)
 | [] => .refl _
 | x :: l => by
  have ih := flatMap_two g h l
  simp only [List.flatMap_cons]
  have e1 : (g x ++ l.flatMap g ++ (h x ++ l.flatMap h)).Perm (g x ++ (h x ++ (l.flatMap g ++ l.flatMap h))) := by
   rw [List.append_assoc]
   refine List.Perm.append_left _ ?_
   rw [← List.append_assoc, ← List.append_assoc]
   exact List.Perm.append_right _ List.perm_append_comm
  refine e1.trans ?_
  rw [List.append_assoc (g x) (h x)]
  exact List.Perm.append_left _ (List.Perm.append_left _ ih)
theorem flatMap_swap {α β γ : Type} (f : α → β → List γ) (m : List β) : ∀ l : List α, (l.flatMap fun x => m.flatMap fun y => f x y).Perm (m.flatMap fun y => l.flatMap fun x => f x y)
 | [] => by
  have : (m.flatMap fun y => ([] : List α).flatMap fun x => f x y) = [] := by simp
  rw [this]; exact .refl _
 | x :: l => by
  simp only [List.flatMap_cons]
  exact (List.Perm.append_left _ (flatMap_swap f m l)).trans (flatMap_two _ _ m)
theorem filter_as_flat {α β : Type} (p : α → Bool) (f : α → β) : ∀ l : List α, (l.filter p).map f = l.flatMap fun x => if p x = true then [f x] else []
 | [] => rfl
 | x :: l => by
  have ih := filter_as_flat p f l
  by_cases h : p x = true
  ·simp [h, ih]
  ·simp [h, ih]
theorem flat_filter {α β : Type} (p : α → Bool) (f : α → List β) : ∀ l : List α, (l.filter p).flatMap f = l.flatMap fun x => if p x = true then f x else []
 | [] => rfl
 | x :: l => by
  have ih := flat_filter p f l
  by_cases h : p x = true
  ·simp [h, ih]
  ·simp [h, ih]
theorem flat_congr {α β : Type} {f g : α → List β} : ∀ {l : List α}, (∀ x ∈ l, f x = g x) → l.flatMap f = l.flatMap g
 | [], _ => rfl
 | x :: l, h => by simp only [List.flatMap_cons, h x List.mem_cons_self, flat_congr fun y hy => h y (List.mem_cons_of_mem _ hy)]
theorem perm_flat {α β : Type} (f : α → List β) {l m : List α} (h : l.Perm m) : (l.flatMap f).Perm (m.flatMap f) := by
 induction h with
 | nil => exact .refl _
 | cons x _ ih => simp only [List.flatMap_cons]; exact List.Perm.append_left _ ih
 | swap x y l =>
  simp only [List.flatMap_cons, ← List.append_assoc]
  exact List.Perm.append_right _ List.perm_append_comm
 | trans _ _ h1 h2 => exact h1.trans h2
theorem sets_iff {most : Int} (hm : 0 ≤ most) : ∀ (n : Nat) (l : List Int), l ∈ sets most n ↔ List.Pairwise (· < ·) l ∧ (∀ k ∈ l, 0 ≤ k ∧ k < (n : Int)) ∧ (l.length : Int) ≤ most
 | 0, l => by
  simp only [sets, List.mem_singleton]
  constructor
  ·rintro rfl; simp [hm]
  ·rintro ⟨_, h2, _⟩
   cases l with
   | nil => rfl
   | cons x l => have := h2 x List.mem_cons_self; omega
 | n + 1, l => by
  simp only [sets, List.mem_append, ext, List.mem_map, List.mem_filter, decide_eq_true_eq]
  constructor
  ·rintro (h | ⟨x, ⟨hx, hlt⟩, rfl⟩)
   ·obtain ⟨h1, h2, h3⟩ := (sets_iff hm n l).1 h
    exact ⟨h1, fun k hk => by have := h2 k hk; omega, h3⟩
   ·obtain ⟨h1, h2, h3⟩ := (sets_iff hm n x).1 hx
    refine ⟨List.pairwise_append.2 ⟨h1, List.pairwise_singleton _ _, fun a ha c hc => ?_⟩, fun k hk => ?_, ?_⟩
    ·rw [List.mem_singleton.1 hc]; exact (h2 a ha).2
    ·rcases List.mem_append.1 hk with hk | hk
     ·have := h2 k hk; omega
     ·rw [List.mem_singleton.1 hk]; omega
    ·simp; omega
  ·rintro ⟨h1, h2, h3⟩
   rcases List.eq_nil_or_concat l with rfl | ⟨x, k, rfl⟩
   ·exact .inl ((sets_iff hm n []).2 ⟨.nil, by simp, by simpa using hm⟩)
   ·rw [List.concat_eq_append] at h1 h2 h3 ⊢
    obtain ⟨p1, _, p3⟩ := List.pairwise_append.1 h1
    have hk := h2 k (by simp)
    have hx : ∀ a ∈ x, a < k := fun a ha => p3 a ha k (by simp)
    simp only [List.length_append, List.length_cons, List.length_nil] at h3
    by_cases e : k = n
    ·subst e
     exact .inr ⟨x, ⟨(sets_iff hm n x).2 ⟨p1, fun a ha => ⟨(h2 a (by simp [ha])).1, hx a ha⟩, by omega⟩, by omega⟩, rfl⟩
    ·refine .inl ((sets_iff hm n _).2 ⟨h1, fun a ha => ⟨(h2 a ha).1, ?_⟩, by simp; omega⟩)
     rcases List.mem_append.1 ha with ha | ha
     ·have := hx a ha; omega
     ·rw [List.mem_singleton.1 ha]; omega
theorem sets_nodup {most : Int} (hm : 0 ≤ most) : ∀ n, (sets most n).Nodup
 | 0 => by simp [sets]
 | n + 1 => by
  have ih := sets_nodup hm n
  refine List.nodup_append.2 ⟨ih, ?_, fun a ha c hc => ?_⟩
  ·unfold ext
   refine List.pairwise_map.2 ((ih.filter _).imp fun h e => h (List.append_cancel_right e))
  ·obtain ⟨x, _, rfl⟩ := List.mem_map.1 hc
   rintro rfl
   have := ((sets_iff hm n _).1 ha).2.1 (n : Int) (by simp)
   omega
def maskL (n : Nat) (l : List Int) : Nat := maskOf (fun i => l.contains (i : Int)) n
theorem maskL_bit {n : Nat} {l : List Int} (h : ∀ k ∈ l, 0 ≤ k ∧ k < (n : Int)) (i : Nat) : (maskL n l).testBit i = l.contains (i : Int) := by
 rw [maskL, maskOf_bit]
 by_cases hi : i < n
 ·simp [hi]
 ·have : l.contains (i : Int) = false := by
   rw [Bool.eq_false_iff]; intro hc
   have := h _ (by simpa using hc); omega
  rw [this]; simp
def okM (b : Bk) (m : Nat) : Bool := m &&& sureM b == 0 && decide (((listOf m).length : Int) ≤ b.f)
theorem ups_nodup : ∀ (m n : Nat), (ups n m).Nodup
 | 0, _ => by simp [ups]
 | m + 1, n => by
  simp only [ups, List.nodup_cons]
  exact ⟨fun h => by rw [ups_iff] at h; omega, ups_nodup m (n + 1)⟩
theorem listOf_maskL {n : Nat} (hn : n ≤ 5) {l : List Int} (h1 : List.Pairwise (· < ·) l) (h2 : ∀ k ∈ l, 0 ≤ k ∧ k < (n : Int)) : listOf (maskL n l) = l :=
 listOf_eq h1 (fun k hk => by have := h2 k hk; omega) (maskL_bit h2)
theorem noSure_mask {b : Bk} {l : List Int} (h : ∀ k ∈ l, 0 ≤ k ∧ k < (b.ws.length : Int)) : (maskL b.ws.length l &&& sureM b == 0) = noSure b l := by
 rw [Bool.eq_iff_iff, and_zero]
 simp only [maskL_bit h, sureM, maskOf_bit, noSure, Bool.not_eq_true', List.any_eq_false, Bool.not_eq_true]
 constructor
 ·intro hh k hk
  obtain ⟨g1, g2⟩ := h k hk
  have := hh k.toNat (by rw [show ((k.toNat : Nat) : Int) = k by omega]; simpa using hk)
  rwa [decide_eq_true (by omega), Bool.true_and] at this
 ·intro hh i hi
  have hm : (i : Int) ∈ l := by simpa using hi
  have := hh _ hm
  rw [show ((i : Int)).toNat = i by omega] at this
  rw [this]; simp
theorem masks_perm {b : Bk} (hb : b.good) : ((ups 0 (2 ^ b.ws.length)).filter (okM b)).Perm (((sets b.f b.ws.length).filter (noSure b)).map (maskL b.ws.length)) := by
 have hf := hb.f
 have hn := hb.nw
 refine (List.perm_ext_iff_of_nodup ((ups_nodup _ _).filter _) ?_).2 fun m => ?_
 ·refine List.pairwise_map.2 (List.Pairwise.imp_of_mem (fun {a c} ha hc hne e => hne ?_) ((sets_nodup hf.1 b.ws.length).filter (noSure b)))
  obtain ⟨a1, a2, _⟩ := (sets_iff hf.1 _ _).1 (List.mem_filter.1 ha).1
  obtain ⟨c1, c2, _⟩ := (sets_iff hf.1 _ _).1 (List.mem_filter.1 hc).1
  rw [← listOf_maskL hn a1 a2, e, listOf_maskL hn c1 c2]
 ·simp only [List.mem_filter, List.mem_map, ups_iff, okM, Bool.and_eq_true, decide_eq_true_eq]
  constructor
  ·rintro ⟨⟨_, h1⟩, h2, h3⟩
   have hr : ∀ k ∈ listOf m, 0 ≤ k ∧ k < (b.ws.length : Int) := fun k hk => by
    obtain ⟨i, _, hi, rfl⟩ := (bits_mem m k 5).1 hk
    refine ⟨by omega, ?_⟩
    by_cases hlt : i < b.ws.length
    ·omega
    ·have : m.testBit i = false := Nat.testBit_lt_two_pow (Nat.lt_of_lt_of_le (by simpa using h1) (Nat.pow_le_pow_right (by decide) (by omega)))
     rw [this] at hi; cases hi
   have hm : maskL b.ws.length (listOf m) = m := by
    refine Nat.eq_of_testBit_eq fun i => ?_
    rw [maskL_bit hr, Bool.eq_iff_iff]
    simp only [List.contains_eq_mem, decide_eq_true_eq]
    constructor
    ·intro h
     obtain ⟨j, _, hj, e⟩ := (bits_mem m _ 5).1 h
     have : i = j := by omega
     rw [this]; exact hj
    ·intro h
     refine (bits_mem m _ 5).2 ⟨i, ?_, h, rfl⟩
     by_cases hlt : i < 5
     ·exact hlt
     ·have : m.testBit i = false := Nat.testBit_lt_two_pow (Nat.lt_of_lt_of_le (by simpa using h1) (Nat.pow_le_pow_right (by decide) (by omega)))
      rw [this] at h; cases h
   refine ⟨listOf m, ⟨(sets_iff hf.1 _ _).2 ⟨bits_up m 5, hr, h3⟩, ?_⟩, hm⟩
   rw [← noSure_mask hr, hm]; exact h2
  ·rintro ⟨l, ⟨h1, h2⟩, rfl⟩
   obtain ⟨a1, a2, a3⟩ := (sets_iff hf.1 _ _).1 h1
   refine ⟨⟨Nat.zero_le _, by simpa [maskL] using maskOf_lt _ _⟩, by rw [noSure_mask a2]; exact h2, by rw [listOf_maskL hn a1 a2]; exact a3⟩
theorem aims_eq {b : Bk} (hb : b.good) : aims b = (squares b).flatMap fun s => (offsAll b.cs).map fun o => Cs.aim ⟨s, o, []⟩ := by
 have hnc := hb.nc
 have hu : ∀ m, ups 0 m = List.range m := by
  have key : ∀ m n, ups n m = (List.range m).map (· + n) := by
   intro m
   induction m with
   | zero => intro n; rfl
   | succ m ih =>
    intro n
    rw [ups, ih, List.range_succ_eq_map, List.map_cons, List.map_map]
    simp only [Nat.zero_add, List.cons.injEq, true_and]
    refine List.map_congr_left fun x _ => ?_
    simp only [Function.comp]; omega
  intro m; rw [key]; simp
 obtain ⟨w, h, f, cs, ws⟩ := b
 unfold aims squares
 rw [hu, List.flatMap_map]
 refine flat_congr fun n _ => ?_
 have s0 : ∀ (a : Aim) (n : Int), a.set ((0 : Nat) : Int) n = { a with x := n } := fun _ _ => rfl
 have s1 : ∀ (a : Aim) (n : Int), a.set ((0 + 1 : Nat) : Int) n = { a with y := n } := fun _ _ => rfl
 have s2 : ∀ (a : Aim) (n : Int), a.set ((0 + 1 + 1 : Nat) : Int) n = { a with z := n } := fun _ _ => rfl
 simp only at hnc ⊢
 match cs, hnc with
 | [x], _ => simp [offs, offsAll, offsStep, s0, aimAt, Cs.aim, sqAt, wideRc, List.map_eq_flatMap, List.flatMap_assoc]; rfl
 | [x, y], _ => simp [offs, offsAll, offsStep, s0, s1, aimAt, Cs.aim, sqAt, wideRc, List.map_eq_flatMap, List.flatMap_assoc]; rfl
 | [x, y, z], _ => simp [offs, offsAll, offsStep, s0, s1, s2, aimAt, Cs.aim, sqAt, wideRc, List.map_eq_flatMap, List.flatMap_assoc]; rfl
def lotOf (b : Bk) (c : Cs) : Lot := ⟨c.aim, maskL b.ws.length c.f⟩
theorem okA_mask {b : Bk} {l : List Int} (h : ∀ k ∈ l, 0 ≤ k ∧ k < (b.ws.length : Int)) (s : Sq) (o : List Int) : (andNot (odd b (Cs.aim ⟨s, o, l⟩)) (maskL b.ws.length l) == 0) = allR b ⟨s, o, l⟩ := by
 rw [Bool.eq_iff_iff, andNot_zero]
 simp only [odd, maskOf_bit, maskL_bit h, Bool.and_eq_true, decide_eq_true_eq, allR, List.all_eq_true, List.mem_range, Bool.or_eq_true, Bool.not_eq_true']
 constructor
 ·intro hh i hi
  cases hr : right (b.wt i) (Cs.aim ⟨s, o, l⟩)
  ·exact .inl (hh i ⟨hi, hr⟩)
  ·exact .inr rfl
 ·rintro hh i ⟨hi, hr⟩
  rcases hh i hi with h1 | h1
  ·exact h1
  ·rw [hr] at h1; cases h1
theorem cases_perm {b : Bk} (hb : b.good) : ((casesL b).map (lotOf b)).Perm (cases b) := by
 have e1 : cases b = (aims b).flatMap fun a => (ups 0 (2 ^ b.ws.length)).flatMap fun m => if okMask b a m = true then [⟨a, m⟩] else [] := by
  unfold cases lots
  refine flat_congr fun a _ => ?_
  exact filter_as_flat _ _ _
 rw [e1]
 refine List.Perm.trans ?_ (flatMap_swap (fun a m => if okMask b a m = true then [(⟨a, m⟩ : Lot)] else []) (ups 0 (2 ^ b.ws.length)) (aims b)).symm
 have e2 : ((ups 0 (2 ^ b.ws.length)).flatMap fun m => (aims b).flatMap fun a => if okMask b a m = true then [(⟨a, m⟩ : Lot)] else []) = ((ups 0 (2 ^ b.ws.length)).filter (okM b)).flatMap fun m => (aims b).flatMap fun a => if (andNot (odd b a) m == 0) = true then [(⟨a, m⟩ : Lot)] else [] := by
  rw [flat_filter]
  refine flat_congr fun m _ => ?_
  by_cases h : okM b m = true
  ·rw [if_pos h]
   refine flat_congr fun a _ => ?_
   have : okMask b a m = (andNot (odd b a) m == 0) := by
    have h' : (m &&& sureM b == 0 && decide (((listOf m).length : Int) ≤ b.f)) = true := h
    rw [okMask, h', Bool.and_true]
   rw [this]
  ·rw [if_neg h]
   have : ∀ a, okMask b a m = false := fun a => by
    have h' : (m &&& sureM b == 0 && decide (((listOf m).length : Int) ≤ b.f)) = false := by simpa [okM] using h
    rw [okMask, h', Bool.and_false]
   simp [this]
 rw [e2]
 refine List.Perm.trans ?_ (perm_flat _ (masks_perm hb)).symm
 rw [List.flatMap_map, casesL, List.map_flatMap]
 refine List.Perm.of_eq (flat_congr fun l hl => ?_)
 obtain ⟨_, a2, _⟩ := (sets_iff hb.f.1 _ _).1 (List.mem_filter.1 hl).1
 rw [aims_eq hb, List.flatMap_assoc, withFalse, List.map_flatMap]
 refine flat_congr fun s _ => ?_
 rw [withAt, List.map_map, filter_as_flat, List.flatMap_map]
 refine flat_congr fun o _ => ?_
 have e3 : Cs.aim ⟨s, o, []⟩ = Cs.aim ⟨s, o, l⟩ := rfl
 rw [e3, okA_mask a2]
 rfl
end Go.Lg.B
namespace Go.Lg.B
open Go Go.Conc Go.Lg Go.Proofs Go.Proofs.Tryz
theorem b_subW {P : Program} {t : TypeId} {m n : Int} : ∀ M K, K (.int .i64 (IntKind.i64.wrap (m - n))) M → Sm P M (binOp .sub t (.int .i64 m) (.int .i64 n)) K := fun M K h => by
 unfold binOp; simp only [ne_eq, not_true_eq_false, if_false, Op.intArith]; exact Sm.pure h
def onChartW (b : Bk) (s : Sq) : Bool := between s.e 0 (IntKind.i64.wrap (b.w - 1)) && between s.n 0 (IntKind.i64.wrap (b.h - 1))
theorem onChartW_small {b : Bk} (hb : b.small) (s : Sq) : b.square s = there (onChartW b s) := by
 obtain ⟨h1, h2, h3, h4, _⟩ := hb
 rw [Bk.square, onChartW, wrap64 (by omega) (by omega), wrap64 (by omega) (by omega)]
def howZ (n a : Int) : Int := if n = 0 then 2 else if n = a then 1 else 0
def wheresR (b : Bk) : List Sq := if knownH b true ≠ 0 then [] else (squares b).filter fun s => (casesL b).any fun c => decide (c.s = s)
def toldR (b : Bk) (th : Bool) (p : Cs → Bool) : Int × Int := if knownH b th ≠ 0 then (0, knownH b th) else (howZ ((casesL b).countP p) (casesL b).length, 0)
theorem casesL_len {b : Bk} (hb : b.good) : (casesL b).length ≤ 50000 := by
 have h1 := flat_bound (withFalse b) (49 * 27) (withFalse_len hb) ((sets b.f b.ws.length).filter (noSure b))
 have h2 : ((sets b.f b.ws.length).filter (noSure b)).length ≤ 32 := by
  refine Nat.le_trans (List.length_filter_le _ _) ?_
  have := sets_len b.f b.ws.length
  have hpow : 2 ^ b.ws.length ≤ 2 ^ 5 := Nat.pow_le_pow_right (by decide) hb.nw
  omega
 have h3 := Nat.mul_le_mul_right (49 * 27) h2
 unfold casesL; omega
theorem known_good {b : Bk} {th : Bool} (h : knownH b th = 0) : b.good ∧ th = true ∧ casesL b ≠ [] := by
 unfold knownH at h
 by_cases h1 : checkChart b ≠ 0
 ·rw [if_pos h1] at h; exact absurd h h1
 ·rw [if_neg h1] at h
  by_cases h2 : th = false
  ·rw [if_pos h2] at h; cases h
  ·rw [if_neg h2] at h
   by_cases h3 : casesL b = []
   ·rw [if_pos h3] at h; cases h
   ·exact ⟨good_iff.1 (by simpa using h1), by simpa using h2, h3⟩
section
variable {main : Bool} {J : Goroutine → Mem → Prop} (hJ : Closed prog main J)
include hJ
theorem onChartAnyR_c {b : Bk} {v : Value} {ro : RO} (hv : BkV ro v b) (s : Sq) : CallP prog J (fnv 102) [v, s.val] ro (.bool (onChartW b s)) := by
 obtain ⟨vc, vw, rfl, hc, hw⟩ := hv
 refine CallP.intro hJ (by kernel_rfl) fun c cs tail hret => enter_X (n := 19) func102 I I (Nl I) ?_
 have C : Ctx prog main J (bf 102 .normal) := ⟨hJ, by decide⟩
 refine Xr C I I<|R.box C I I I I fun p2 => R.box C I I I I fun p3 => Ad C I I<|Xr C I I<|Rf C 0 I I runUnderlying27 I sizeOf3<|Rl C I I isAgg3 (by repeat constructor) I<|Rf C 0 I I runUnderlying25 I sizeOf3<|Rl C I I isAgg3 (by repeat constructor) I<|R.int C I I I I b_subW<|R.callP C I I I I (betweenR_c hJ _ _ _ _)<|Rm C I I<|R.fix (t := 11) I (fun q1 => ?_) (fun q1 => ?_)
 ·have q1 := q1
  refine Rf C 1 I I runUnderlying27 I sizeOf3<|Rl C I I isAgg3 (by repeat constructor) I<|Rf C 1 I I runUnderlying25 I sizeOf3<|Rl C I I isAgg3 (by repeat constructor) I<|R.int C I I I I b_subW<|R.callP C I I I I (betweenR_c hJ _ _ _ _)<|R.pickT C I I I I<|Ad C I I<|Xt C func102<|Hp hret ?_
  simp_all [retVal, onChartW]
 ·have q1 := q1
  refine R.pass C I I<|R.pass C I I<|R.pass C I I<|R.pass C I I<|R.pass C I I<|R.pass C I I<|R.pickF C I I I I<|Ad C I I<|Xt C func102<|Hp hret ?_
  simp_all [retVal, onChartW]
theorem howR_c (n a : Int) (ro : RO) : CallP prog J (fnv 103) [.int .i64 n, .int .i64 a] ro (.int .i64 (howZ n a)) := by
 refine CallP.intro hJ (by kernel_rfl) fun c cs tail hret => enter_X (n := 10) func103 I I (Nl I) ?_
 have C : Ctx prog main J (bf 103 .normal) := ⟨hJ, by decide⟩
 refine Xr C I I<|Ad C I I<|Xs C<|Xr C I I<|Rm C I I<|R.int C I I I I b_eql<|R.done C<|X.cond C.1 I (fun q1 => ?_) (fun q1 => ?_)
 ·have q1 := q1
  refine Xr C I I<|Ad C I I<|Xt C func103<|Hp hret ?_
  simp_all [retVal, howZ]
 ·have q1 := q1
  refine X.skip C.1<|Xs C<|Xr C I I<|Rm C I I<|Rm C I I<|R.int C I I I I b_eql<|R.done C<|X.cond C.1 I (fun q2 => ?_) (fun q2 => ?_)
  ·have q2 := q2
   refine Xr C I I<|Ad C I I<|Xt C func103<|Hp hret ?_
   simp_all [retVal, howZ]
  ·have q2 := q2
   refine X.skip C.1<|Xr C I I<|Ad C I I<|Xt C func103<|Hp hret ?_
   simp_all [retVal, howZ]
theorem isAtR_c {v : Value} {ro : RO} {l : List Cs} (hL : LC ro v l) (hn : l.length ≤ 1000000) (s : Sq) : CallP prog J (fnv 97) [v, s.val] ro (.bool (l.any fun c => decide (c.s = s))) := by
 obtain ⟨xs, hls, rfl, hel⟩ := hL
 rw [List.length_map] at hn
 have hls0 := hls
 obtain ⟨lb, lc, rfl⟩ := hls.form
 refine CallP.intro hJ (by kernel_rfl) fun c cs tail hret => enter_X (n := 19) func97 I I (Nl I) ?_
 have C : Ctx prog main J (bf 97 .normal) := ⟨hJ, by decide⟩
 refine Xr C I I<|R.box C I I I I fun p3 => Ad C I I<|Xs C<|Xr C I I<|Ad C I I<|X.block C.1<|X.loopI (ι := Nat) C.1 (fun i => i ≤ xs.length ∧ ((xs.map (·.2)).any fun c => decide (c.s = s)) = (((xs.drop i).map (·.2)).any fun c => decide (c.s = s))) (fun i => [(0, .slice lb xs.length lc), (3, .pointer (some ⟨p3, 0, none⟩)), (5, .int .i64 (i : Int))])
  (fun _ => ⟨ro, (p3, .cells s.cells.toArray 27 (0, 0)) :: tail⟩) (fun i => xs.length - i) 0 ⟨Nat.zero_le _, rfl⟩ rfl ⟨rfl, rfl, rfl, trivial⟩ fun i hi hnext => ?_
 obtain ⟨hi, hr⟩ := hi
 refine Xs C<|Xr C I I<|Rm C I I<|Rm C I I<|Rn C I I runUnderlying122<|R.int C I I I I b_lss<|R.done C<|X.cond C.1 I (fun hlt => ?_) (fun hlt => ?_)
 ·have hlt := hlt
  simp only [dT] at hlt
  have hi' : i < xs.length := by omega
  obtain ⟨pp, off, cap, ll, t, fq, hsl, hrop, hsub⟩ := hls0.at ce_len (by omega)
  cases hsl
  have hq : Sub (off + i * 4 + 0) 2 ll (Sq.cells xs[i].2.s) := (hsub i hi').part (i := 0) (m := 2) (by decide)
  rw [List.drop_eq_getElem_cons hi', List.map_cons, List.any_cons] at hr
  refine X.skip C.1<|Xs C<|X.block C.1<|Xs C<|Xd C fun hok => Dm C 0 hok I I I<|Dm C 1 hok I I I<|Dx C 2 hok I I I runUnderlying122 sizeOf30<|Df C 3 hok I I I runUnderlying30 I sizeOf27 I<|Dl 4 hok (fun _ _ A h => R.loadAggRo C I (A.w I I) (A.x I I) isAgg27 sizeOf27 hrop hq h)<|D5 C 5 hok I I isAgg27 sizeOf27 (by repeat constructor) Tk2<|Dp 6 hok (fun _ _ _ A h => R.eqAgg (p := [xs[i].2.s.e, xs[i].2.s.n]) (q := [s.e, s.n]) C I (A.w I I) (A.x I I) (A.x I I) eqT27 I I (by kernel_rfl) h)<|D.done C hok (by kernel_rfl)<|X.cond C.1 I (fun he => ?_) (fun he => ?_)
  ·have he := he
   have he2 : decide (xs[i].2.s = s) = true := by
    obtain ⟨se, sn⟩ := s
    generalize xs[i].2.s = q at he ⊢
    obtain ⟨qe, qn⟩ := q
    simpa using he
   rw [he2, Bool.true_or] at hr
   refine Xr C I I<|Ad C I I<|Xt C func97<|Hp hret ?_
   rw [hr]; rfl
  ·have he := he
   have he2 : decide (xs[i].2.s = s) = false := by
    obtain ⟨se, sn⟩ := s
    generalize xs[i].2.s = q at he ⊢
    obtain ⟨qe, qn⟩ := q
    simpa using he
   rw [he2, Bool.false_or] at hr
   refine X.skip C.1<|X.inBlock C.1<|X.region C I I<|Rm C I I<|Ra C I I I<|Ad C I I<|X.weaken ?_ (hnext (i + 1) ⟨hi', hr⟩ (by omega))
   exact ⟨rfl, rfl, by simp [look], trivial⟩
 ·have hlt := hlt
  simp only [dF] at hlt
  obtain rfl : i = xs.length := by omega
  rw [List.drop_length] at hr
  refine X.exit C.1 I<|Xr C I I<|Ad C I I<|Xt C func97<|Hp hret ?_
  rw [hr]; rfl
theorem whereR_c {b : Bk} {v : Value} {ro : RO} (hv : BkV ro v b) (hs : b.short) : CallR prog J (fnv 29) [v] ro (fun w ro' => ∃ vs, LsS ro' vs (wheresR b) ∧ w = .tuple [vs, .int .i64 (knownH b true)].toArray) := by
 have hvv := hv
 obtain ⟨vc, vw, rfl, hc, hw⟩ := hv
 refine CallR.intro hJ (by kernel_rfl) fun c cs tail hret => enter_X (n := 39) func29 I I (Nl I) ?_
 have C : Ctx prog main J (bf 29 .normal) := ⟨hJ, by decide⟩
 refine Xr C I I<|R.box C I I I I fun p1 => R.asg C I I I<|Ad C I I<|Xr C I I<|R5 C I I isAgg25 sizeOf25 (by repeat constructor) Tk5<|R.callR C I I I I ((knownR_c hJ hvv hs true)) fun v1 ro1 hl1 hp1 => ?_
 obtain ⟨vl, rfl, hk0, hk1⟩ := hp1
 refine Rm C I I<|R.ext C I I I I<|R.ext C I I I I<|R.asg C I I I<|Ad C I I<|Xs C<|Xr C I I<|Rm C I I<|R.int C I I I I b_neq<|R.done C<|X.cond C.1 I (fun hh => ?_) (fun hh => ?_)
 ·have hh := hh
  simp at hh
  obtain rfl := hk1 hh
  refine Xr C I I<|Rm C I I<|R.asg C I I I<|Ad C I I<|X.ret C I I func29 I (by exact (.tmp I (.tmp I .nil)))<|Hr hret hl1 ?_
  exact ⟨_, by rw [wheresR, if_pos hh]; exact Ls.nil, rfl⟩
 ·have hh := hh
  simp at hh
  have hLC := hk0 hh
  obtain ⟨hg, _, _⟩ := known_good hh
  have hcl := casesL_len hg
  have hsql := squares_len hg
  have hv1 := hvv.mono hl1
  refine X.skip C.1<|Xr C I I<|Ad C I I<|Xr C I I<|R5 C I I isAgg25 sizeOf25 (by repeat constructor) Tk5<|R.callR C I I I I ((squaresR_c hJ hv1 hg)) fun vS roS hlS hS => Ad C I I<|Xs C<|Xr C I I<|Ad C I I<|X.block C.1 ?_
  have hLS := hLC.mono hlS
  have hS0 := hS
  obtain ⟨sb, sc, rfl⟩ := hS.form
  refine X.loopI (ι := Nat × Value × List (Nat × Obj)) C.1 (fun s => s.1 ≤ (squares b).length ∧ Buf 27 2 [] s.2.1 ((((squares b).take s.1).filter fun q => (casesL b).any fun c => decide (c.s = q)).flatMap Sq.cells) s.2.2) (fun s => [(1, .pointer (some ⟨p1, 0, none⟩)), (4, vl), (6, s.2.1), (7, .slice sb (squares b).length sc), (8, .int .i64 (s.1 : Int))])
   (fun s => ⟨roS, s.2.2 ++ (p1, .cells [.int .i64 b.w, .int .i64 b.h, .int .i64 b.f, vc, vw].toArray 25 (0, 0)) :: tail⟩) (fun s => (squares b).length - s.1) (0, .slice none 0 0, []) ⟨Nat.zero_le _, .nil⟩ rfl ⟨rfl, rfl, rfl, rfl, rfl, trivial⟩ fun s hs hnext => ?_
  obtain ⟨i, v2, own2⟩ := s
  obtain ⟨hi, hb2⟩ := hs
  simp only at hi hb2 hnext ⊢
  have hfl : ((((squares b).take i).filter fun q => (casesL b).any fun c => decide (c.s = q)).flatMap Sq.cells).length ≤ 49 * 2 := by
   rw [flatMap_len Sq.len]
   refine Nat.mul_le_mul_right _ (Nat.le_trans (List.length_filter_le _ _) ?_)
   rw [List.length_take]; omega
  refine Xs C<|Xr C I I<|Rm C I I<|Rm C I I<|Rn C I I runUnderlying41<|R.int C I I I I b_lss<|R.done C<|X.cond C.1 I (fun hlt => ?_) (fun hlt => ?_)
  ·have hlt := hlt
   simp only [dT] at hlt
   have hi' : i < (squares b).length := by omega
   have hstep : ((squares b).take (i + 1)).filter (fun q => (casesL b).any fun c => decide (c.s = q)) = ((squares b).take i).filter (fun q => (casesL b).any fun c => decide (c.s = q)) ++ (if ((casesL b).any fun c => decide (c.s = (squares b)[i])) = true then [(squares b)[i]] else []) := by
    rw [List.take_add_one, List.getElem?_eq_getElem hi', List.filter_append]
    congr 1
    by_cases hm : ((casesL b).any fun c => decide (c.s = (squares b)[i])) = true <;> simp [hm]
   obtain ⟨ps, offs', caps, lls, ts, fqs, hsls, hrops, hsubs⟩ := hS0.at Sq.len (by omega)
   cases hsls
   have hsi := hsubs i hi'
   generalize hQ : (squares b)[i] = q at hstep hsi
   have hsi2 : Sub (offs' + i * 2) 2 lls [.int .i64 q.e, .int .i64 q.n] := hsi
   refine X.skip C.1<|Xs C<|X.block C.1<|Xr C I I<|Rm C I I<|Rm C I I<|Rm C I I<|Rx C I I I runUnderlying41 sizeOf27<|R.loadAggRo C I I I isAgg27 sizeOf27 hrops hsi<|R.callP C I I I I (isAtR_c hJ hLS (by omega) q)<|R.done C<|X.cond C.1 I (fun hr => ?_) (fun hr => ?_)
   ·have hr := hr
    rw [if_pos hr] at hstep
    refine X.region C I I<|Rm C I I<|Rm C I I<|Rm C I I<|Rx C I I I runUnderlying41 sizeOf27<|R.loadAggRo C I I I isAgg27 sizeOf27 hrops hsi2<|R.buildSlice C (vs := _) I I (show pvals _ _ = some (numbered 0 [_]) from rfl) I runUnderlying41 sizeOf27 zeroValue27 (by decide) (Cat.one I I) fun p36 => R.append1 (kk := 2) C I I I I runUnderlying41 runUnderlying41 (fun _ => nofun) (show prog.info? 27 = some Tryz.t27 by kernel_rfl) I I I (by decide) (by decide) (hb2.app _) I I (by simp only [List.length_append, List.length_cons, List.length_nil]; omega) fun v' own' hb' => Ad C I I<|X.inBlock C.1<|X.region C I I<|Rm C I I<|Ra C I I I<|Ad C I I ?_
    obtain ⟨own3, rfl, hb3⟩ := Buf.unapp (tail := []) hb'
    refine X.weaken ?_ (hnext (i + 1, _, own3) ⟨by omega, by rw [hstep, List.flatMap_append]; exact hb3⟩ (by omega))
    exact ⟨rfl, rfl, rfl, rfl, by simp [look], trivial⟩
   ·have hr := hr
    rw [if_neg (by rw [hr]; simp), List.append_nil] at hstep
    refine X.skip C.1<|X.inBlock C.1<|X.region C I I<|Rm C I I<|Ra C I I I<|Ad C I I<|X.weaken ?_ (hnext (i + 1, v2, own2) ⟨by omega, by rw [hstep]; exact hb2⟩ (by omega))
    exact ⟨rfl, rfl, rfl, rfl, by simp [look], trivial⟩
  ·have hlt := hlt
   simp only [dF] at hlt
   obtain rfl : i = (squares b).length := by omega
   rw [List.take_length] at hb2
   refine X.exit C.1 I<|Xr C I I<|R.finish C.1 Sq.len (by decide) (hb2.app _) fun ro3 hl3 hls3 => Rm C I I<|R.asg C I I I<|Ad C I I<|X.ret C I I func29 I (by exact (.tmp I (.tmp I .nil)))<|Hr hret (RO.le_trans hl1 (RO.le_trans hlS hl3)) ?_
   exact ⟨_, by rw [wheresR, if_neg (by simp [hh])]; exact hls3, by rw [hh]; rfl⟩
theorem atR_c {b : Bk} {v : Value} {ro : RO} (hv : BkV ro v b) (hs : b.short) (s : Sq) : CallR prog J (fnv 34) [v, s.val] ro (fun w _ => w = .tuple [.int .i64 (toldR b (onChartW b s) fun c => decide (c.s = s)).1, .int .i64 (toldR b (onChartW b s) fun c => decide (c.s = s)).2].toArray) := by
 have hvv := hv
 obtain ⟨vc, vw, rfl, hc, hw⟩ := hv
 refine CallR.intro hJ (by kernel_rfl) fun c cs tail hret => enter_X (n := 40) func34 I I (Nl I) ?_
 have C : Ctx prog main J (bf 34 .normal) := ⟨hJ, by decide⟩
 refine Xr C I I<|R.box C I I I I fun p2 => R.box C I I I I fun p3 => R.asg C I I I<|Ad C I I<|Xs C<|Xd C fun hok => D5 C 0 hok I I isAgg25 sizeOf25 (by repeat constructor) Tk5<|D5 C 1 hok I I isAgg25 sizeOf25 (by repeat constructor) Tk5<|D5 C 2 hok I I isAgg27 sizeOf27 (by repeat constructor) Tk2<|De 3 (some 14) [false, false, true] hok (fun _ _ A hk => ?_)
 refine R.callP C I (A.w I I) (A.x I I) (A.s I I) (onChartAnyR_c hJ hvv s) (hk _ _ ⟨(QFs.cons (QF.of I (fun _ _ A h => R.loadAgg C I (A.w I I) (A.x I I) isAgg25 sizeOf25 (by repeat constructor) Tk5 h)) QFs.nil), ?_⟩)
 refine De 4 (some 15) [false] hok (fun _ _ A hk => ?_)
 refine R.callR C I (A.w I I) (A.x I I) (A.s I I) ((knownR_c hJ hvv hs (onChartW b s))) fun v1 ro1 hl1 hp1 => hk _ _ ⟨QFs.nil, ?_⟩
 obtain ⟨vl, rfl, hk0, hk1⟩ := hp1
 refine Dm C 5 hok I I I<|Dp 6 hok (fun _ _ _ A h => R.ext C I (A.w I I) (A.x I I) I h)<|Dp 7 hok (fun _ _ _ A h => R.ext C I (A.w I I) (A.x I I) I h)<|Da C 8 hok I I<|Da C 9 hok I I<|D.done C hok (by kernel_rfl)<|Xs C<|Xr C I I<|Rm C I I<|R.int C I I I I b_neq<|R.done C<|X.cond C.1 I (fun hh => ?_) (fun hh => ?_)
 ·have hh := hh
  simp at hh
  refine Xr C I I<|Rm C I I<|R.asg C I I I<|Ad C I I<|X.ret C I I func34 I (by exact (.tmp I (.tmp I .nil)))<|Hr hret hl1 ?_
  rw [toldR, if_pos hh]; rfl
 ·have hh := hh
  simp at hh
  obtain ⟨xs, hls, hxs, hel⟩ := hk0 hh
  obtain ⟨hg, _, _⟩ := known_good hh
  have hcl := casesL_len hg
  rw [← hxs, List.length_map] at hcl
  have hls0 := hls
  obtain ⟨lb, lc, rfl⟩ := hls.form
  refine X.skip C.1<|Xr C I I<|Ad C I I<|Xs C<|Xr C I I<|Ad C I I<|X.block C.1<|X.loopI (ι := Nat) C.1 (fun i => i ≤ xs.length) (fun i => [(3, .pointer (some ⟨p3, 0, none⟩)), (6, .slice lb xs.length lc), (8, .int .i64 (((xs.take i).map (·.2)).countP fun c => decide (c.s = s) : Nat)), (9, .int .i64 (i : Int))])
   (fun _ => ⟨ro1, (p3, .cells s.cells.toArray 27 (0, 0)) :: (p2, .cells [.int .i64 b.w, .int .i64 b.h, .int .i64 b.f, vc, vw].toArray 25 (0, 0)) :: tail⟩) (fun i => xs.length - i) 0 (Nat.zero_le _) rfl ⟨rfl, rfl, rfl, rfl, trivial⟩ fun i hi hnext => ?_
  have hcb : ((xs.take i).map (·.2)).countP (fun c => decide (c.s = s)) ≤ xs.length := by
   refine Nat.le_trans List.countP_le_length ?_
   rw [List.length_map, List.length_take]; omega
  refine Xs C<|Xr C I I<|Rm C I I<|Rm C I I<|Rn C I I runUnderlying122<|R.int C I I I I b_lss<|R.done C<|X.cond C.1 I (fun hlt => ?_) (fun hlt => ?_)
  ·have hlt := hlt
   simp only [dT] at hlt
   have hi' : i < xs.length := by omega
   obtain ⟨pp, off, cap, ll, t, fq, hsl, hrop, hsub⟩ := hls0.at ce_len (by omega)
   cases hsl
   have hq : Sub (off + i * 4 + 0) 2 ll (Sq.cells xs[i].2.s) := (hsub i hi').part (i := 0) (m := 2) (by decide)
   have hstep : ((xs.take (i + 1)).map (·.2)).countP (fun c => decide (c.s = s)) = ((xs.take i).map (·.2)).countP (fun c => decide (c.s = s)) + (if xs[i].2.s = s then 1 else 0) := by
    rw [List.take_add_one, List.getElem?_eq_getElem hi', List.map_append, List.countP_append]
    congr 1
    by_cases hm : xs[i].2.s = s <;> simp [hm]
   refine X.skip C.1<|Xs C<|X.block C.1<|Xs C<|Xd C fun hok => Dm C 0 hok I I I<|Dm C 1 hok I I I<|Dx C 2 hok I I I runUnderlying122 sizeOf30<|Df C 3 hok I I I runUnderlying30 I sizeOf27 I<|Dl 4 hok (fun _ _ A h => R.loadAggRo C I (A.w I I) (A.x I I) isAgg27 sizeOf27 hrop hq h)<|D5 C 5 hok I I isAgg27 sizeOf27 (by repeat constructor) Tk2<|Dp 6 hok (fun _ _ _ A h => R.eqAgg (p := [xs[i].2.s.e, xs[i].2.s.n]) (q := [s.e, s.n]) C I (A.w I I) (A.x I I) (A.x I I) eqT27 I I (by kernel_rfl) h)<|D.done C hok (by kernel_rfl)<|X.cond C.1 I (fun he => ?_) (fun he => ?_)
   ·have he := he
    have he2 : xs[i].2.s = s := by
     obtain ⟨se, sn⟩ := s
     generalize xs[i].2.s = q at he ⊢
     obtain ⟨qe, qn⟩ := q
     simpa using he
    rw [if_pos he2] at hstep
    refine X.region C I I<|Rm C I I<|Ra C I I I<|Ad C I I<|X.inBlock C.1<|X.region C I I<|Rm C I I<|Ra C I I I<|Ad C I I<|X.weaken ?_ (hnext (i + 1) hi' (by omega))
    exact ⟨rfl, rfl, by simp only [hstep]; simp [look], by simp [look], trivial⟩
   ·have he := he
    have he2 : ¬ xs[i].2.s = s := by
     obtain ⟨se, sn⟩ := s
     generalize xs[i].2.s = q at he ⊢
     obtain ⟨qe, qn⟩ := q
     simpa using he
    rw [if_neg he2, Nat.add_zero] at hstep
    refine X.skip C.1<|X.inBlock C.1<|X.region C I I<|Rm C I I<|Ra C I I I<|Ad C I I<|X.weaken ?_ (hnext (i + 1) hi' (by omega))
    exact ⟨rfl, rfl, by simp only [hstep]; simp [look], by simp [look], trivial⟩
  ·have hlt := hlt
   simp only [dF] at hlt
   obtain rfl : i = xs.length := by omega
   refine X.exit C.1 I<|Xr C I I<|Rm C I I<|Rm C I I<|Rn C I I runUnderlying122<|R.callP C I I I I (howR_c hJ _ _ _)<|R.asg C I I I<|Ad C I I<|X.ret C I I func34 I (by exact (.tmp I (.tmp I .nil)))<|Hr hret hl1 ?_
   rw [toldR, if_neg (by simp [hh]), ← hxs, List.length_map]
   simp [List.take_length, retVal]
theorem falseInR_c {v : Value} {ro : RO} {l : List Cs} (hL : LC ro v l) (hn : l.length ≤ 1000000) (hf : ∀ c ∈ l, c.f.length ≤ 1000) (k : Int) : CallP prog J (fnv 113) [v, .int .i64 k] ro (.int .i64 (l.countP fun c => c.f.contains k : Nat)) := by
 obtain ⟨xs, hls, rfl, hel⟩ := hL
 rw [List.length_map] at hn
 have hls0 := hls
 obtain ⟨lb, lc, rfl⟩ := hls.form
 refine CallP.intro hJ (by kernel_rfl) fun c cs tail hret => enter_X (n := 23) func113 I I (Nl I) ?_
 have C : Ctx prog main J (bf 113 .normal) := ⟨hJ, by decide⟩
 refine Xr C I I<|Ad C I I<|Xr C I I<|Ad C I I<|Xs C<|Xr C I I<|Ad C I I<|X.block C.1<|X.loopI (ι := Nat) C.1 (fun i => i ≤ xs.length) (fun i => [(0, .slice lb xs.length lc), (1, .int .i64 k), (5, .int .i64 (((xs.take i).map (·.2)).countP fun c => c.f.contains k : Nat)), (6, .int .i64 (i : Int))])
  (fun _ => ⟨ro, tail⟩) (fun i => xs.length - i) 0 (Nat.zero_le _) rfl ⟨rfl, rfl, rfl, rfl, trivial⟩ fun i hi hnext => ?_
 have hcb : ((xs.take i).map (·.2)).countP (fun c => c.f.contains k) ≤ xs.length := by
  refine Nat.le_trans List.countP_le_length ?_
  rw [List.length_map, List.length_take]; omega
 refine Xs C<|Xr C I I<|Rm C I I<|Rm C I I<|Rn C I I runUnderlying122<|R.int C I I I I b_lss<|R.done C<|X.cond C.1 I (fun hlt => ?_) (fun hlt => ?_)
 ·have hlt := hlt
  simp only [dT] at hlt
  have hi' : i < xs.length := by omega
  obtain ⟨pp, off, cap, ll, t, fq, hsl, hrop, hsub⟩ := hls0.at ce_len (by omega)
  cases hsl
  have hq : ll[off + i * 4 + 3]? = some xs[i].1.2 := by simpa [ce] using (hsub i hi').get 3 (by decide)
  have hfi := hf _ (List.mem_map_of_mem (List.getElem_mem hi'))
  have hstep : ((xs.take (i + 1)).map (·.2)).countP (fun c => c.f.contains k) = ((xs.take i).map (·.2)).countP (fun c => c.f.contains k) + (if xs[i].2.f.contains k = true then 1 else 0) := by
   rw [List.take_add_one, List.getElem?_eq_getElem hi', List.map_append, List.countP_append]
   congr 1
   by_cases hm : xs[i].2.f.contains k = true <;> simp [hm]
  refine X.skip C.1<|Xs C<|X.block C.1<|Xr C I I<|Rm C I I<|Rm C I I<|Rx C I I I runUnderlying122 sizeOf30<|R.fieldAddr C I I I runUnderlying30 I sizeOf28 I<|R.loadOneRo C I I I isAgg28 hrop hq<|Rm C I I<|R.callP C I I I I (holdsR_c hJ (hel _ (List.getElem_mem hi')).2 (by omega) k)<|R.done C<|X.cond C.1 I (fun he => ?_) (fun he => ?_)
  ·have he := he
   rw [if_pos he] at hstep
   refine X.region C I I<|Rm C I I<|Ra C I I I<|Ad C I I<|X.inBlock C.1<|X.region C I I<|Rm C I I<|Ra C I I I<|Ad C I I<|X.weaken ?_ (hnext (i + 1) hi' (by omega))
   exact ⟨rfl, rfl, by simp only [hstep]; simp [look], by simp [look], trivial⟩
  ·have he := he
   rw [if_neg (by rw [he]; simp), Nat.add_zero] at hstep
   refine X.skip C.1<|X.inBlock C.1<|X.region C I I<|Rm C I I<|Ra C I I I<|Ad C I I<|X.weaken ?_ (hnext (i + 1) hi' (by omega))
   exact ⟨rfl, rfl, by simp only [hstep]; simp [look], by simp [look], trivial⟩
 ·have hlt := hlt
  simp only [dF] at hlt
  obtain rfl : i = xs.length := by omega
  refine X.exit C.1 I<|Xr C I I<|Rm C I I<|Ad C I I<|Xt C func113<|Hp hret ?_
  rw [List.take_length]; rfl
end
theorem casesL_f {b : Bk} (hb : b.good) : ∀ c ∈ casesL b, c.f.length ≤ 5 := by
 intro c hc
 obtain ⟨l, hl, h2⟩ := List.mem_flatMap.1 hc
 obtain ⟨s, _, h3⟩ := List.mem_flatMap.1 h2
 obtain ⟨o, _, rfl⟩ := List.mem_map.1 h3
 have := sets_each b.f b.ws.length l (List.mem_filter.1 hl).1
 have := hb.nw
 simp only; omega
section
variable {main : Bool} {J : Goroutine → Mem → Prop} (hJ : Closed prog main J)
include hJ
theorem falseR_c {b : Bk} {v : Value} {ro : RO} (hv : BkV ro v b) (hs : b.short) (k : Int) : CallR prog J (fnv 38) [v, .int .i64 k] ro (fun w _ => w = .tuple [.int .i64 (toldR b (between k 0 (b.ws.length - 1)) fun c => c.f.contains k).1, .int .i64 (toldR b (between k 0 (b.ws.length - 1)) fun c => c.f.contains k).2].toArray) := by
 have hvv := hv
 obtain ⟨vc, vw, rfl, hc, hw⟩ := hv
 refine CallR.intro hJ (by kernel_rfl) fun c cs tail hret => enter_X (n := 25) func38 I I (Nl I) ?_
 have C : Ctx prog main J (bf 38 .normal) := ⟨hJ, by decide⟩
 refine Xr C I I<|R.box C I I I I fun p2 => R.asg C I I I<|Ad C I I<|Xs C<|Xd C fun hok => D5 C 0 hok I I isAgg25 sizeOf25 (by repeat constructor) Tk5<|D5 C 1 hok I I isAgg25 sizeOf25 (by repeat constructor) Tk5<|Dm C 2 hok I I I<|De 3 (some 12) [false, true] hok (fun _ _ A hk => ?_)
 refine R.callP C I (A.w I I) (A.x I I) (A.s I I) (isWitnessR_c hJ hvv hs k) (hk _ _ ⟨(QFs.cons (QF.of I (fun _ _ A h => R.loadAgg C I (A.w I I) (A.x I I) isAgg25 sizeOf25 (by repeat constructor) Tk5 h)) QFs.nil), ?_⟩)
 refine De 4 (some 13) [false] hok (fun _ _ A hk => ?_)
 refine R.callR C I (A.w I I) (A.x I I) (A.s I I) ((knownR_c hJ hvv hs (between k 0 (b.ws.length - 1)))) fun v1 ro1 hl1 hp1 => hk _ _ ⟨QFs.nil, ?_⟩
 obtain ⟨vl, rfl, hk0, hk1⟩ := hp1
 refine Dm C 5 hok I I I<|Dp 6 hok (fun _ _ _ A h => R.ext C I (A.w I I) (A.x I I) I h)<|Dp 7 hok (fun _ _ _ A h => R.ext C I (A.w I I) (A.x I I) I h)<|Da C 8 hok I I<|Da C 9 hok I I<|D.done C hok (by kernel_rfl)<|Xs C<|Xr C I I<|Rm C I I<|R.int C I I I I b_neq<|R.done C<|X.cond C.1 I (fun hh => ?_) (fun hh => ?_)
 ·have hh := hh
  simp at hh
  refine Xr C I I<|Rm C I I<|R.asg C I I I<|Ad C I I<|X.ret C I I func38 I (by exact (.tmp I (.tmp I .nil)))<|Hr hret hl1 ?_
  rw [toldR, if_pos hh]; rfl
 ·have hh := hh
  simp at hh
  have hLC := hk0 hh
  have hLC0 := hLC
  obtain ⟨xs, hls, hxs, hel⟩ := hLC
  obtain ⟨hg, _, _⟩ := known_good hh
  have hcl := casesL_len hg
  have hxl := congrArg List.length hxs
  rw [List.length_map] at hxl
  obtain ⟨lb, lc, rfl⟩ := hls.form
  refine X.skip C.1<|Xr C I I<|Rm C I I<|Rm C I I<|R.callP C I I I I (falseInR_c hJ hLC0 (by omega) (fun c hc => by have := casesL_f hg c hc; omega) k)<|Rm C I I<|Rn C I I runUnderlying122<|R.callP C I I I I (howR_c hJ _ _ _)<|R.asg C I I I<|Ad C I I<|X.ret C I I func38 I (by exact (.tmp I (.tmp I .nil)))<|Hr hret hl1 ?_
  rw [toldR, if_neg (by simp [hh]), ← hxl]; rfl
end
end Go.Lg.B
namespace Go.Lg.B
open Go Go.Conc Go.Lg Go.Proofs Go.Proofs.Tryz
theorem cases_len_eq {b : Bk} (hb : b.good) : (casesL b).length = (cases b).length := by
 have := (cases_perm hb).length_eq
 rwa [List.length_map] at this
theorem cases_nil_iff {b : Bk} (hb : b.good) : casesL b = [] ↔ cases b = [] := by
 have := cases_len_eq hb
 constructor
 ·intro h; rw [h] at this; exact List.eq_nil_of_length_eq_zero this.symm
 ·intro h; rw [h] at this; exact List.eq_nil_of_length_eq_zero this
theorem known_open (b : Bk) (th : Bool) : knownH b th = openH b (there th) := by
 unfold knownH openH
 by_cases h1 : checkChart b ≠ 0
 ·rw [if_pos h1, if_pos h1]
 ·rw [if_neg h1, if_neg h1]
  have hg := good_iff.1 (show checkChart b = 0 by simpa using h1)
  cases th
  ·rfl
  ·simp only [there, if_true]
   by_cases h : cases b = []
   ·simp [h, (cases_nil_iff hg).2 h]
   ·simp [h, mt (cases_nil_iff hg).1 h]
theorem known_open0 (b : Bk) : knownH b true = openH b 0 := known_open b true
theorem told_law {b : Bk} {th : Bool} {p : Lot → Bool} {q : Cs → Bool} (h : knownH b th = 0 → ∀ c ∈ casesL b, p (lotOf b c) = q c) : told b (there th) p = toldR b th q := by
 unfold told toldR
 rw [← known_open]
 by_cases h0 : knownH b th ≠ 0
 ·rw [if_pos h0, if_pos h0]
 ·rw [if_neg h0, if_neg h0]
  have hk : knownH b th = 0 := by simpa using h0
  obtain ⟨hg, _, hne⟩ := known_good hk
  have hc : (cases b).countP p = (casesL b).countP q := by
   rw [← (cases_perm hg).countP_eq, List.countP_map]
   exact List.countP_congr fun c hc => by simp only [Function.comp]; rw [h hk c hc]
  rw [knownZ, howZ, hc, ← cases_len_eq hg]
  simp only [Prod.mk.injEq, and_true]
  clear hc h hne
  generalize (casesL b).countP q = n
  generalize (casesL b).length = m
  repeat' split
  all_goals first | rfl | omega
theorem casesL_range {b : Bk} (hb : b.good) : ∀ c ∈ casesL b, ∀ k ∈ c.f, 0 ≤ k ∧ k < (b.ws.length : Int) := by
 intro c hc
 obtain ⟨l, hl, h2⟩ := List.mem_flatMap.1 hc
 obtain ⟨s, _, h3⟩ := List.mem_flatMap.1 h2
 obtain ⟨o, _, rfl⟩ := List.mem_map.1 h3
 exact sets_range b.f b.ws.length l (List.mem_filter.1 hl).1
theorem at_law {b : Bk} (s : Sq) : told b (b.square s) (fun c => decide (c.a.s = s)) = toldR b (onChartW b s) (fun c => decide (c.s = s)) := by
 by_cases hch : checkChart b = 0
 ·rw [onChartW_small (good_iff.1 hch).small]
  exact told_law fun _ c _ => rfl
 ·have e1 : openH b (b.square s) = checkChart b := by rw [openH, if_pos hch]
  have e2 : knownH b (onChartW b s) = checkChart b := by rw [knownH, if_pos hch]
  rw [told, toldR, e1, e2, if_pos hch, if_pos hch]
theorem false_law {b : Bk} (k : Int) : told b (b.witness k) (fun c => c.m.testBit k.toNat) = toldR b (between k 0 (b.ws.length - 1)) (fun c => c.f.contains k) := by
 refine told_law (th := between k 0 (b.ws.length - 1)) fun hk c hc => ?_
 obtain ⟨hg, hth, _⟩ := known_good hk
 simp only [between, Bool.and_eq_true, decide_eq_true_eq] at hth
 show (maskL b.ws.length c.f).testBit k.toNat = _
 rw [maskL_bit (casesL_range hg c hc), show ((k.toNat : Nat) : Int) = k by omega]
theorem addNew_block (s : Sq) : ∀ (l acc : List Sq), (∀ x ∈ l, x = s) → s ∈ acc → l.foldl addNew acc = acc
 | [], _, _, _ => rfl
 | x :: l, acc, h, hs => by
  have hx := h x List.mem_cons_self
  subst hx
  rw [List.foldl_cons, addNew, if_pos hs]
  exact addNew_block x l acc (fun y hy => h y (List.mem_cons_of_mem _ hy)) hs
theorem firsts_blocks (g : Sq → List Sq) : ∀ (S acc : List Sq), S.Nodup → (∀ s ∈ S, s ∉ acc) → (∀ s ∈ S, ∀ x ∈ g s, x = s) → (S.flatMap g).foldl addNew acc = acc ++ S.filter fun s => !(g s).isEmpty
 | [], acc, _, _, _ => by simp
 | s :: S, acc, hn, hd, hg => by
  rw [List.flatMap_cons, List.foldl_append]
  obtain ⟨n1, n2⟩ := List.nodup_cons.1 hn
  have hgs := hg s List.mem_cons_self
  cases hc : g s with
  | nil =>
   rw [List.foldl_nil, firsts_blocks g S acc n2 (fun x hx => hd x (List.mem_cons_of_mem _ hx)) (fun x hx => hg x (List.mem_cons_of_mem _ hx))]
   simp [hc]
  | cons y l =>
   rw [hc] at hgs
   have hy := hgs y List.mem_cons_self
   subst hy
   rw [List.foldl_cons, addNew, if_neg (hd y List.mem_cons_self), addNew_block y l (acc ++ [y]) (fun x hx => hgs x (List.mem_cons_of_mem _ hx)) (by simp),
    firsts_blocks g S (acc ++ [y]) n2 (fun x hx => ?_) (fun x hx => hg x (List.mem_cons_of_mem _ hx))]
   ·simp [hc]
   ·intro h
    rcases List.mem_append.1 h with h | h
    ·exact hd x (List.mem_cons_of_mem _ hx) h
    ·rw [List.mem_singleton.1 h] at hx; exact n1 hx
theorem squares_nodup {b : Bk} (hb : b.good) : (squares b).Nodup := by
 have hw := hb.w
 unfold squares
 refine List.pairwise_map.2 (List.nodup_range.imp fun {n m} hne e => hne ?_)
 simp only [sqAt, Sq.mk.injEq] at e
 have h1 := Int.emod_add_mul_ediv (n : Int) b.w
 have h2 := Int.emod_add_mul_ediv (m : Int) b.w
 rw [e.1, e.2] at h1
 omega
theorem where_law (b : Bk) : wheres b = wheresR b := by
 unfold wheres wheresR
 rw [known_open0]
 by_cases h0 : openH b 0 ≠ 0
 ·rw [if_pos h0, if_pos h0]
 ·rw [if_neg h0, if_neg h0]
  have hg := (openH_good (show openH b 0 = 0 by simpa using h0)).1
  have e : (cases b).map (fun c => c.a.s) = (squares b).flatMap fun s => ((offsAll b.cs).map fun o => Cs.aim ⟨s, o, []⟩).flatMap fun a => (lots b a 0 (2 ^ b.ws.length)).map fun c => c.a.s := by
   unfold cases
   rw [aims_eq hg, List.flatMap_assoc, List.map_flatMap]
   refine flat_congr fun s _ => ?_
   rw [List.map_flatMap]
  rw [e]
  unfold firsts
  rw [firsts_blocks _ _ _ (squares_nodup hg) (fun s _ => by simp), List.nil_append]
  ·refine List.filter_congr fun s hs => ?_
   rw [Bool.eq_iff_iff, Bool.not_eq_true', List.any_eq_true]
   have hmem : (∃ c ∈ casesL b, c.s = s) ↔ ∃ c ∈ cases b, c.a.s = s := by
    constructor
    ·rintro ⟨c, hc, rfl⟩
     exact ⟨lotOf b c, (cases_perm hg).mem_iff.1 (List.mem_map_of_mem hc), rfl⟩
    ·rintro ⟨c, hc, rfl⟩
     obtain ⟨c', hc', rfl⟩ := List.mem_map.1 ((cases_perm hg).mem_iff.2 hc)
     exact ⟨c', hc', rfl⟩
   simp only [dT]
   rw [hmem, List.isEmpty_eq_false_iff_exists_mem]
   constructor
   ·rintro ⟨x, hx⟩
    obtain ⟨a, ha, hx⟩ := List.mem_flatMap.1 hx
    obtain ⟨o, ho, rfl⟩ := List.mem_map.1 ha
    obtain ⟨c, hc, rfl⟩ := List.mem_map.1 hx
    have hca : c.a = Cs.aim ⟨s, o, []⟩ := by
     obtain ⟨k, _, rfl⟩ := List.mem_map.1 hc; rfl
    refine ⟨c, ?_, by rw [hca]; rfl⟩
    unfold cases
    refine List.mem_flatMap.2 ⟨Cs.aim ⟨s, o, []⟩, ?_, hc⟩
    rw [aims_eq hg]
    exact List.mem_flatMap.2 ⟨s, hs, List.mem_map.2 ⟨o, ho, rfl⟩⟩
   ·rintro ⟨c, hc, rfl⟩
    unfold cases at hc
    obtain ⟨a, ha, hca⟩ := List.mem_flatMap.1 hc
    have hce : c.a = a := by
     obtain ⟨k, _, rfl⟩ := List.mem_map.1 hca; rfl
    rw [aims_eq hg] at ha
    obtain ⟨s', hs', ha⟩ := List.mem_flatMap.1 ha
    obtain ⟨o, ho, rfl⟩ := List.mem_map.1 ha
    have hss : c.a.s = s' := by rw [hce]; rfl
    refine ⟨c.a.s, List.mem_flatMap.2 ⟨Cs.aim ⟨c.a.s, o, []⟩, List.mem_map.2 ⟨o, ho, rfl⟩, List.mem_map.2 ⟨c, ?_, rfl⟩⟩⟩
    rw [hss]; exact hca
  ·intro s _ x hx
   obtain ⟨a, ha, hx⟩ := List.mem_flatMap.1 hx
   obtain ⟨o, _, rfl⟩ := List.mem_map.1 ha
   obtain ⟨c, hc, rfl⟩ := List.mem_map.1 hx
   obtain ⟨k, _, rfl⟩ := List.mem_map.1 hc
   rfl
end Go.Lg.B
namespace Go.Lg
open Go Go.Conc
variable {P : Program} {main : Bool} {J : Goroutine → Mem → Prop} {b : Frame} (C : Ctx P main J b) {cs : List Frame} {n : Nat} {ds : List Deferred} {σ : Slots} {ro : RO} {own : List (Nat × Obj)} {k : List Item} {ops : Array Oper} {i : Nat} {rest : List Nat}
variable {d : Nat} {ty : TypeId} {pos : String} {af : Array Edge} {g : Option (Nat × Bool)}
include C in
theorem R.appendH {st xt e : TypeId} {ti : TypeInfo} {kk m : Nat} {z : Value} {xe : TypeDesc} {x y : Operand} {v w : Value} {cells xs : List Value} {own0 H : List (Nat × Obj)} (ho : ops[i]? = some ⟨some d, .call ⟨.builtin .append, #[x, y], #[st, xt]⟩, ty, pos, af, g⟩)
  (hg : wantedS ops σ ⟨some d, .call ⟨.builtin .append, #[x, y], #[st, xt]⟩, ty, pos, af, g⟩ = some true) (hx : ev σ x = some v) (hy : ev σ y = some w) (hu : ∀ w, Sem.run P (Go.underlying st) w = .ok (.slice e) w) (hux : ∀ w, Sem.run P (Go.underlying xt) w = .ok xe w)
  (hxe : ∀ q, xe ≠ .int q) (hi : P.info? e = some ti) (hks : ti.size = kk) (hz : ti.zero = some z) (hzc : z.cells.size = kk) (hby : 0 < ti.bytes ∧ ti.bytes ≤ 1000) (hkp : 0 < kk) (hb : Buf e kk [] v cells own0) (hr : Rd ⟨ro, own⟩ kk w m xs) (h1 : ones xs = true) (hsz : cells.length + xs.length ≤ 1000000000) (hM : own = own0 ++ H)
  (h : ∀ v' own', Buf e kk [] v' (cells ++ xs) own' → R J b cs n ops rest k ds ((d, v') :: σ) ⟨ro, own' ++ H⟩) : R J b cs n ops (i :: rest) k ds σ ⟨ro, own⟩ := by
 subst hM
 refine R.append C ho hg hx hy hu hux hxe hi hks hz hzc hby hkp (hb.app H) hr h1 hsz fun v' own' hb' => ?_
 obtain ⟨own1, rfl, hb1⟩ := Buf.unapp (tail := []) (H := H) hb'
 exact h v' own1 hb1
end Go.Lg
namespace Go.Lg.B
open Go Go.Conc Go.Lg Go.Proofs Go.Proofs.Tryz
section
variable {main : Bool} {J : Goroutine → Mem → Prop} (hJ : Closed prog main J)
include hJ
end
end Go.Lg.B
namespace Go.Lg
open Go Go.Conc
def capOk (v : Value) : Prop := ∃ bs len cap, v = .slice bs len cap ∧ len ≤ cap
theorem Buf.capOk {e : TypeId} {k : Nat} {tail own : List (Nat × Obj)} {v : Value} {cells : List Value} (h : Buf e k tail v cells own) : capOk v := by
 cases h with
 | nil => exact ⟨_, _, _, rfl, Nat.le_refl _⟩
 | blk c1 c2 c3 => exact ⟨_, _, _, rfl, c3⟩
theorem X.afterI {J : Goroutine → Mem → Prop} {b : Frame} {cs : List Frame} {n : Nat} {ds : List Deferred} {σ : Slots} {M : Mem} {k : List Item} {it : Item} {ι : Type} (Ex : ι → Prop) (σe : ι → Slots) (Me : ι → Mem) (hk : ∀ s, Ex s → X J b cs n k ds (σe s) (Me s))
  (h : (∀ s, Ex s → X J b cs n k ds (σe s) (Me s)) → X J b cs n (it :: k) ds σ M) : X J b cs n (it :: k) ds σ M := h hk
theorem X.after {J : Goroutine → Mem → Prop} {b : Frame} {cs : List Frame} {n : Nat} {ds : List Deferred} {σ : Slots} {M : Mem} {k : List Item} {id : Nat} {cc : Code} {ι : Type} (Ex : ι → Prop) (σe : ι → Slots) (Me : ι → Mem) (hk : ∀ s, Ex s → X J b cs n k ds (σe s) (Me s))
  (h : (∀ s, Ex s → X J b cs n k ds (σe s) (Me s)) → X J b cs n (.code (.block id cc) :: k) ds σ M) : X J b cs n (.code (.block id cc) :: k) ds σ M := h hk
end Go.Lg
namespace Go.Lg.B
open Go Go.Conc Go.Lg Go.Proofs Go.Proofs.Tryz
theorem ins_up {xs : List Int} {x : Int} {k : Nat} (hup : xs.Pairwise (· < ·)) (hlo : ∀ j (h : j < xs.length), j < k → xs[j] < x) (hhi : ∀ h : k < xs.length, x < xs[k]) : (xs.take k ++ x :: xs.drop k).Pairwise (· < ·) := by
 have hs := hup
 rw [← List.take_append_drop k xs, List.pairwise_append] at hs
 obtain ⟨h1, h2, h3⟩ := hs
 have hx : ∀ y ∈ xs.drop k, x < y := fun y hy => by
  by_cases hk : k < xs.length
  ·rw [List.drop_eq_getElem_cons hk] at hy h2
   rcases List.mem_cons.1 hy with rfl | hy
   ·exact hhi hk
   ·have := (List.pairwise_cons.1 h2).1 y hy
    have := hhi hk
    omega
  ·rw [List.drop_of_length_le (by omega)] at hy; exact nomatch hy
 refine List.pairwise_append.2 ⟨h1, List.pairwise_cons.2 ⟨hx, h2⟩, fun a ha y hy => ?_⟩
 obtain ⟨j, hj, rfl⟩ := List.getElem_of_mem ha
 rw [List.length_take] at hj
 have ha' : (xs.take k)[j] < x := by rw [List.getElem_take]; exact hlo j (by omega) (by omega)
 rcases List.mem_cons.1 hy with rfl | hy
 ·exact ha'
 ·have := hx y hy; omega
theorem ins_mem {xs : List Int} {x y : Int} {k : Nat} : y ∈ xs.take k ++ x :: xs.drop k ↔ y ∈ xs ∨ y = x := by
 have h : y ∈ xs ↔ y ∈ xs.take k ∨ y ∈ xs.drop k := by rw [← List.mem_append, List.take_append_drop]
 rw [List.mem_append, List.mem_cons, h]
 constructor
 ·rintro (h | h | h)
  ·exact .inl (.inl h)
  ·exact .inr h
  ·exact .inl (.inr h)
 ·rintro ((h | h) | h)
  ·exact .inl h
  ·exact .inr (.inr h)
  ·exact .inr (.inl h)
theorem take_mem {l : List Int} {i : Nat} (h : i < l.length) {y : Int} : y ∈ l.take (i + 1) ↔ y ∈ l.take i ∨ y = l[i] := by
 rw [List.take_succ_eq_append_getElem h, List.mem_append, List.mem_singleton]
theorem ic_get (l : List Int) (i : Nat) : (l.flatMap ic)[i]? = l[i]?.map (Value.int .i64) := by
 have e : l.flatMap ic = l.map (Value.int .i64) := by
  induction l with
  | nil => rfl
  | cons x l ih => rw [List.flatMap_cons, ih]; rfl
 rw [e, List.getElem?_map]
theorem rd_to {ro : RO} {own : List (Nat × Obj)} {base : Option Addr} {cap : Nat} {xs : List Int} (h : LsI ro (.slice base xs.length cap) xs) {k : Nat} (hk : k ≤ xs.length) : Rd ⟨ro, own⟩ 1 (.slice base k cap) (xs.take k).length ((xs.take k).flatMap ic) := by
 have hl : (xs.take k).length = k := by rw [List.length_take]; omega
 rw [hl]
 by_cases h0 : k = 0
 ·subst h0; exact .zero
 ·obtain ⟨p, off, cap', l, t, fq, hv, hr, hsub⟩ := h.at ic_len (by omega)
  cases hv
  refine .ro hr (Sub.of_get ?_ (by rw [flat_len, hl, Nat.mul_one]) fun i hi => ?_)
  ·have := (ic_at hsub (i := k - 1) (by omega))
   have := (List.getElem?_eq_some_iff.1 this).1
   omega
  ·have hi' : i < xs.length := by omega
   have h1 := ic_at hsub hi'
   rw [Nat.mul_one] at h1
   rw [h1, ic_get]
   rw [List.getElem?_take, if_pos (by omega), List.getElem?_eq_getElem hi']; rfl
theorem rd_from {ro : RO} {own : List (Nat × Obj)} {base : Option Addr} {cap : Nat} {xs : List Int} (h : LsI ro (.slice base xs.length cap) xs) {k : Nat} (hk : k ≤ xs.length) (hc : xs.length ≤ cap) : Rd ⟨ro, own⟩ 1 (.slice (if cap = (k : Int).toNat then base else base.map (·.add ((k : Int).toNat * 1))) (xs.length - (k : Int).toNat) (cap - (k : Int).toNat)) (xs.drop k).length ((xs.drop k).flatMap ic) := by
 rw [Int.toNat_natCast]
 have hl : (xs.drop k).length = xs.length - k := List.length_drop
 rw [hl]
 by_cases h0 : k = xs.length
 ·rw [List.drop_of_length_le (by omega), h0, Nat.sub_self]; exact .zero
 ·obtain ⟨p, off, cap', l, t, fq, hv, hr, hsub⟩ := h.at ic_len (by omega)
  cases hv
  rw [if_neg (by omega)]
  have hadd : (some (⟨p, off, none⟩ : Addr)).map (·.add (k * 1)) = some ⟨p, off + k * 1, none⟩ := by by_cases h : k = 0 <;> simp [Addr.add, h]
  rw [hadd]
  refine .ro hr (Sub.of_get ?_ (by rw [flat_len, hl, Nat.mul_one]) fun i hi => ?_)
  ·have := (ic_at hsub (i := xs.length - 1) (by omega))
   have := (List.getElem?_eq_some_iff.1 this).1
   omega
  ·have hi' : k + i < xs.length := by omega
   have h1 := ic_at hsub hi'
   rw [Nat.mul_one] at h1
   rw [Nat.mul_one, Nat.add_assoc, h1, ic_get, List.getElem?_drop, List.getElem?_eq_getElem hi']; rfl
section
variable {main : Bool} {J : Goroutine → Mem → Prop} (hJ : Closed prog main J)
include hJ
theorem sortedR_c {l : List Int} {v : Value} {ro : RO} (hl : LsI ro v l) (hn : l.length ≤ 1000000) : CallR prog J (fnv 108) [v] ro (fun w ro' => LsI ro' w (compactL (l.mergeSort fun x y => decide (x ≤ y)))) := by
 have hl0 := hl
 obtain ⟨lb, lc, rfl⟩ := hl.form
 refine CallR.intro hJ (by kernel_rfl) fun c cs tail hret => enter_X (n := 60) func108 I I (Nl I) ?_
 have C : Ctx prog main J (bf 108 .normal) := ⟨hJ, by decide⟩
 refine Xr C I I<|Ad C I I<|Xr C I I<|Ad C I I<|Xs C<|Xr C I I<|Ad C I I<|X.block C.1<|X.loopI (ι := Nat × RO × Value × List Int) C.1 (fun s => s.1 ≤ l.length ∧ ro.le s.2.1 ∧ LsI s.2.1 s.2.2.1 s.2.2.2 ∧ capOk s.2.2.1 ∧ s.2.2.2.length ≤ s.1 ∧ s.2.2.2.Pairwise (· < ·) ∧ ∀ y, y ∈ s.2.2.2 ↔ y ∈ l.take s.1) (fun s => [(0, .slice lb l.length lc), (3, s.2.2.1), (4, .int .i64 (s.1 : Int))])
  (fun s => ⟨s.2.1, tail⟩) (fun s => l.length - s.1) (0, ro, .slice none 0 0, []) ⟨Nat.zero_le _, RO.le_refl _, Ls.nil, ⟨_, _, _, rfl, Nat.le_refl _⟩, Nat.le_refl _, .nil, fun y => by simp⟩ rfl ⟨rfl, rfl, rfl, trivial⟩ fun s hs hnext => ?_
 obtain ⟨i, ro1, v1, xs⟩ := s
 obtain ⟨hi, hle1, hL1, hcap, hxl, hup, hmem⟩ := hs
 simp only at hi hle1 hL1 hcap hxl hup hmem hnext ⊢
 have hL10 := hL1
 obtain ⟨b1, c1, rfl⟩ := hL1.form
 obtain ⟨bs', len', cap', hcv, hc1⟩ := hcap
 cases hcv
 refine Xs C<|Xr C I I<|Rm C I I<|Rm C I I<|Rn C I I runUnderlying28<|R.int C I I I I b_lss<|R.done C<|X.cond C.1 I (fun hlt => ?_) (fun hlt => ?_)
 ·have hlt := hlt
  simp only [dT] at hlt
  have hi' : i < l.length := by omega
  obtain ⟨pl, offl, capl, ll, tl, fql, hsll, hropl, hsubl⟩ := hl0.at ic_len (by omega)
  cases hsll
  have hxl0 := ic_at hsubl hi'
  have hro1 := hle1 _ _ hropl
  have htm := fun y => take_mem (y := y) hi'
  generalize hX : l[i] = x at hxl0 htm
  refine X.skip C.1<|Xs C<|X.block C.1<|Xr C I I<|Ad C I I<|Xs C<|X.after (ι := Nat) (fun k => k ≤ xs.length ∧ (∀ j (h : j < xs.length), j < k → xs[j] < x) ∧ ∀ h : k < xs.length, x ≤ xs[k]) (fun k => [(0, .slice (some ⟨pl, offl, none⟩) l.length lc), (3, .slice b1 xs.length c1), (4, .int .i64 (i : Int)), (5, .int .i64 (k : Int))]) (fun k => ⟨ro1, tail⟩) (fun k hk => ?_) (fun hcont => ?_)
  ·obtain ⟨hk, hlo, hhi⟩ := hk
   have hsame : ∀ h : k < xs.length, xs[k] = x → ∀ y, y ∈ xs ↔ y ∈ l.take (i + 1) := fun h e y => by
    rw [htm, ← hmem]
    refine ⟨.inl, fun h => h.elim id fun h => ?_⟩
    rw [h, ← e]; exact List.getElem_mem _
   have hinv : (∀ h : k < xs.length, xs[k] ≠ x) → i + 1 ≤ l.length ∧ (xs.take k ++ x :: xs.drop k).length ≤ i + 1 ∧ (xs.take k ++ x :: xs.drop k).Pairwise (· < ·) ∧ ∀ y, y ∈ xs.take k ++ x :: xs.drop k ↔ y ∈ l.take (i + 1) := fun hne =>
    ⟨by omega, by rw [List.length_append, List.length_cons, List.length_take, List.length_drop]; omega, ins_up hup hlo fun h => by have := hhi h; have := hne h; omega, fun y => by rw [ins_mem, hmem, htm]⟩
   have hf1 : ((xs.take k).flatMap ic).length = k := by rw [flat_len, List.length_take]; omega
   have hf2 : ((xs.drop k).flatMap ic).length = xs.length - k := by rw [flat_len, List.length_drop]
   have hcat : (([] ++ (xs.take k).flatMap ic) ++ [Value.int .i64 x]) ++ (xs.drop k).flatMap ic = (xs.take k ++ x :: xs.drop k).flatMap ic := by simp [ic]
   have hkx := hk
   obtain ⟨r, hr⟩ : ∃ r, r = decide (xs[k]? ≠ some x) := ⟨_, rfl⟩
   refine Xs C<|X.afterI (ι := Unit) (fun _ => True) (fun _ => [(0, .slice (some ⟨pl, offl, none⟩) l.length lc), (3, .slice b1 xs.length c1), (4, .int .i64 (i : Int)), (5, .int .i64 (k : Int)), (43, .bool r)]) (fun _ => ⟨ro1, tail⟩) (fun _ _ => ?_) (fun hcont9 => ?_)
   ·have _ := hr
    refine X.cond C.1 I (fun hq => ?_) (fun hq => ?_)
    ·have hq := hq
     have hne : ∀ h : k < xs.length, xs[k] ≠ x := fun h e => by
      rw [hq, List.getElem?_eq_getElem h, e] at hr; simp at hr
     obtain ⟨g1, g2, g3, g4⟩ := hinv hne
     refine Xd C fun hok => Dm C 1 hok I I I<|Dm C 2 hok I I I<|Dp 3 hok (fun _ _ _ A h => R.sliceTo C I (A.w I I) (A.x I I) (A.x I I) runUnderlying28 sizeOf3 (by omega) (by omega) h)<|Dm C 5 hok I I I<|Dm C 6 hok I I I<|Dx C 7 hok I I I runUnderlying28 sizeOf3<|D2 C 8 hok I I isAgg3 hro1 hxl0<|Dm C 11 hok I I I<|Dm C 12 hok I I I<|Dp 13 hok (fun _ _ _ A h => R.sliceFrom C I (A.w I I) (A.x I I) (A.x I I) runUnderlying28 sizeOf3 (by omega) (by omega) h)<|D.eP2 (i := 0) (i' := 9) (dst := (some 44)) (dst' := (some 53)) [true] [false] hok I I (by kernel_rfl) (by kernel_rfl) (by kernel_rfl) (fun _ _ A hk => ?_) (fun _ _ A hk => ?_)
     ·
      refine R.buildSlice C (vs := _) I (A.w I I) (show pvals _ _ = some (numbered 0 []) from (A.p I I)) I runUnderlying28 sizeOf3 zeroValue3 (by decide) (.nil) fun p44 => hk _ _ ⟨(QFs.cons (QF.of I (fun _ _ A h => R.loadOneRo C I (A.w I I) (A.x I I) isAgg3 hro1 hxl0 h)) QFs.nil), ?_⟩
      refine D.eP2 (i := 4) (i' := 9) (dst := (some 48)) (dst' := (some 53)) [true] [false] hok I I (by kernel_rfl) (by kernel_rfl) (by kernel_rfl) (fun _ _ A hk => ?_) (fun _ _ A hk => ?_)
      ·
       refine R.appendH (kk := 1) C I (A.w I I) (A.x I I) (A.x I I) runUnderlying28 runUnderlying28 (fun _ => nofun) (show prog.info? 3 = some Tryz.t3 by kernel_rfl) I I I (by decide) (by decide) (Buf.blk (tail := []) (cells := []) (spare := []) (len := 0) (cap := 0) I I (Nat.le_refl _)) (rd_to (k := k) hL10 hkx) (ones_ic _) (by simp only [List.length_nil]; omega) I fun v' own' hb' => hk _ _ ⟨(QFs.cons (QF.of I (fun _ _ A h => R.loadOneRo C I (A.w I I) (A.x I I) isAgg3 hro1 hxl0 h)) QFs.nil), ?_⟩
       refine De 9 (some 53) [false] hok (fun _ _ A hk => ?_)
       refine R.buildSlice C (vs := _) I (A.w I I) (show pvals _ _ = some (numbered 0 [_]) from (A.p I I)) I runUnderlying28 sizeOf3 zeroValue3 (by decide) (Cat.one I I) fun p53 => hk _ _ ⟨QFs.nil, ?_⟩
       refine De 10 (some 54) [] hok (fun _ _ A hk => ?_)
       refine R.append1 (kk := 1) C I (A.w I I) (A.x I I) (A.x I I) runUnderlying28 runUnderlying28 (fun _ => nofun) (show prog.info? 3 = some Tryz.t3 by kernel_rfl) I I I (by decide) (by decide) (hb'.app _) I I (by simp only [List.length_append, List.length_cons, List.length_nil]; omega) fun v' own' hb' => hk _ _ ⟨QFs.nil, ?_⟩
       refine De 14 (some 58) [] hok (fun _ _ A hk => ?_)
       refine R.append (kk := 1) C I (A.w I I) (A.x I I) (A.x I I) runUnderlying28 runUnderlying28 (fun _ => nofun) (show prog.info? 3 = some Tryz.t3 by kernel_rfl) I I I (by decide) (by decide) hb' (rd_from (k := k) hL10 hkx hc1) (ones_ic _) (by simp only [List.length_append, List.length_cons, List.length_nil]; omega) fun v' own' hb' => hk _ _ ⟨QFs.nil, ?_⟩
       refine Da C 15 hok I I<|D.done C hok (by kernel_rfl)<|X.inBlock C.1<|X.region C I I<|Rm C I I<|Ra C I I I<|Ad C I I ?_
       have hco := hb'.capOk
       rw [hcat] at hb'
       refine X.finish C.1 ic_len (by decide) hb' fun ro3 hl3 hls3 => X.weaken ?_ (hnext (i + 1, ro3, _, _) ⟨g1, RO.le_trans hle1 hl3, hls3, hco, g2, g3, g4⟩ (by omega))
       exact ⟨rfl, rfl, rfl, trivial⟩
      ·
       refine R.buildSlice C (vs := _) I (A.w I I) (show pvals _ _ = some (numbered 0 [_]) from (A.p I I)) I runUnderlying28 sizeOf3 zeroValue3 (by decide) (Cat.one I I) fun p53 => hk _ _ ⟨QFs.nil, ?_⟩
       refine De 4 (some 48) [] hok (fun _ _ A hk => ?_)
       refine R.perm C.1 (List.Perm.swap _ _ _)<|R.appendH (kk := 1) C I (A.w I I) (A.x I I) (A.x I I) runUnderlying28 runUnderlying28 (fun _ => nofun) (show prog.info? 3 = some Tryz.t3 by kernel_rfl) I I I (by decide) (by decide) (Buf.blk (tail := []) (cells := []) (spare := []) (len := 0) (cap := 0) I I (Nat.le_refl _)) (rd_to (k := k) hL10 hkx) (ones_ic _) (by simp only [List.length_nil]; omega) I fun v' own' hb' => hk _ _ ⟨QFs.nil, ?_⟩
       refine De 10 (some 54) [] hok (fun _ _ A hk => ?_)
       refine R.perm C.1 (List.perm_middle (l₁ := own') (a := (p53, .cells [.int .i64 x].toArray 3 (0, 0))) (l₂ := tail))<|R.append1 (kk := 1) C I (A.w I I) (A.x I I) (A.x I I) runUnderlying28 runUnderlying28 (fun _ => nofun) (show prog.info? 3 = some Tryz.t3 by kernel_rfl) I I I (by decide) (by decide) (hb'.app _) I I (by simp only [List.length_append, List.length_cons, List.length_nil]; omega) fun v' own' hb' => hk _ _ ⟨QFs.nil, ?_⟩
       refine De 14 (some 58) [] hok (fun _ _ A hk => ?_)
       refine R.append (kk := 1) C I (A.w I I) (A.x I I) (A.x I I) runUnderlying28 runUnderlying28 (fun _ => nofun) (show prog.info? 3 = some Tryz.t3 by kernel_rfl) I I I (by decide) (by decide) hb' (rd_from (k := k) hL10 hkx hc1) (ones_ic _) (by simp only [List.length_append, List.length_cons, List.length_nil]; omega) fun v' own' hb' => hk _ _ ⟨QFs.nil, ?_⟩
       refine Da C 15 hok I I<|D.done C hok (by kernel_rfl)<|X.inBlock C.1<|X.region C I I<|Rm C I I<|Ra C I I I<|Ad C I I ?_
       have hco := hb'.capOk
       rw [hcat] at hb'
       refine X.finish C.1 ic_len (by decide) hb' fun ro3 hl3 hls3 => X.weaken ?_ (hnext (i + 1, ro3, _, _) ⟨g1, RO.le_trans hle1 hl3, hls3, hco, g2, g3, g4⟩ (by omega))
       exact ⟨rfl, rfl, rfl, trivial⟩
     ·
      refine R.buildSlice C (vs := _) I (A.w I I) (show pvals _ _ = some (numbered 0 [_]) from (A.p I I)) I runUnderlying28 sizeOf3 zeroValue3 (by decide) (Cat.one I I) fun p53 => hk _ _ ⟨QFs.nil, ?_⟩
      refine De 0 (some 44) [] hok (fun _ _ A hk => ?_)
      refine R.buildSlice C (vs := _) I (A.w I I) (show pvals _ _ = some (numbered 0 []) from (A.p I I)) I runUnderlying28 sizeOf3 zeroValue3 (by decide) (.nil) fun p44 => hk _ _ ⟨QFs.nil, ?_⟩
      refine De 4 (some 48) [] hok (fun _ _ A hk => ?_)
      refine R.appendH (kk := 1) C I (A.w I I) (A.x I I) (A.x I I) runUnderlying28 runUnderlying28 (fun _ => nofun) (show prog.info? 3 = some Tryz.t3 by kernel_rfl) I I I (by decide) (by decide) (Buf.blk (tail := []) (cells := []) (spare := []) (len := 0) (cap := 0) I I (Nat.le_refl _)) (rd_to (k := k) hL10 hkx) (ones_ic _) (by simp only [List.length_nil]; omega) I fun v' own' hb' => hk _ _ ⟨QFs.nil, ?_⟩
      refine De 10 (some 54) [] hok (fun _ _ A hk => ?_)
      refine R.perm C.1 (List.perm_middle (l₁ := own') (a := (p53, .cells [.int .i64 x].toArray 3 (0, 0))) (l₂ := tail))<|R.append1 (kk := 1) C I (A.w I I) (A.x I I) (A.x I I) runUnderlying28 runUnderlying28 (fun _ => nofun) (show prog.info? 3 = some Tryz.t3 by kernel_rfl) I I I (by decide) (by decide) (hb'.app _) I I (by simp only [List.length_append, List.length_cons, List.length_nil]; omega) fun v' own' hb' => hk _ _ ⟨QFs.nil, ?_⟩
      refine De 14 (some 58) [] hok (fun _ _ A hk => ?_)
      refine R.append (kk := 1) C I (A.w I I) (A.x I I) (A.x I I) runUnderlying28 runUnderlying28 (fun _ => nofun) (show prog.info? 3 = some Tryz.t3 by kernel_rfl) I I I (by decide) (by decide) hb' (rd_from (k := k) hL10 hkx hc1) (ones_ic _) (by simp only [List.length_append, List.length_cons, List.length_nil]; omega) fun v' own' hb' => hk _ _ ⟨QFs.nil, ?_⟩
      refine Da C 15 hok I I<|D.done C hok (by kernel_rfl)<|X.inBlock C.1<|X.region C I I<|Rm C I I<|Ra C I I I<|Ad C I I ?_
      have hco := hb'.capOk
      rw [hcat] at hb'
      refine X.finish C.1 ic_len (by decide) hb' fun ro3 hl3 hls3 => X.weaken ?_ (hnext (i + 1, ro3, _, _) ⟨g1, RO.le_trans hle1 hl3, hls3, hco, g2, g3, g4⟩ (by omega))
      exact ⟨rfl, rfl, rfl, trivial⟩
    ·have hq := hq
     obtain ⟨hk', hqe⟩ : ∃ h : k < xs.length, xs[k] = x := by
      rw [hq] at hr
      have : xs[k]? = some x := by simpa using hr.symm
      exact List.getElem?_eq_some_iff.1 this
     refine X.skip C.1<|X.inBlock C.1<|X.region C I I<|Rm C I I<|Ra C I I I<|Ad C I I<|X.weaken ?_ (hnext (i + 1, ro1, _, xs) ⟨hi', hle1, hL10, ⟨_, _, _, rfl, hc1⟩, Nat.le_succ_of_le hxl, hup, hsame hk' hqe⟩ (by omega))
     exact ⟨rfl, rfl, rfl, trivial⟩
   ·have _ := hcont9
    refine Xd C fun hok => Dm C 0 hok I I I<|Dm C 1 hok I I I<|Ds C 2 hok I I runUnderlying28<|Di C 3 hok I I I I I b_eql<|Dm C 4 hok I I I<|D.fix (t := 33) I (fun hg => ?_) (fun hg => ?_)
    ·have hg := hg
     simp at hg
     have hrt : r = true := by rw [hr, List.getElem?_eq_none (by omega)]; simp
     refine Du C 5 hok I<|Du C 6 hok I<|Du C 7 hok I<|Du C 8 hok I<|Du C 9 hok I<|Du C 10 hok I<|Du C 11 hok I<|Du C 12 hok I<|Du C 13 hok I<|Dp 14 hok (fun _ _ _ A h => R.pickT C I (A.w I I) (A.x I I) (A.x I I) h)<|D.done C hok (by kernel_rfl)<|X.weaken ?_ (hcont9 () trivial)
     rw [hrt]
     exact ⟨rfl, rfl, rfl, rfl, rfl, trivial⟩
    ·have hg := hg
     simp at hg
     have hk' : k < xs.length := by omega
     obtain ⟨px, offx, capx, lx, tx, fqx, hslx, hropx, hsubx⟩ := hL10.at ic_len (by omega)
     cases hslx
     have hxk := ic_at hsubx hk'
     have hrt : (xs[k] != x) = r := by rw [hr, List.getElem?_eq_getElem hk', Bool.eq_iff_iff]; simp
     refine Dm C 5 hok I I I<|Dm C 6 hok I I I<|Dx C 7 hok I I I runUnderlying28 sizeOf3<|D2 C 8 hok I I isAgg3 hropx hxk<|Dm C 9 hok I I I<|Dm C 10 hok I I I<|Dx C 11 hok I I I runUnderlying28 sizeOf3<|D2 C 12 hok I I isAgg3 hro1 hxl0<|Di C 13 hok I I I I I b_neq<|Dp 14 hok (fun _ _ _ A h => R.pickF C I (A.w I I) (A.x I I) (A.x I I) h)<|D.done C hok (by kernel_rfl)<|X.weaken ?_ (hcont9 () trivial)
     rw [← hrt]
     exact ⟨rfl, rfl, rfl, rfl, rfl, trivial⟩
  ·have _ := hi'
   refine X.block C.1<|X.loopI (ι := Nat) C.1 (fun k => k ≤ xs.length ∧ ∀ j (h : j < xs.length), j < k → xs[j] < x) (fun k => [(0, .slice (some ⟨pl, offl, none⟩) l.length lc), (3, .slice b1 xs.length c1), (4, .int .i64 (i : Int)), (5, .int .i64 (k : Int))])
    (fun k => ⟨ro1, tail⟩) (fun k => xs.length - k) 0 ⟨Nat.zero_le _, fun j _ h => absurd h (Nat.not_lt_zero _)⟩ rfl ⟨rfl, rfl, rfl, rfl, trivial⟩ fun k hk hnext2 => ?_
   obtain ⟨hk, hlo⟩ := hk
   refine Xs C<|Xs C<|Xd C fun hok => Dm C 0 hok I I I<|Dm C 1 hok I I I<|Ds C 2 hok I I runUnderlying28<|Di C 3 hok I I I I I b_lss<|Dm C 4 hok I I I<|D.fix (t := 16) I (fun hg => ?_) (fun hg => ?_)
   ·have hg := hg
    simp only [dT] at hg
    have hk' : k < xs.length := by omega
    obtain ⟨px, offx, capx, lx, tx, fqx, hslx, hropx, hsubx⟩ := hL10.at ic_len (by omega)
    cases hslx
    have hxk := ic_at hsubx hk'
    refine Dm C 5 hok I I I<|Dm C 6 hok I I I<|Dx C 7 hok I I I runUnderlying28 sizeOf3<|D2 C 8 hok I I isAgg3 hropx hxk<|Dm C 9 hok I I I<|Dm C 10 hok I I I<|Dx C 11 hok I I I runUnderlying28 sizeOf3<|D2 C 12 hok I I isAgg3 hro1 hxl0<|Di C 13 hok I I I I I b_lss<|Dp 14 hok (fun _ _ _ A h => R.pickT C I (A.w I I) (A.x I I) (A.x I I) h)<|D.done C hok (by kernel_rfl)<|X.cond C.1 I (fun hq => ?_) (fun hq => ?_)
    ·have hq := hq
     simp only [dT] at hq
     refine X.skip C.1<|X.block C.1<|X.region C I I<|Rm C I I<|Ra C I I I<|Ad C I I<|X.inBlock C.1<|X.weaken ?_ (hnext2 (k + 1) ⟨by omega, fun j h1 h2 => ?_⟩ (by omega))
     ·exact ⟨rfl, rfl, rfl, by simp [look], trivial⟩
     ·by_cases hjk : j < k
      ·exact hlo j h1 hjk
      ·obtain rfl : j = k := by omega
       exact hq
    ·have hq := hq
     simp only [dF] at hq
     refine X.exit C.1 I<|X.weaken ?_ (hcont k ⟨hk, hlo, fun _ => by omega⟩)
     exact ⟨rfl, rfl, rfl, rfl, trivial⟩
   ·have hg := hg
    simp only [dF] at hg
    refine Du C 5 hok I<|Du C 6 hok I<|Du C 7 hok I<|Du C 8 hok I<|Du C 9 hok I<|Du C 10 hok I<|Du C 11 hok I<|Du C 12 hok I<|Du C 13 hok I<|Dp 14 hok (fun _ _ _ A h => R.pickF C I (A.w I I) (A.x I I) (A.x I I) h)<|D.done C hok (by kernel_rfl)<|X.cond C.1 I (fun h => nomatch h) (fun _ => ?_)
    refine X.exit C.1 I<|X.weaken ?_ (hcont k ⟨hk, hlo, fun h => absurd h (by omega)⟩)
    exact ⟨rfl, rfl, rfl, rfl, trivial⟩
 ·have hlt := hlt
  simp only [dF] at hlt
  obtain rfl : i = l.length := by omega
  refine X.exit C.1 I<|Xr C I I<|Rm C I I<|Ad C I I<|Xt C func108<|Hr hret hle1 ?_
  rw [compact_sort hup (fun y => by rw [hmem, List.take_length])]
  exact hL10
end
end Go.Lg.B
namespace Go.Lg.B
open Go Go.Conc Go.Lg Go.Proofs Go.Proofs.Tryz
theorem compact_is (l : List Int) : (compactL (l.mergeSort fun x y => decide (x ≤ y))).Pairwise (· < ·) ∧ ∀ x, x ∈ compactL (l.mergeSort fun x y => decide (x ≤ y)) ↔ x ∈ l := by
 have hs : (l.mergeSort fun x y => decide (x ≤ y)).Pairwise (· ≤ ·) := by
  have := List.pairwise_mergeSort (le := fun x y : Int => decide (x ≤ y)) (by intro a b c; simp; omega) (by intro a b; simp; omega) l
  exact this.imp (by intro a b; simp)
 have hf := fold_asc _ [] .nil hs (by simp)
 refine ⟨hf.1, fun x => ?_⟩
 show x ∈ List.foldl cstep [] _ ↔ _
 rw [hf.2]
 simp [(List.mergeSort_perm l _).mem_iff]
theorem compact_mem {l m : List Int} (h : ∀ x, x ∈ l ↔ x ∈ m) : compactL (l.mergeSort fun x y => decide (x ≤ y)) = compactL (m.mergeSort fun x y => decide (x ≤ y)) :=
 compact_sort (compact_is m).1 fun x => ((compact_is m).2 x).trans (h x).symm
theorem casesL_o {b : Bk} (c : Cs) (hc : c ∈ casesL b) : c.o.length = b.cs.length := by
 obtain ⟨l, hl, h2⟩ := List.mem_flatMap.1 hc
 obtain ⟨s, _, h3⟩ := List.mem_flatMap.1 h2
 obtain ⟨o, ho, rfl⟩ := List.mem_map.1 h3
 have := offsAll_each b.cs b.cs.length (Nat.le_refl _)
 rw [List.take_length] at this
 exact this o (List.mem_filter.1 ho).1
theorem off_law {b : Bk} {k : Int} {l : List Cs} (hl : l = if knownH b (between k 0 (b.cs.length - 1)) = 0 then casesL b else []) : offOf b k = (compactL ((l.map fun c => c.o.getD k.toNat 0).mergeSort fun x y => decide (x ≤ y)), knownH b (between k 0 (b.cs.length - 1))) := by
 subst hl
 have ho : openH b (b.compass k) = knownH b (between k 0 (b.cs.length - 1)) := (known_open b _).symm
 rw [offOf, ho]
 by_cases h : knownH b (between k 0 (b.cs.length - 1)) = 0
 ·rw [if_pos h, if_neg (by simp [h]), h]
  refine Prod.ext ?_ I
  refine compact_mem fun x => ?_
  obtain ⟨hg, hth, _⟩ := known_good h
  simp only [between, Bool.and_eq_true, decide_eq_true_eq] at hth
  have hnc := hg.nc
  have hk : k = 0 ∨ k = 1 ∨ k = 2 := by omega
  have hoff : ∀ c : Cs, (Cs.aim c).off k = c.o.getD k.toNat 0 := fun c => by rcases hk with rfl | rfl | rfl <;> rfl
  simp only [List.mem_map]
  constructor
  ·rintro ⟨c, hc, rfl⟩
   obtain ⟨c', hc', rfl⟩ := List.mem_map.1 ((cases_perm hg).mem_iff.2 hc)
   exact ⟨c', hc', (hoff c').symm⟩
  ·rintro ⟨c, hc, rfl⟩
   exact ⟨lotOf b c, (cases_perm hg).mem_iff.1 (List.mem_map_of_mem hc), hoff c⟩
 ·rw [if_neg h, if_pos h, List.map_nil, List.mergeSort_nil]; rfl
section
variable {main : Bool} {J : Goroutine → Mem → Prop} (hJ : Closed prog main J)
include hJ
theorem offRR_c {b : Bk} {v : Value} {ro : RO} (hv : BkV ro v b) (hs : b.short) (k : Int) : CallR prog J (fnv 36) [v, .int .i64 k] ro (fun w ro' => ∃ vl, LsI ro' vl (offOf b k).1 ∧ w = .tuple [vl, .int .i64 (offOf b k).2].toArray) := by
 have hvv := hv
 obtain ⟨vc, vw, rfl, hc, hw⟩ := hv
 refine CallR.intro hJ (by kernel_rfl) fun c cs tail hret => enter_X (n := 38) func36 I I (Nl I) ?_
 have C : Ctx prog main J (bf 36 .normal) := ⟨hJ, by decide⟩
 refine Xr C I I<|R.box C I I I I fun p2 => R.asg C I I I<|Ad C I I<|Xs C<|Xd C fun hok => D5 C 0 hok I I isAgg25 sizeOf25 (by repeat constructor) Tk5<|D5 C 1 hok I I isAgg25 sizeOf25 (by repeat constructor) Tk5<|Dm C 2 hok I I I<|De 3 (some 14) [false, true] hok (fun _ _ A hk => ?_)
 refine R.callP C I (A.w I I) (A.x I I) (A.s I I) (isCompassR_c hJ hvv hs k) (hk _ _ ⟨(QFs.cons (QF.of I (fun _ _ A h => R.loadAgg C I (A.w I I) (A.x I I) isAgg25 sizeOf25 (by repeat constructor) Tk5 h)) QFs.nil), ?_⟩)
 refine De 4 (some 15) [false] hok (fun _ _ A hk => ?_)
 refine R.callR C I (A.w I I) (A.x I I) (A.s I I) ((knownR_c hJ hvv hs (between k 0 (b.cs.length - 1)))) fun v1 ro1 hl1 hp1 => hk _ _ ⟨QFs.nil, ?_⟩
 obtain ⟨vl, rfl, hk0, hk1⟩ := hp1
 obtain ⟨xs, hls, hxs, hel⟩ : ∃ xs : List CE, Ls ce 4 ro1 vl xs ∧ xs.map (·.2) = (if knownH b (between k 0 (b.cs.length - 1)) = 0 then casesL b else []) ∧ ∀ p ∈ xs, LsI ro1 p.1.1 p.2.o := by
  by_cases h : knownH b (between k 0 (b.cs.length - 1)) = 0
  ·obtain ⟨xs, h1, h2, h3⟩ := hk0 h; exact ⟨xs, h1, by rw [if_pos h]; exact h2, fun p hp => (h3 p hp).1⟩
  ·rw [hk1 h]; exact ⟨[], Ls.nil, by rw [if_neg h]; rfl, fun p hp => nomatch hp⟩
 have hlaw := off_law hxs
 rw [List.map_map] at hlaw
 have hgo : (∀ p ∈ xs, 0 ≤ k ∧ k.toNat < p.2.o.length) ∧ xs.length ≤ 100000 := by
  by_cases h : knownH b (between k 0 (b.cs.length - 1)) = 0
  ·rw [if_pos h] at hxs
   obtain ⟨hg, hth, _⟩ := known_good h
   simp only [between, Bool.and_eq_true, decide_eq_true_eq] at hth
   have hxl := congrArg List.length hxs
   rw [List.length_map] at hxl
   have hcl := casesL_len hg
   refine ⟨fun p hp => ?_, by omega⟩
   have := casesL_o p.2 (by rw [← hxs]; exact List.mem_map_of_mem hp)
   omega
  ·rw [if_neg h, List.map_eq_nil_iff] at hxs
   subst hxs
   exact ⟨fun p hp => (nomatch hp), Nat.zero_le _⟩
 generalize knownH b (between k 0 (b.cs.length - 1)) = H at *
 obtain ⟨hgo, hxn⟩ := hgo
 have hls0 := hls
 obtain ⟨lb, lc, rfl⟩ := hls.form
 refine Dm C 5 hok I I I<|Dp 6 hok (fun _ _ _ A h => R.ext C I (A.w I I) (A.x I I) I h)<|Dp 7 hok (fun _ _ _ A h => R.ext C I (A.w I I) (A.x I I) I h)<|Da C 8 hok I I<|Da C 9 hok I I<|D.done C hok (by kernel_rfl)<|Xr C I I<|Ad C I I<|Xs C<|Xr C I I<|Ad C I I<|X.block C.1<|X.loopI (ι := Nat × Value × List (Nat × Obj)) C.1 (fun s => s.1 ≤ xs.length ∧ Buf 3 1 [] s.2.1 (((xs.take s.1).map fun p => p.2.o.getD k.toNat 0).flatMap ic) s.2.2) (fun s => [(1, .int .i64 k), (6, .slice lb xs.length lc), (7, .int .i64 H), (8, s.2.1), (9, .int .i64 (s.1 : Int))])
  (fun s => ⟨ro1, s.2.2 ++ (p2, .cells [.int .i64 b.w, .int .i64 b.h, .int .i64 b.f, vc, vw].toArray 25 (0, 0)) :: tail⟩) (fun s => xs.length - s.1) (0, .slice none 0 0, []) ⟨Nat.zero_le _, .nil⟩ rfl ⟨rfl, rfl, rfl, rfl, rfl, trivial⟩ fun s hs' hnext => ?_
 obtain ⟨i, v2, own2⟩ := s
 obtain ⟨hi, hb2⟩ := hs'
 simp only at hi hb2 hnext ⊢
 refine Xs C<|Xr C I I<|Rm C I I<|Rm C I I<|Rn C I I runUnderlying122<|R.int C I I I I b_lss<|R.done C<|X.cond C.1 I (fun hlt => ?_) (fun hlt => ?_)
 ·have hlt := hlt
  simp only [dT] at hlt
  have hi' : i < xs.length := by omega
  obtain ⟨pp, off, cap, ll, t, fq, hsl, hrop, hsub⟩ := hls0.at ce_len (by omega)
  cases hsl
  have hq : ll[off + i * 4 + 2]? = some xs[i].1.1 := by simpa [ce] using (hsub i hi').get 2 (by decide)
  obtain ⟨hg1, hg2⟩ := hgo _ (List.getElem_mem hi')
  have hlo := hel _ (List.getElem_mem hi')
  have hcat : ((xs.take i).map fun p => p.2.o.getD k.toNat 0).flatMap ic ++ [Value.int .i64 (xs[i].2.o.getD k.toNat 0)] = ((xs.take (i + 1)).map fun p => p.2.o.getD k.toNat 0).flatMap ic := by
   rw [List.take_add_one, List.getElem?_eq_getElem hi', List.map_append, List.flatMap_append]; rfl
  have hfl : (((xs.take i).map fun p => p.2.o.getD k.toNat 0).flatMap ic).length = i := by rw [flat_len, List.length_map, List.length_take]; omega
  generalize xs[i] = q at *
  obtain ⟨po, offo, capo, llo, to, fqo, hslo, hropo, hsubo⟩ := hlo.at ic_len (by omega)
  have hk : llo[offo + k.toNat * 1]? = some (.int .i64 (q.2.o.getD k.toNat 0)) := by
   rw [ic_at hsubo hg2]; simp [hg2]
  rw [hslo] at hq
  refine X.skip C.1<|Xs C<|X.block C.1<|X.region C I I<|Rm C I I<|Rm C I I<|Rm C I I<|Rx C I I I runUnderlying122 sizeOf30<|R.fieldAddr C I I I runUnderlying30 I sizeOf28 I<|R.loadOneRo C I I I isAgg28 hrop hq<|Rm C I I<|Rx C I I I runUnderlying28 sizeOf3<|R.loadOneRo C I I I isAgg3 hropo hk<|R.buildSlice C (vs := _) I I (show pvals _ _ = some (numbered 0 [_]) from rfl) I runUnderlying28 sizeOf3 zeroValue3 (by decide) (Cat.one I I) fun p33 => R.append1 (kk := 1) C I I I I runUnderlying28 runUnderlying28 (fun _ => nofun) (show prog.info? 3 = some Tryz.t3 by kernel_rfl) I I I (by decide) (by decide) (hb2.app _) I I (by simp only [List.length_append, List.length_cons, List.length_nil]; omega) fun v' own' hb' => Ad C I I<|X.inBlock C.1<|X.region C I I<|Rm C I I<|Ra C I I I<|Ad C I I ?_
  obtain ⟨own5, rfl, hb5⟩ := Buf.unapp (tail := []) hb'
  rw [hcat] at hb5
  refine X.weaken ?_ (hnext (i + 1, _, own5) ⟨hi', hb5⟩ (by omega))
  exact ⟨rfl, rfl, rfl, rfl, by simp [look], trivial⟩
 ·have hlt := hlt
  simp only [dF] at hlt
  obtain rfl : i = xs.length := by omega
  rw [List.take_length] at hb2
  refine X.exit C.1 I<|Xr C I I<|Rm C I I<|R.finish C.1 ic_len (by decide) (hb2.app _) fun ro4 hl4 hls4 => R.callR C I I I I ((sortedR_c hJ hls4 (by rw [List.length_map]; omega))) fun v5 ro5 hl5 hp5 => Rm C I I<|R.asg C I I I<|Ad C I I<|X.ret C I I func36 I (by exact (.tmp I (.tmp I .nil)))<|Hr hret (RO.le_trans hl1 (RO.le_trans hl4 hl5)) ?_
  rw [hlaw]
  exact ⟨_, hp5, rfl⟩
end
end Go.Lg.B
namespace Go.Lg.B
open Go Go.Conc Go.Lg Go.Proofs Go.Proofs.Tryz
noncomputable def b32 : Code := Tryz.f32.body.getD .skip
noncomputable def k32 : Code := cR (cR (cR (cR b32)))
def boxAt (s : Sq) : Rc × Rc := (⟨s.e, s.e⟩, ⟨s.n, s.n⟩)
def boxR (l : List Sq) : Rc × Rc := (l.drop 1).foldl widen (boxAt (l.headD default))
theorem boxR_take (l : List Sq) {i : Nat} (h0 : 0 < i) (h : i < l.length) : boxR (l.take (i + 1)) = widen (boxR (l.take i)) l[i] := by
 cases l with
 | nil => simp at h
 | cons s l =>
  obtain ⟨j, rfl⟩ : ∃ j, i = j + 1 := ⟨i - 1, by omega⟩
  simp only [List.length_cons] at h
  simp only [boxR, List.take_succ_cons, List.drop_succ_cons, List.drop_zero, List.headD_cons, List.getElem_cons_succ]
  rw [List.take_add_one, List.getElem?_eq_getElem (by omega), List.foldl_append]
  rfl
theorem box_law (b : Bk) : box b = if knownH b true ≠ 0 then (⟨0, 0⟩, ⟨0, 0⟩) else boxR (wheresR b) := by
 rw [box, known_open0, where_law]
 by_cases h0 : openH b 0 ≠ 0
 ·rw [if_pos h0, if_pos h0]
 ·rw [if_neg h0, if_neg h0]
  cases wheresR b with
  | nil => rfl
  | cons s l =>
   simp only [boxFrom, boxR, List.headD_cons, List.foldl_cons, List.drop_succ_cons, List.drop_zero, boxAt]
   congr 1
   simp [widen]
theorem wheresR_pos {b : Bk} (h : knownH b true = 0) : 0 < (wheresR b).length := by
 rw [← where_law]
 exact wheres_pos (by rw [← known_open0]; exact h)
theorem wheresR_len {b : Bk} (h : knownH b true = 0) : (wheresR b).length ≤ 49 := by
 rw [wheresR, if_neg (by simp [h])]
 exact Nat.le_trans (List.length_filter_le _ _) (squares_len (known_good h).1)
section
variable {main : Bool} {J : Goroutine → Mem → Prop} (hJ : Closed prog main J)
include hJ
theorem boxRest {l : List Sq} {lb : Option Addr} {lc p1 p2 p3 p7 p8 : Nat} {o1 : Obj} {ro : RO} {c : Frame} {cs : List Frame} {tail : List (Nat × Obj)} (hl : LsS ro (.slice lb l.length lc) l) (hn : l.length ≤ 1000) (hp : 0 < l.length)
  (hret : ∀ own, tail.Sublist own → J (G (c.finish (.tuple [.agg (boxR l).1.cells.toArray, .agg (boxR l).2.cells.toArray, .int .i64 0].toArray)) cs) ⟨ro, own⟩) :
  X J (bf 32 .normal) (c :: cs) 80 [.code k32] [] [(2, .pointer (some ⟨p2, 0, none⟩)), (3, .pointer (some ⟨p3, 0, none⟩)), (5, .slice lb l.length lc), (7, .pointer (some ⟨p7, 0, none⟩)), (8, .pointer (some ⟨p8, 0, none⟩))]
   ⟨ro, (p7, .cells (boxAt (l.headD default)).1.cells.toArray 46 (0, 0)) :: (p8, .cells (boxAt (l.headD default)).2.cells.toArray 46 (0, 0)) :: (p3, .cells [.int .i64 0, .int .i64 0].toArray 46 (0, 0)) :: (p2, .cells [.int .i64 0, .int .i64 0].toArray 46 (0, 0)) :: (p1, o1) :: tail⟩ := by
 have C : Ctx prog main J (bf 32 .normal) := ⟨hJ, by decide⟩
 have hl0 := hl
 refine Xs C<|Xr C I I<|Ad C I I<|X.block C.1<|X.loopI (ι := Nat) C.1 (fun i => 0 < i ∧ i ≤ l.length) (fun i => [(2, .pointer (some ⟨p2, 0, none⟩)), (3, .pointer (some ⟨p3, 0, none⟩)), (5, .slice lb l.length lc), (7, .pointer (some ⟨p7, 0, none⟩)), (8, .pointer (some ⟨p8, 0, none⟩)), (9, .int .i64 (i : Int))])
  (fun i => ⟨ro, (p7, .cells (boxR (l.take i)).1.cells.toArray 46 (0, 0)) :: (p8, .cells (boxR (l.take i)).2.cells.toArray 46 (0, 0)) :: (p3, .cells [.int .i64 0, .int .i64 0].toArray 46 (0, 0)) :: (p2, .cells [.int .i64 0, .int .i64 0].toArray 46 (0, 0)) :: (p1, o1) :: tail⟩) (fun i => l.length - i) 1 ⟨by decide, by omega⟩ (by
   cases l with
   | nil => simp at hp
   | cons s l => rfl) ⟨rfl, rfl, rfl, rfl, rfl, rfl, trivial⟩ fun i hi hnext => ?_
 obtain ⟨h0, hi⟩ := hi
 refine Xs C<|Xr C I I<|Rm C I I<|Rm C I I<|Rn C I I runUnderlying41<|R.int C I I I I b_lss<|R.done C<|X.cond C.1 I (fun hlt => ?_) (fun hlt => ?_)
 ·have hlt := hlt
  simp only [dT] at hlt
  have hi' : i < l.length := by omega
  have hstep := boxR_take l h0 hi'
  obtain ⟨ps, offs', caps, lls, ts, fqs, hsls, hrops, hsubs⟩ := hl0.at Sq.len (by omega)
  cases hsls
  have he : lls[offs' + i * 2 + 0]? = some (.int .i64 (l[i]).e) := by simpa [Sq.cells] using (hsubs i hi').get 0 (by decide)
  have hn' : lls[offs' + i * 2 + 1]? = some (.int .i64 (l[i]).n) := by simpa [Sq.cells] using (hsubs i hi').get 1 (by decide)
  generalize l[i] = q at he hn' hstep
  generalize boxR (l.take i) = bx at hstep
  refine X.skip C.1<|Xs C<|X.block C.1<|Xs C<|Xd C fun hok => Df (off' := 0) C 0 hok I I I runUnderlying46 I sizeOf3 I<|D1 C 1 hok I I isAgg3 (by repeat constructor) I<|Dm C 2 hok I I I<|Dm C 3 hok I I I<|Dx C 4 hok I I I runUnderlying41 sizeOf27<|Df C 5 hok I I I runUnderlying27 I sizeOf3 I<|D2 C 6 hok I I isAgg3 hrops he<|Dp 7 hok (fun _ _ _ A h => R.min2 C I (A.w I I) (A.x I I) (A.x I I) h)<|Df (off' := 1) C 8 hok I I I runUnderlying46 I sizeOf3 I<|D1 C 9 hok I I isAgg3 (by repeat constructor) I<|Dm C 10 hok I I I<|Dm C 11 hok I I I<|Dx C 12 hok I I I runUnderlying41 sizeOf27<|Df C 13 hok I I I runUnderlying27 I sizeOf3 I<|D2 C 14 hok I I isAgg3 hrops he<|Dp 15 hok (fun _ _ _ A h => R.max2 C I (A.w I I) (A.x I I) (A.x I I) h)<|Dp 16 hok (fun _ _ _ A h => R.build C I (A.w I I) (A.p I I) zeroValue46 I runUnderlying46 (by kernel_rfl) (Fills.part I I sizeOf3 I (.here .nil) (Fills.part I I sizeOf3 I (.skip (.here .nil)) .nil)) h)<|De 17 none [false, false, false, false] hok (fun _ _ A hk => ?_)
  refine R.store C I (A.w I I) (A.x I I) (A.x I I) sizeOf46 I I I (by repeat (first | exact Uh | apply Ut)) (.here (.here .nil)) (hk undef _ ⟨QFs.nil, ?_⟩)
  refine D.done C hok (by kernel_rfl)<|Xd C fun hok => Df (off' := 0) C 0 hok I I I runUnderlying46 I sizeOf3 I<|D1 C 1 hok I I isAgg3 (by repeat constructor) I<|Dm C 2 hok I I I<|Dm C 3 hok I I I<|Dx C 4 hok I I I runUnderlying41 sizeOf27<|Df C 5 hok I I I runUnderlying27 I sizeOf3 I<|Dl 6 hok (fun _ _ A h => R.loadOneRo C I (A.w I I) (A.x I I) isAgg3 hrops hn' h)<|Dp 7 hok (fun _ _ _ A h => R.min2 C I (A.w I I) (A.x I I) (A.x I I) h)<|Df (off' := 1) C 8 hok I I I runUnderlying46 I sizeOf3 I<|D1 C 9 hok I I isAgg3 (by repeat constructor) I<|Dm C 10 hok I I I<|Dm C 11 hok I I I<|Dx C 12 hok I I I runUnderlying41 sizeOf27<|Df C 13 hok I I I runUnderlying27 I sizeOf3 I<|Dl 14 hok (fun _ _ A h => R.loadOneRo C I (A.w I I) (A.x I I) isAgg3 hrops hn' h)<|Dp 15 hok (fun _ _ _ A h => R.max2 C I (A.w I I) (A.x I I) (A.x I I) h)<|Dp 16 hok (fun _ _ _ A h => R.build C I (A.w I I) (A.p I I) zeroValue46 I runUnderlying46 (by kernel_rfl) (Fills.part I I sizeOf3 I (.here .nil) (Fills.part I I sizeOf3 I (.skip (.here .nil)) .nil)) h)<|De 17 none [false, false, false, false] hok (fun _ _ A hk => ?_)
  refine R.store C I (A.w I I) (A.x I I) (A.x I I) sizeOf46 I I I (by repeat (first | exact Uh | apply Ut)) (.here (.here .nil)) (hk undef _ ⟨QFs.nil, ?_⟩)
  refine D.done C hok (by kernel_rfl)<|X.inBlock C.1<|X.region C I I<|Rm C I I<|Ra C I I I<|Ad C I I ?_
  have hn3 := hnext (i + 1) ⟨by omega, hi'⟩ (by omega)
  simp only [hstep] at hn3
  refine X.weaken ?_ hn3
  exact ⟨rfl, rfl, rfl, rfl, rfl, by simp [look], trivial⟩
 ·have hlt := hlt
  simp only [dF] at hlt
  obtain rfl : i = l.length := by omega
  rw [List.take_length]
  refine X.exit C.1 I<|Xs C<|Xd C fun hok => D5 C 0 hok I I isAgg46 sizeOf46 (by repeat constructor) Tk2<|D5 C 1 hok I I isAgg46 sizeOf46 (by repeat constructor) Tk2<|De 2 none [true, false] hok (fun _ _ A hk => ?_)
  refine R.store C I (A.w I I) (A.x I I) (A.x I I) sizeOf46 I I I (by repeat (first | exact Uh | apply Ut)) (.here (.here .nil)) (hk undef _ ⟨(QFs.cons (QF.of I (fun _ _ A h => R.loadAgg C I (A.w I I) (A.x I I) isAgg46 sizeOf46 (by repeat constructor) Tk2 h)) QFs.nil), ?_⟩)
  refine De 3 none [false] hok (fun _ _ A hk => ?_)
  refine R.store C I (A.w I I) (A.x I I) (A.x I I) sizeOf46 I I I (by repeat (first | exact Uh | apply Ut)) (.here (.here .nil)) (hk undef _ ⟨QFs.nil, ?_⟩)
  refine Da C 4 hok I I<|D.done C hok (by kernel_rfl)<|X.ret C I I func32 I (by exact .agg I isAgg46 sizeOf46 (by repeat constructor) Tk2 (.agg I isAgg46 sizeOf46 (by repeat constructor) Tk2 (.tmp I .nil))) ?_
  exact hret _ (by repeat (first | exact Sr | apply Sc))
theorem boxRR_c {b : Bk} {v : Value} {ro : RO} (hv : BkV ro v b) (hs : b.short) : CallR prog J (fnv 32) [v] ro (fun w _ => w = .tuple [.agg (box b).1.cells.toArray, .agg (box b).2.cells.toArray, .int .i64 (knownH b true)].toArray) := by
 have hvv := hv
 obtain ⟨vc, vw, rfl, hc, hw⟩ := hv
 refine CallR.intro hJ (by kernel_rfl) fun c cs tail hret => enter_X (n := 80) func32 I I (Nl I) ?_
 have C : Ctx prog main J (bf 32 .normal) := ⟨hJ, by decide⟩
 refine Xr C I I<|R.box C I I I I fun p1 => R.alloc C I I zeroValue46 I fun p2 => R.alloc C I I zeroValue46 I fun p3 => Ad C I I<|Xr C I I<|R5 C I I isAgg25 sizeOf25 (by repeat constructor) Tk5<|R.callR C I I I I ((whereR_c hJ hvv hs)) fun v1 ro1 hl1 hp1 => ?_
 obtain ⟨vs, hLs, rfl⟩ := hp1
 refine Rm C I I<|R.ext C I I I I<|R.ext C I I I I<|R.asg C I I I<|Ad C I I<|Xs C<|Xr C I I<|Rm C I I<|R.int C I I I I b_neq<|R.done C<|X.cond C.1 I (fun hh => ?_) (fun hh => ?_)
 ·have hh := hh
  simp at hh
  refine Xr C I I<|R.build C I I I zeroValue46 I runUnderlying46 (by kernel_rfl) .nil<|R.build C I I I zeroValue46 I runUnderlying46 (by kernel_rfl) .nil<|Rm C I I<|R.store C I I I I sizeOf46 I I I (by repeat (first | exact Uh | apply Ut)) (.here (.here .nil))<|R.store C I I I I sizeOf46 I I I (by repeat (first | exact Uh | apply Ut)) (.here (.here .nil))<|Ad C I I<|X.ret C I I func32 I (by exact (.agg I isAgg46 sizeOf46 (by repeat constructor) Tk2 (.agg I isAgg46 sizeOf46 (by repeat constructor) Tk2 (.tmp I .nil))))<|Hr hret hl1 ?_
  rw [box_law, if_pos hh]; rfl
 ·have hh := hh
  simp at hh
  have hpos := wheresR_pos hh
  have hlen := wheresR_len hh
  have hbx : box b = boxR (wheresR b) := by rw [box_law, if_neg (by simp [hh])]
  rw [hh, hbx] at hret
  generalize wheresR b = l at hLs hpos hlen hret
  have hLs0 := hLs
  obtain ⟨lb, lc, rfl⟩ := hLs.form
  have hLs1 := hLs0
  obtain ⟨ps, offs', caps, lls, ts, fqs, hsls, hrops, hsubs⟩ := hLs0.at Sq.len hpos
  cases hsls
  have hhd : l[0] = l.headD default := by
   cases l with
   | nil => simp at hpos
   | cons s l => rfl
  have he0 : lls[offs' + (0 : Int).toNat * 2 + 0]? = some (.int .i64 (l.headD default).e) := by rw [← hhd]; simpa [Sq.cells] using (hsubs 0 hpos).get 0 (by decide)
  have hn0 : lls[offs' + (0 : Int).toNat * 2 + 1]? = some (.int .i64 (l.headD default).n) := by rw [← hhd]; simpa [Sq.cells] using (hsubs 0 hpos).get 1 (by decide)
  refine X.skip C.1<|Xs C<|Xd C fun hok => Dm C 0 hok I I I<|Dx C 1 hok I I I runUnderlying41 sizeOf27<|Df C 2 hok I I I runUnderlying27 I sizeOf3 I<|D2 C 3 hok I I isAgg3 hrops he0<|Dm C 4 hok I I I<|Dx C 5 hok I I I runUnderlying41 sizeOf27<|Df C 6 hok I I I runUnderlying27 I sizeOf3 I<|D2 C 7 hok I I isAgg3 hrops he0<|Dp 8 hok (fun _ _ _ A h => R.build C I (A.w I I) (A.p I I) zeroValue46 I runUnderlying46 (by kernel_rfl) (Fills.part I I sizeOf3 I (.here .nil) (Fills.part I I sizeOf3 I (.skip (.here .nil)) .nil)) h)<|Dm C 9 hok I I I<|Dx C 10 hok I I I runUnderlying41 sizeOf27<|Df C 11 hok I I I runUnderlying27 I sizeOf3 I<|D2 C 12 hok I I isAgg3 hrops hn0<|Dm C 13 hok I I I<|Dx C 14 hok I I I runUnderlying41 sizeOf27<|Df C 15 hok I I I runUnderlying27 I sizeOf3 I<|D2 C 16 hok I I isAgg3 hrops hn0<|Dp 17 hok (fun _ _ _ A h => R.build C I (A.w I I) (A.p I I) zeroValue46 I runUnderlying46 (by kernel_rfl) (Fills.part I I sizeOf3 I (.here .nil) (Fills.part I I sizeOf3 I (.skip (.here .nil)) .nil)) h)<|D.eP2 (i := 18) (i' := 19) (dst := (some 7)) (dst' := (some 8)) [true, true, true, true] [true, true, true, true] hok I I (by kernel_rfl) (by kernel_rfl) (by kernel_rfl) (fun _ _ A hk => ?_) (fun _ _ A hk => ?_)
  ·
   refine R.alloc C I (A.w I I) zeroValue46 I fun p7 => hk _ _ ⟨(QFs.cons (QF.of I (fun _ _ A h => R.loadOneRo C I (A.w I I) (A.x I I) isAgg3 hrops hn0 h)) (QFs.cons (QF.of I (fun _ _ A h => R.loadOneRo C I (A.w I I) (A.x I I) isAgg3 hrops hn0 h)) (QFs.cons (QF.of I (fun _ _ A h => R.loadOneRo C I (A.w I I) (A.x I I) isAgg3 hrops he0 h)) (QFs.cons (QF.of I (fun _ _ A h => R.loadOneRo C I (A.w I I) (A.x I I) isAgg3 hrops he0 h)) QFs.nil)))), ?_⟩
   refine De 19 (some 8) [true, true, true, true] hok (fun _ _ A hk => ?_)
   refine R.alloc C I (A.w I I) zeroValue46 I fun p8 => hk _ _ ⟨(QFs.cons (QF.of I (fun _ _ A h => R.loadOneRo C I (A.w I I) (A.x I I) isAgg3 hrops hn0 h)) (QFs.cons (QF.of I (fun _ _ A h => R.loadOneRo C I (A.w I I) (A.x I I) isAgg3 hrops hn0 h)) (QFs.cons (QF.of I (fun _ _ A h => R.loadOneRo C I (A.w I I) (A.x I I) isAgg3 hrops he0 h)) (QFs.cons (QF.of I (fun _ _ A h => R.loadOneRo C I (A.w I I) (A.x I I) isAgg3 hrops he0 h)) QFs.nil)))), ?_⟩
   refine De 20 none [true, true, false, false] hok (fun _ _ A hk => ?_)
   refine R.store C I (A.w I I) (A.x I I) (A.x I I) sizeOf46 I I I (by repeat (first | exact Uh | apply Ut)) (.here (.here .nil)) (hk undef _ ⟨(QFs.cons (QF.of I (fun _ _ A h => R.loadOneRo C I (A.w I I) (A.x I I) isAgg3 hrops hn0 h)) (QFs.cons (QF.of I (fun _ _ A h => R.loadOneRo C I (A.w I I) (A.x I I) isAgg3 hrops hn0 h)) QFs.nil)), ?_⟩)
   refine De 21 none [false, false] hok (fun _ _ A hk => ?_)
   refine R.store C I (A.w I I) (A.x I I) (A.x I I) sizeOf46 I I I (by repeat (first | exact Uh | apply Ut)) (.here (.here .nil)) (hk undef _ ⟨QFs.nil, ?_⟩)
   refine D.done C hok (by kernel_rfl)<|X.perm C.1 (List.Perm.swap _ _ _) (X.weaken ?_ (boxRest hJ hLs1 (by omega) hpos fun own hsub => hret _ _ _ hl1 hsub I))
   exact ⟨rfl, rfl, rfl, rfl, rfl, trivial⟩
  ·
   refine R.alloc C I (A.w I I) zeroValue46 I fun p8 => hk _ _ ⟨(QFs.cons (QF.of I (fun _ _ A h => R.loadOneRo C I (A.w I I) (A.x I I) isAgg3 hrops hn0 h)) (QFs.cons (QF.of I (fun _ _ A h => R.loadOneRo C I (A.w I I) (A.x I I) isAgg3 hrops hn0 h)) (QFs.cons (QF.of I (fun _ _ A h => R.loadOneRo C I (A.w I I) (A.x I I) isAgg3 hrops he0 h)) (QFs.cons (QF.of I (fun _ _ A h => R.loadOneRo C I (A.w I I) (A.x I I) isAgg3 hrops he0 h)) QFs.nil)))), ?_⟩
   refine De 18 (some 7) [true, true, true, true] hok (fun _ _ A hk => ?_)
   refine R.alloc C I (A.w I I) zeroValue46 I fun p7 => hk _ _ ⟨(QFs.cons (QF.of I (fun _ _ A h => R.loadOneRo C I (A.w I I) (A.x I I) isAgg3 hrops hn0 h)) (QFs.cons (QF.of I (fun _ _ A h => R.loadOneRo C I (A.w I I) (A.x I I) isAgg3 hrops hn0 h)) (QFs.cons (QF.of I (fun _ _ A h => R.loadOneRo C I (A.w I I) (A.x I I) isAgg3 hrops he0 h)) (QFs.cons (QF.of I (fun _ _ A h => R.loadOneRo C I (A.w I I) (A.x I I) isAgg3 hrops he0 h)) QFs.nil)))), ?_⟩
   refine De 20 none [true, true, false, false] hok (fun _ _ A hk => ?_)
   refine R.store C I (A.w I I) (A.x I I) (A.x I I) sizeOf46 I I I (by repeat (first | exact Uh | apply Ut)) (.here (.here .nil)) (hk undef _ ⟨(QFs.cons (QF.of I (fun _ _ A h => R.loadOneRo C I (A.w I I) (A.x I I) isAgg3 hrops hn0 h)) (QFs.cons (QF.of I (fun _ _ A h => R.loadOneRo C I (A.w I I) (A.x I I) isAgg3 hrops hn0 h)) QFs.nil)), ?_⟩)
   refine De 21 none [false, false] hok (fun _ _ A hk => ?_)
   refine R.store C I (A.w I I) (A.x I I) (A.x I I) sizeOf46 I I I (by repeat (first | exact Uh | apply Ut)) (.here (.here .nil)) (hk undef _ ⟨QFs.nil, ?_⟩)
   refine D.done C hok (by kernel_rfl)<|X.weaken ?_ (boxRest hJ hLs1 (by omega) hpos fun own hsub => hret _ _ _ hl1 hsub I)
   exact ⟨rfl, rfl, rfl, rfl, rfl, trivial⟩
end
end Go.Lg.B
namespace Go.Lg.B
open Go Go.Conc Go.Lg Go.Proofs Go.Proofs.Tryz
theorem wheresR_small (b : Bk) : (wheresR b).length ≤ 1000000 := by
 by_cases h : knownH b true = 0
 ·have := wheresR_len h; omega
 ·rw [wheresR, if_pos h]; exact Nat.zero_le _
theorem offOf_small (b : Bk) (k : Int) : (offOf b k).1.length ≤ 1000000 := by
 rw [offOf]
 by_cases h : openH b (b.compass k) = 0
 ·rw [if_neg (by simp [h])]
  have hg := (openH_good h).1
  have h1 := compact_len (((cases b).map fun c => c.a.off k).mergeSort fun x y => decide (x ≤ y)) (((cases b).map fun c => c.a.off k).mergeSort fun x y => decide (x ≤ y)).length
  rw [List.take_length, List.length_mergeSort, List.length_map] at h1
  have h2 := cases_le hg
  simp only; omega
 ·rw [if_pos h]; exact Nat.zero_le _
theorem cases_root {b : Bk} {vb : Value} (s : Sq) (i k : Int) {ro : RO} (he : Env ro) (hv : BkV ro vb b) : Root prog 4 [vb, s.val, .int .i64 i, .int .i64 k] ro (fun w _ => w = .bool true) := by
 intro Post hret
 have hJ : Closed prog true (JM prog (Go.Conc.Good prog Post)) := JM.closed
 have hvv := hv
 obtain ⟨vc, vw, rfl, hc, hw⟩ := hv
 obtain ⟨cb, cc, rfl⟩ := hc.form
 obtain ⟨wb, wc, rfl⟩ := hw.form
 let main := true
 let J := JM prog (Go.Conc.Good prog Post)
 refine enter_X (n := 159) func4 I I (Nl I) ?_
 have C : Ctx prog main J (bf 4 .normal) := ⟨hJ, by decide⟩
 refine Xr C I I<|R.box C I I I I fun p4 => R.box C I I I I fun p5 => Ad C I I<|Xs C<|Xr C I I<|R5 C I I isAgg25 sizeOf25 (by repeat constructor) Tk5<|R.callP C I I I I (greatR_c hJ (by assumption))<|R.done C<|X.cond C.1 I (fun hfit => ?_) (fun hfit => ?_)
 ·have hfit := hfit
  refine Xr C I I<|R.callR C I I I I ((found_c _ he)) fun v9 ro9 hl9 hq9 => Ad C I I<|X.ret0 C (by kernel_rfl) I I func4 I (by exact (.tmp I .nil)) fun w9 hs9 => hret _ _ _ hl9 ?_ w9 hs9
  exact hq9
 ·have hfit := hfit
  simp at hfit
  have hsh : b.short := ⟨by omega, by omega⟩
  have hlen : (if checkChart b ≠ 0 then 0 else ((casesL b).length : Int)) = (if checkChart b ≠ 0 then 0 else ((cases b).length : Int)) := by
   by_cases h : checkChart b = 0
   ·rw [if_neg (by simp [h]), if_neg (by simp [h]), cases_len_eq (good_iff.1 h)]
   ·rw [if_pos h, if_pos h]
  have hwl := wheresR_small b
  have hol := offOf_small b i
  have hko := known_open0 b
  have hat := at_law (b := b) s
  have hfa := false_law (b := b) k
  refine X.skip C.1<|Xr C I I<|R5 C I I isAgg25 sizeOf25 (by repeat constructor) Tk5<|R.callR C I I I I ((cases_c hJ he hvv hsh)) fun w1 ro1 hl1 hp1 => ?_
  subst hp1
  have hL := hl1
  refine Rm C I I<|R.ext C I I I I<|R.ext C I I I I<|R.asg C I I I<|Ad C I I<|Xr C I I<|R5 C I I isAgg25 sizeOf25 (by repeat constructor) Tk5<|R.callR C I I I I ((casesR_c hJ (hvv.mono hL) hsh)) fun w2 ro2 hl2 hp2 => ?_
  subst hp2
  rw [hlen]
  replace hL := RO.le_trans hL hl2
  refine Rm C I I<|R.ext C I I I I<|R.ext C I I I I<|R.asg C I I I<|Ad C I I<|Xr C I I<|R5 C I I isAgg25 sizeOf25 (by repeat constructor) Tk5<|R.callR C I I I I ((where_c hJ (he.mono hL) (hvv.mono hL) hsh)) fun w3 ro3 hl3 hp3 => ?_
  rw [where_law] at hp3
  obtain ⟨vs3, hs3, rfl⟩ := hp3
  replace hL := RO.le_trans hL hl3
  refine Rm C I I<|R.ext C I I I I<|R.ext C I I I I<|R.asg C I I I<|Ad C I I<|Xr C I I<|R5 C I I isAgg25 sizeOf25 (by repeat constructor) Tk5<|R.callR C I I I I ((whereR_c hJ (hvv.mono hL) hsh)) fun w4 ro4 hl4 hp4 => ?_
  rw [hko] at hp4
  obtain ⟨vs4, hs4, rfl⟩ := hp4
  replace hL := RO.le_trans hL hl4
  have hs3 := hs3.mono hl4
  generalize (if checkChart b ≠ 0 then 0 else ((cases b).length : Int)) = N
  refine Rm C I I<|R.ext C I I I I<|R.ext C I I I I<|R.asg C I I I<|Ad C I I<|Xs C<|Xr C I I<|Rm C I I<|Rm C I I<|R.int C I I I I b_neq<|R.fixv (t := 50) (v' := .bool false) I (by (exact congrArg Value.bool (by simp)))<|Rm C I I<|R.fixv (t := 51) (v' := .bool false) I (by rfl)<|Rm C I I<|Rm C I I<|R.callP C I I I I ((sameSquares_c hJ hs3 hs4 hwl hwl))<|R.fixv (t := 54) (v' := .bool true) I (by (exact congrArg Value.bool (by simp)))<|R.not C I I I<|R.fixv (t := 55) (v' := .bool false) I I<|R.pickF C I I I I<|Rm C I I<|R.fixv (t := 57) (v' := .bool false) I (by rfl)<|Rm C I I<|Rm C I I<|R.int C I I I I b_neq<|R.fixv (t := 60) (v' := .bool false) I (by (exact congrArg Value.bool (by simp)))<|R.pickF C I I I I<|Rm C I I<|R.fixv (t := 62) (v' := .bool false) I (by rfl)<|Rm C I I<|Rm C I I<|R.int C I I I I b_neq<|R.fixv (t := 65) (v' := .bool false) I (by (exact congrArg Value.bool (by simp)))<|R.pickF C I I I I<|R.fixv (t := 66) (v' := .bool false) I (by rfl)<|R.done C<|X.cond C.1 I (fun h => nomatch h) (fun _ => ?_)
  refine X.skip C.1<|Xr C I I<|R5 C I I isAgg25 sizeOf25 (by repeat constructor) Tk5<|R.callR C I I I I ((box_c hJ (he.mono hL) (hvv.mono hL) hsh)) fun w5 ro5 hl5 hp5 => ?_
  subst hp5
  replace hL := RO.le_trans hL hl5
  refine Rm C I I<|R.ext C I I I I<|R.ext C I I I I<|R.ext C I I I I<|R.alloc C I I zeroValue46 I fun p17 => R.alloc C I I zeroValue46 I fun p18 => R.store C I I I I sizeOf46 I I I (by repeat (first | exact Uh | apply Ut)) (.here (.here .nil))<|R.store C I I I I sizeOf46 I I I (by repeat (first | exact Uh | apply Ut)) (.here (.here .nil))<|Ad C I I<|Xr C I I<|R5 C I I isAgg25 sizeOf25 (by repeat constructor) Tk5<|R.callR C I I I I ((boxRR_c hJ (hvv.mono hL) hsh)) fun w6 ro6 hl6 hp6 => ?_
  rw [hko] at hp6
  subst hp6
  replace hL := RO.le_trans hL hl6
  generalize (box b).1 = x at *
  generalize (box b).2 = y at *
  refine Rm C I I<|R.ext C I I I I<|R.ext C I I I I<|R.ext C I I I I<|R.alloc C I I zeroValue46 I fun p19 => R.alloc C I I zeroValue46 I fun p20 => R.store C I I I I sizeOf46 I I I (by repeat (first | exact Uh | apply Ut)) (.here (.here .nil))<|R.store C I I I I sizeOf46 I I I (by repeat (first | exact Uh | apply Ut)) (.here (.here .nil))<|Ad C I I<|Xr C I I<|R5 C I I isAgg25 sizeOf25 (by repeat constructor) Tk5<|R5 C I I isAgg27 sizeOf27 (by repeat constructor) Tk2<|R.callR C I I I I ((at_c hJ (he.mono hL) (hvv.mono hL) hsh s)) fun w7 ro7 hl7 hp7 => ?_
  subst hp7
  replace hL := RO.le_trans hL hl7
  refine Rm C I I<|R.ext C I I I I<|R.ext C I I I I<|R.asg C I I I<|Ad C I I<|Xr C I I<|R5 C I I isAgg25 sizeOf25 (by repeat constructor) Tk5<|R5 C I I isAgg27 sizeOf27 (by repeat constructor) Tk2<|R.callR C I I I I ((atR_c hJ (hvv.mono hL) hsh s)) fun w8 ro8 hl8 hp8 => ?_
  rw [← hat] at hp8
  subst hp8
  replace hL := RO.le_trans hL hl8
  generalize told b (b.square s) (fun c => decide (c.a.s = s)) = u at *
  refine Rm C I I<|R.ext C I I I I<|R.ext C I I I I<|R.asg C I I I<|Ad C I I<|Xs C<|Xr C I I<|R5 C I I isAgg46 sizeOf46 (by repeat constructor) Tk2<|R5 C I I isAgg46 sizeOf46 (by repeat constructor) Tk2<|R.neAgg (p := [x.lo, x.hi]) (q := [x.lo, x.hi]) C I I I I eqT46 I I (by kernel_rfl)<|R.fixv (t := 93) (v' := .bool false) I (by (exact congrArg Value.bool (by simp)))<|Rm C I I<|R.fixv (t := 94) (v' := .bool false) I (by rfl)<|R5 C I I isAgg46 sizeOf46 (by repeat constructor) Tk2<|R5 C I I isAgg46 sizeOf46 (by repeat constructor) Tk2<|R.neAgg (p := [y.lo, y.hi]) (q := [y.lo, y.hi]) C I I I I eqT46 I I (by kernel_rfl)<|R.fixv (t := 97) (v' := .bool false) I (by (exact congrArg Value.bool (by simp)))<|R.pickF C I I I I<|Rm C I I<|R.fixv (t := 99) (v' := .bool false) I (by rfl)<|Rm C I I<|Rm C I I<|R.int C I I I I b_neq<|R.fixv (t := 102) (v' := .bool false) I (by (exact congrArg Value.bool (by simp)))<|R.pickF C I I I I<|Rm C I I<|R.fixv (t := 104) (v' := .bool false) I (by rfl)<|Rm C I I<|Rm C I I<|R.int C I I I I b_neq<|R.fixv (t := 107) (v' := .bool false) I (by (exact congrArg Value.bool (by simp)))<|R.pickF C I I I I<|Rm C I I<|R.fixv (t := 109) (v' := .bool false) I (by rfl)<|Rm C I I<|Rm C I I<|R.int C I I I I b_neq<|R.fixv (t := 112) (v' := .bool false) I (by (exact congrArg Value.bool (by simp)))<|R.pickF C I I I I<|R.fixv (t := 113) (v' := .bool false) I (by rfl) ?_; refine R.done C<|X.cond C.1 I (fun h => nomatch h) (fun _ => ?_)
  refine X.skip C.1<|Xr C I I<|R5 C I I isAgg25 sizeOf25 (by repeat constructor) Tk5<|Rm C I I<|R.callR C I I I I ((off_c hJ (he.mono hL) (hvv.mono hL) hsh i)) fun w9 ro9 hl9 hp9 => ?_
  obtain ⟨vl9, ho9, rfl⟩ := hp9
  replace hL := RO.le_trans hL hl9
  refine Rm C I I<|R.ext C I I I I<|R.ext C I I I I<|R.asg C I I I<|Ad C I I<|Xr C I I<|R5 C I I isAgg25 sizeOf25 (by repeat constructor) Tk5<|Rm C I I<|R.callR C I I I I ((offRR_c hJ (hvv.mono hL) hsh i)) fun w10 ro10 hl10 hp10 => ?_
  obtain ⟨vl10, ho10, rfl⟩ := hp10
  replace hL := RO.le_trans hL hl10
  refine Rm C I I<|R.ext C I I I I<|R.ext C I I I I<|R.asg C I I I<|Ad C I I<|Xr C I I<|R5 C I I isAgg25 sizeOf25 (by repeat constructor) Tk5<|Rm C I I<|R.callR C I I I I ((false_c hJ (he.mono hL) (hvv.mono hL) hsh k)) fun w11 ro11 hl11 hp11 => ?_
  subst hp11
  replace hL := RO.le_trans hL hl11
  refine Rm C I I<|R.ext C I I I I<|R.ext C I I I I<|R.asg C I I I<|Ad C I I<|Xr C I I<|R5 C I I isAgg25 sizeOf25 (by repeat constructor) Tk5<|Rm C I I<|R.callR C I I I I ((falseR_c hJ (hvv.mono hL) hsh k)) fun w12 ro12 hl12 hp12 => ?_
  rw [← hfa] at hp12
  subst hp12
  replace hL := RO.le_trans hL hl12
  generalize told b (b.witness k) (fun c => c.m.testBit k.toNat) = f at *
  have ho9 := ((ho9.mono hl10).mono hl11).mono hl12
  have ho10 := (ho10.mono hl11).mono hl12
  refine Rm C I I<|R.ext C I I I I<|R.ext C I I I I<|R.asg C I I I<|Ad C I I<|Xr C I I<|Rm C I I<|Rm C I I<|R.callP C I I I I ((sameInts_c hJ ho9 ho10 hol hol))<|R.fixv (t := 140) (v' := .bool true) I (by (exact congrArg Value.bool (by rw [sameInts_iff]; simp)))<|Rm C I I<|R.fixv (t := 141) (v' := .bool true) I (by rfl)<|Rm C I I<|Rm C I I<|R.int C I I I I b_eql<|R.fixv (t := 144) (v' := .bool true) I (by (exact congrArg Value.bool (by simp)))<|R.pickT C I I I I<|Rm C I I<|R.fixv (t := 146) (v' := .bool true) I (by rfl)<|Rm C I I<|Rm C I I<|R.int C I I I I b_eql<|R.fixv (t := 149) (v' := .bool true) I (by (exact congrArg Value.bool (by simp)))<|R.pickT C I I I I<|Rm C I I<|R.fixv (t := 151) (v' := .bool true) I (by rfl)<|Rm C I I<|Rm C I I<|R.int C I I I I b_eql<|R.fixv (t := 154) (v' := .bool true) I (by (exact congrArg Value.bool (by simp)))<|R.pickT C I I I I<|Rm C I I<|R.fixv (t := 156) (v' := .bool true) I (by rfl)<|R.callR C I I I I ((found_c _ (he.mono hL))) fun v9 ro9' hl9' hq9 => R.pickT C I I I I<|Ad C I I<|X.ret0 C (by kernel_rfl) I I func4 I (by exact (.tmp I .nil)) fun w9 hs9 => hret _ _ _ (RO.le_trans hL hl9') ?_ w9 hs9
  exact hq9
end Go.Lg.B
namespace Go.Lg.B
open Go Go.Proofs Go.Proofs.YtlkmnfdipiielaaGreatDoor Go.Proofs.Tryz
set_option maxRecDepth 100000
theorem cases_k1 : (Rows.bearingCasesRow.inPlace == prog.inPlace 4) = true := by kernel_rfl
theorem cases_k2 : (Rows.bearingCasesRow.unfollowed == prog.unfollowed 4) = true := by kernel_rfl
theorem cases_k3 : (Rows.bearingCasesRow.recurses == prog.recurses 4) = true := by kernel_rfl
theorem cases_k4 : (Rows.bearingCasesRow.named == prog.varsNamed 4) = true := by kernel_rfl
theorem cases_name : prog.funcNamed "lagan/laganlaw01.BearingCases" = some 4 := by kernel_rfl
theorem cases_goes : true = Rows.bearingCasesRow.goesBy prog := by kernel_rfl
theorem cases_wf : Rows.bearingCasesRow.wfByText (OpenSpec.ofChange Rows.bearingCasesSpec) = true := by kernel_rfl
theorem cases_facts : joinedFacts prog 4 Tryz.f4 Rows.bearingCasesSpec Rows.bearingCasesRow = true := by
 unfold joinedFacts
 exact (and_mk (and_mk (and_mk (and_mk (and_mk (and_mk (and_mk (and_mk (and_mk (and_mk (and_mk (and_mk (and_mk (and_mk (and_mk (and_mk (and_mk (and_mk (and_mk (and_mk (and_mk (and_mk (and_mk (and_mk (and_mk (and_mk (and_mk (and_mk (and_mk (and_mk (and_mk (by as_aux_lemma => kernel_rfl)
  k_lo)
  k_mr)
  (by as_aux_lemma => kernel_rfl))
  (by as_aux_lemma => kernel_rfl))
  (by as_aux_lemma => kernel_rfl))
  k_stops)
  (by as_aux_lemma => kernel_rfl))
  k_knobs)
  cases_k1)
  cases_k2)
  cases_k3)
  cases_k4)
  (by as_aux_lemma => kernel_rfl))
  (by as_aux_lemma => kernel_rfl))
  (by as_aux_lemma => kernel_rfl))
  (by as_aux_lemma => kernel_rfl))
  (by as_aux_lemma => kernel_rfl))
  (by as_aux_lemma => kernel_rfl))
  (by as_aux_lemma => kernel_rfl))
  (by as_aux_lemma => kernel_rfl))
  (by as_aux_lemma => kernel_rfl))
  (beq_iff_eq.2 k_pk.symm))
  (by as_aux_lemma => kernel_rfl))
  k_heard)
  k_may)
  (beq_iff_eq.2 k_lift.symm))
  (beq_iff_eq.2 k_make))
  (by as_aux_lemma => kernel_rfl))
  (by as_aux_lemma => kernel_rfl))
  (by as_aux_lemma => kernel_rfl))
  (by as_aux_lemma => kernel_rfl))
end Go.Lg.B
namespace Go.Proofs.YtlkmnfdipiielaaGreatDoor
open Go Go.Conc Go.Lg Go.Lg.B Go.ChangeShapes Go.RowKit Go.WideShapes
set_option maxRecDepth 100000
theorem cases_lifted (os : Os) (started : os.Started) (H : Type) (enc : TypeId × Value → H) :
  ReturnsInLeavingWide {} Tryz.checked os 4 .any (fun w args => (Rows.bearingCasesSpec.pre enc Tryz.prog Tryz.f4 [] false w args ∧ laidMetH Tryz.prog laid1 w) ∧ sizedMet enc Tryz.prog Tryz.f4 (OpenSpec.ofChange Rows.bearingCasesSpec) false w args)
   (Rows.bearingCasesSpec.post enc Tryz.prog Tryz.f4 false true false false) := by
 refine leaving_of_root (C := Tryz.checked) (tb := 4) (X := fun w _ => laidMetH Tryz.prog laid1 w) (fun _ _ _ hh h => h.of_heap hh) own0 started Tryz.func4 laid0 (by
   intro t ht
   rw [Tryz.params4] at ht
   have hm : t ∈ [25, 27, 3, 3] := ht
   have hall : ([25, 27, 3, 3].all fun u => Tryz.prog.readableRec u && decide (u < Tryz.prog.types.size)) = true := by kernel_rfl
   have := List.all_eq_true.1 hall t hm
   rw [Bool.and_eq_true, decide_eq_true_eq] at this
   exact this) rfl (by kernel_rfl) Tryz.underlying4
  (ChangeSpec.witness_shaped (enc := enc) (C := Tryz.checked) (os := os) (X := fun w _ => laidMetH Tryz.prog laid1 w) false (World.doorLaid Tryz.prog 89 os) #[.agg #[.int .i64 0, .int .i64 0, .int .i64 0, .slice none 0 0, .slice none 0 0], .agg #[.int .i64 0, .int .i64 0], .int .i64 0, .int .i64 0] 8 rfl (door_shaped os _) (by kernel_rfl) (by kernel_rfl) (by kernel_rfl) (door_met os _)) ?_
 intro W base args ds gs before hval hW _ _ hL
 obtain ⟨p, q, hA, hV, rfl, _, _⟩ := hW
 obtain ⟨rfl, rfl⟩ := trodVars_none hV
 have hA : DataW.TrodAll enc Tryz.prog W 0 (fun _ => true) true Tryz.f4.params.toList args.toList ds p := hA
 have hval : ∀ (j : Nat) t v, Tryz.f4.params[j]? = some t → args[j]? = some v → Value.okWide Tryz.prog W .any base t v := hval
 rw [Tryz.params4] at hA hval
 obtain ⟨v1, l1, d1, k1, p1, q1, e1, rfl, rfl, h1, hA⟩ := trodAll_cons hA
 obtain ⟨v2, l2, d2, k2, p2, q2, rfl, rfl, rfl, h2, hA⟩ := trodAll_cons hA
 obtain ⟨v3, l3, d3, k3, p3, q3, rfl, rfl, rfl, h3, hA⟩ := trodAll_cons hA
 obtain ⟨v4, l4, d4, k4, p4, q4, rfl, rfl, rfl, h4, hA⟩ := trodAll_cons hA
 obtain ⟨rfl, rfl, rfl⟩ := trodAll_nil hA
 have ea : args = #[v1, v2, v3, v4] := Array.toList_inj.1 e1
 subst ea
 obtain ⟨b, b1⟩ := argBk (hval 0 25 v1 rfl rfl) h1
 obtain ⟨s, rfl⟩ := argSq (hval 1 27 v2 rfl rfl) h2
 obtain ⟨i, rfl, _, _⟩ := argInt (hval 2 3 v3 rfl rfl) h3
 obtain ⟨k, rfl, _, _⟩ := argInt (hval 3 3 v4 rfl rfl) h4
 exact ⟨rfl, cases_root s i k (env_of_laid hL) b1⟩
theorem cases_row : Rows.BearingCasesSaid :=
 OpenClaim.holds_of_wide_leaving 4 Tryz.f4 rfl rfl rfl rfl rfl rfl rfl ⟨rfl, rfl, rfl, rfl, rfl⟩ rfl rfl rfl rfl rfl cases_name Tryz.func4 cases_facts
  (of_decide_eq_true (by kernel_rfl)) (by unfold Func.isWrapper; first | (rw [if_pos (by decide +kernel)]; kernel_rfl) | (rw [if_neg (by decide +kernel)]; exact ⟨rfl, rfl⟩))
  (fun os started H enc _ => cases_lifted os started H enc)
theorem cases_holds : Rows.BearingCasesCardSaid :=
 card_goes .later [.funcs] true (true, "6da441031df1273c87b994104071112c0d6d76e328f9edd428a3df0ab3bd48e1") true
  cases_row cases_wf bearingCases_row_tie rfl ⟨rfl, rfl⟩ k_main rfl
  (fun f fn hf hfn => by
   obtain rfl : f = 4 := Option.some.inj (cases_name.symm.trans hf) |>.symm
   obtain rfl : fn = Tryz.f4 := (Option.some.inj (Tryz.func4.symm.trans hfn)).symm
   exact ⟨k_looks, fun j t ht => by
    rw [Tryz.params4] at ht
    have hm : t ∈ [25, 27, 3, 3] := by simpa using Array.mem_of_getElem? ht
    have hall : ([25, 27, 3, 3].all fun u => !Tryz.prog.wantsStandIn u) = true := by kernel_rfl
    exact (show Tryz.prog.wantsStandIn t = false by simpa using List.all_eq_true.1 hall t hm)⟩)
  cases_goes
end Go.Proofs.YtlkmnfdipiielaaGreatDoor
