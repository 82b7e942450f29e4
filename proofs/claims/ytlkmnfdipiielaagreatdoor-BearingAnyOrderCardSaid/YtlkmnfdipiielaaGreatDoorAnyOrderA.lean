/-
  It is proved that the given function answers true for every input, whatever is scheduled: the statement AnyOrder of the seat. Conditions: none but those of the given statement itself.
-/
import Derived.Test.YtlkmnfdipiielaaGreatDoorKE
import Derived.ChangeArms
import Derived.WideShapes
import Derived.ChangeShapes
import Derived.Conc.Holds
set_option maxRecDepth 100000
set_option linter.all false
set_option linter.unusedVariables false
set_option linter.unusedSimpArgs false
set_option linter.unusedSectionVars false
namespace Go.Lg
open Go Go.Conc
section
variable {P : Program} {main : Bool} {J : Goroutine → Mem → Prop} {b : Frame} (C : Ctx P main J b) {cs : List Frame} {n : Nat} {ds : List Deferred} {σ : Slots} {ro : RO} {own : List (Nat × Obj)} {k : List Item} {ops : Array Oper} {i : Nat} {rest : List Nat}
  {dst : Option Nat} {ty : TypeId} {pos : String} {af : Array Edge} {g : Option (Nat × Bool)}
include C
end
end Go.Lg
namespace Go.Lg.B
open Go Go.Conc Go.Lg Go.Proofs Go.Proofs.Tryz
theorem compact_len (l : List Int) : ∀ i, (compactL (l.take i)).length ≤ i
  | 0 => by simp [compactL]
  | i + 1 => by
    by_cases h : i < l.length
    · rw [compact_take h]
      have := compact_len l i
      unfold cstep; split <;> simp <;> omega
    · rw [List.take_of_length_le (by omega)]
      have := compact_len l i
      rw [List.take_of_length_le (by omega)] at this
      omega
variable {main : Bool} {J : Goroutine → Mem → Prop} (hJ : Closed prog main J)
include hJ
end Go.Lg.B
namespace Go.Lg
open Go Go.Conc
end Go.Lg
namespace Go.Lg.B
open Go Go.Conc Go.Lg Go.Proofs Go.Proofs.Tryz
theorem sameInts_iff {a c : List Int} : sameInts a c = decide (a = c) := by
  unfold sameInts earlier
  have h := cmpL_flip a c
  by_cases e : a = c
  · subst e; simp [cmpL_refl]
  · have : cmpL a c ≠ 0 := fun h => e (cmpL_zero h)
    rw [decide_eq_false e]
    by_cases h1 : cmpL a c < 0
    · simp [h1]
    · have h2 : cmpL c a < 0 := by omega
      simp [h2]
variable {main : Bool} {J : Goroutine → Mem → Prop} (hJ : Closed prog main J)
include hJ
end Go.Lg.B
namespace Go.Lg
open Go
abbrev roOf (W : World) : RO := fun b => W.heap[b]?
theorem Sub.of_get {off n : Nat} {l out : List Value} (hn : off + n ≤ l.length) (ho : out.length = n) (h : ∀ i, i < n → l[off + i]? = out[i]?) : Sub off n l out := by
  have e : out = (l.drop off).take n := by
    refine List.ext_getElem? fun i => ?_
    by_cases hi : i < n
    · rw [← h i hi, List.getElem?_take_of_lt hi, List.getElem?_drop]
    · rw [List.getElem?_eq_none (by omega), List.getElem?_eq_none (by simp; omega)]
  rw [e]; exact Sub.of hn
theorem cell_block {W : World} {a : Addr} {v : Value} (h : W.cell? a = some v) : a.spot = none ∧ ∃ l t fq, W.heap[a.block]? = some (.cells l t fq) ∧ l[a.off]? = some v := by
  unfold World.cell? at h
  split at h
  · rename_i c t fq hc
    split at h
    · cases h
    · rename_i hs
      exact ⟨by simpa using hs, c, t, fq, hc, h⟩
  · cases h
theorem cells_get {W : World} {base : Nat} {a : Addr} {n : Nat} {l : List Value} (h : W.cells? base a n = some l) : l.length = n ∧ ∀ i, i < n → W.cell? (a.add i) = l[i]? := by
  unfold World.cells? at h
  split at h
  · refine ⟨by simpa using mapM_some_length h, fun i hi => mapM_some_get h i i (by simp [hi])⟩
  · cases h
theorem add_add (a : Addr) (i j : Nat) : (a.add i).add j = a.add (i + j) := by
  by_cases h1 : i = 0 <;> by_cases h2 : j = 0 <;> simp [Addr.add, h1, h2] <;> omega
theorem add_none {a : Addr} (h : a.spot = none) (i : Nat) : a.add i = ⟨a.block, a.off + i, none⟩ := by
  obtain ⟨b, o, s⟩ := a
  subst h
  by_cases h1 : i = 0 <;> simp [Addr.add, h1]
section
variable {H : Type} {enc0 : TypeId × Value → H} {P : Program} {W : World} {base : Nat} {sp : Nat → Bool} {held : Bool}
theorem ls_of_trod {α : Type} {enc : α → List Value} {k : Nat} {t e : TypeId} {fuel : Nat} {cs : List Value} {x : DataW H × List MemPlace} (ht : P.underlying t = some (.slice e)) (hc : P.cellsOf e = k) (hk : 0 < k) (hlen : ∀ x, (enc x).length = k)
    (hel : ∀ n cs z, DataW.trod enc0 P W base sp held n e cs = some z → ∃ y, cs = enc y) (h : DataW.trod enc0 P W base sp held fuel t cs = some x) : ∃ v xs, cs = [v] ∧ Ls enc k (roOf W) v xs := by
  subst hc
  rcases DataW.trod_slice ht h with ⟨rfl, _⟩ | ⟨a, len, cap, elems, rest, n, _, rfl, _, hb, hl, _, hlen2, hel2, _⟩
  · exact ⟨_, [], rfl, .nil⟩
  · have one : ∀ i, i < len → ∃ y : α, W.cells? base (a.add (i * P.cellsOf e)) (P.cellsOf e) = some (enc y) := fun i hi => by
      have h1 := hel2 i hi
      rw [List.getElem?_eq_getElem (by omega)] at h1
      obtain ⟨l, h2, h3⟩ := Option.bind_eq_some_iff.1 h1
      obtain ⟨y, rfl⟩ := hel _ _ _ h3
      exact ⟨y, h2⟩
    have all : ∀ m, m ≤ len → ∃ ys : List α, ys.length = m ∧ ∀ j, j < m * P.cellsOf e → W.cell? (a.add j) = (ys.flatMap enc)[j]? := by
      intro m
      induction m with
      | zero => exact fun _ => ⟨[], rfl, fun j hj => by omega⟩
      | succ m ih =>
        intro hm
        obtain ⟨ys, h1, h2⟩ := ih (by omega)
        obtain ⟨y, hy⟩ := one m (by omega)
        refine ⟨ys ++ [y], by simp [h1], fun j hj => ?_⟩
        have hfl : (ys.flatMap enc).length = m * P.cellsOf e := by rw [flatMap_len hlen, h1]
        rw [List.flatMap_append]
        by_cases hjm : j < m * P.cellsOf e
        · rw [List.getElem?_append_left (by omega)]; exact h2 j hjm
        · rw [List.getElem?_append_right (by omega), hfl]
          have := (cells_get hy).2 (j - m * P.cellsOf e) (by rw [Nat.succ_mul] at hj; omega)
          simp only [List.flatMap_cons, List.flatMap_nil, List.append_nil]
          rw [← this, add_add]
          congr 2
          omega
    obtain ⟨ys, h1, h2⟩ := all len (Nat.le_refl _)
    refine ⟨_, ys, rfl, some a, cap, by rw [h1], ?_⟩
    by_cases h0 : len = 0
    · exact .inl (List.eq_nil_of_length_eq_zero (by omega))
    · right
      have hfl : (ys.flatMap enc).length = len * P.cellsOf e := by rw [flatMap_len hlen, h1]
      have hpos : 0 < len * P.cellsOf e := Nat.mul_pos (by omega) hk
      have hlast := h2 (len * P.cellsOf e - 1) (by omega)
      rw [List.getElem?_eq_getElem (by omega)] at hlast
      have hfirst := h2 0 hpos
      rw [List.getElem?_eq_getElem (by omega)] at hfirst
      have hs : a.spot = none := (cell_block hfirst).1
      rw [add_none hs] at hlast
      obtain ⟨_, l, t', fq, hh, hl2⟩ := cell_block hlast
      refine ⟨a.block, a.off, l.toList, t', fq, by obtain ⟨ab, ao, az⟩ := a; subst hs; rfl, by rw [Array.toArray_toList]; exact hh, ?_⟩
      rw [h1]
      have hlt : a.off + (len * P.cellsOf e - 1) < l.size := (Array.getElem?_eq_some_iff.1 hl2).1
      refine Sub.of_get (by simp; omega) hfl fun i hi => ?_
      have := h2 i hi
      rw [add_none hs] at this
      unfold World.cell? at this
      simp only at this
      rw [hh] at this
      simpa using this
theorem int_of_trod {t : TypeId} {k : IntKind} {fuel : Nat} {cs : List Value} {x : DataW H × List MemPlace} (ht : P.underlying t = some (.int k)) (h : DataW.trod enc0 P W base sp held fuel t cs = some x) : ∃ n, cs = [.int k n] ∧ (Lit.int k n).wf = true := by
  cases fuel with
  | zero => simp [DataW.trod] at h
  | succ n =>
    unfold DataW.trod at h
    rw [ht] at h
    split at h <;> simp_all
theorem bool_of_trod {t : TypeId} {fuel : Nat} {cs : List Value} {x : DataW H × List MemPlace} (ht : P.underlying t = some .bool) (h : DataW.trod enc0 P W base sp held fuel t cs = some x) : ∃ b, cs = [.bool b] := by
  cases fuel with
  | zero => simp [DataW.trod] at h
  | succ n =>
    unfold DataW.trod at h
    rw [ht] at h
    split at h <;> simp_all
end
end Go.Lg
namespace Go.Lg.B
open Go Go.Conc Go.Lg Go.Proofs Go.WideShapes Go.ChangeShapes Go.Proofs.Tryz
set_option maxRecDepth 100000
theorem cells3 : prog.cellsOf 3 = 1 := by kernel_rfl
theorem cells4 : prog.cellsOf 4 = 1 := by kernel_rfl
theorem cells22 : prog.cellsOf 22 = 1 := by kernel_rfl
theorem cells23 : prog.cellsOf 23 = 1 := by kernel_rfl
theorem cells25 : prog.cellsOf 25 = 5 := by kernel_rfl
theorem cells27 : prog.cellsOf 27 = 2 := by kernel_rfl
theorem cells46 : prog.cellsOf 46 = 2 := by kernel_rfl
theorem cells58 : prog.cellsOf 58 = 5 := by kernel_rfl
section
variable {H : Type} {enc0 : TypeId × Value → H} {W : World} {base : Nat} {sp : Nat → Bool} {held : Bool}
theorem field_of {P : Program} {t : TypeId} {fs : Array Field} {fuel : Nat} {cs : List Value} {x : DataW H × List MemPlace} (ht : P.underlying t = some (.struct fs)) (h : DataW.trod enc0 P W base sp held fuel t cs = some x) :
    cs.length = P.cellsOf t ∧ ∀ (i : Nat) (f : Field), fs[i]? = some f → ∃ n z, DataW.trod enc0 P W base sp held n f.type ((cs.drop f.offset).take (P.cellsOf f.type)) = some z := by
  obtain ⟨xs, n, _, _, h1, h2, h3⟩ := DataW.trod_struct ht h
  refine ⟨h1, fun i f hf => ?_⟩
  have hi : i < xs.length := by rw [h2]; exact (Array.getElem?_eq_some_iff.1 hf).1
  exact ⟨n, xs[i], by rw [h3 i f hf, List.getElem?_eq_getElem hi]⟩
theorem sq_of {n : Nat} {cs : List Value} {z : DataW H × List MemPlace} (h : DataW.trod enc0 prog W base sp held n 27 cs = some z) : ∃ s : Sq, cs = s.cells := by
  obtain ⟨hl, hf⟩ := field_of underlying27 h
  rw [cells27] at hl
  match cs, hl with
  | [a, c], _ =>
    have g0 : ∃ n z, DataW.trod enc0 prog W base sp held n 3 (([a, c].drop 0).take (prog.cellsOf 3)) = some z := hf 0 _ rfl
    rw [cells3] at g0
    obtain ⟨_, _, h0⟩ := g0
    have g1 : ∃ n z, DataW.trod enc0 prog W base sp held n 3 (([a, c].drop 1).take (prog.cellsOf 3)) = some z := hf 1 _ rfl
    rw [cells3] at g1
    obtain ⟨_, _, h1⟩ := g1
    obtain ⟨x0, e0, _⟩ := int_of_trod underlying3 h0
    obtain ⟨x1, e1, _⟩ := int_of_trod underlying3 h1
    simp at e0 e1
    subst e0; subst e1
    exact ⟨⟨x0, x1⟩, rfl⟩
theorem rc_of {n : Nat} {cs : List Value} {z : DataW H × List MemPlace} (h : DataW.trod enc0 prog W base sp held n 46 cs = some z) : ∃ s : Rc, cs = s.cells := by
  obtain ⟨hl, hf⟩ := field_of underlying46 h
  rw [cells46] at hl
  match cs, hl with
  | [a, c], _ =>
    have g0 : ∃ n z, DataW.trod enc0 prog W base sp held n 3 (([a, c].drop 0).take (prog.cellsOf 3)) = some z := hf 0 _ rfl
    rw [cells3] at g0
    obtain ⟨_, _, h0⟩ := g0
    have g1 : ∃ n z, DataW.trod enc0 prog W base sp held n 3 (([a, c].drop 1).take (prog.cellsOf 3)) = some z := hf 1 _ rfl
    rw [cells3] at g1
    obtain ⟨_, _, h1⟩ := g1
    obtain ⟨x0, e0, _⟩ := int_of_trod underlying3 h0
    obtain ⟨x1, e1, _⟩ := int_of_trod underlying3 h1
    simp at e0 e1
    subst e0; subst e1
    exact ⟨⟨x0, x1⟩, rfl⟩
theorem wt_of {n : Nat} {cs : List Value} {z : DataW H × List MemPlace} (h : DataW.trod enc0 prog W base sp held n 58 cs = some z) : ∃ s : Wt, cs = s.cells := by
  obtain ⟨hl, hf⟩ := field_of underlying58 h
  rw [cells58] at hl
  match cs, hl with
  | [a, c, d, e, f], _ =>
    have g0 : ∃ n z, DataW.trod enc0 prog W base sp held n 27 (([a, c, d, e, f].drop 0).take (prog.cellsOf 27)) = some z := hf 0 _ rfl
    rw [cells27] at g0
    obtain ⟨_, _, h0⟩ := g0
    have g1 : ∃ n z, DataW.trod enc0 prog W base sp held n 3 (([a, c, d, e, f].drop 2).take (prog.cellsOf 3)) = some z := hf 1 _ rfl
    rw [cells3] at g1
    obtain ⟨_, _, h1⟩ := g1
    have g2 : ∃ n z, DataW.trod enc0 prog W base sp held n 3 (([a, c, d, e, f].drop 3).take (prog.cellsOf 3)) = some z := hf 2 _ rfl
    rw [cells3] at g2
    obtain ⟨_, _, h2⟩ := g2
    have g3 : ∃ n z, DataW.trod enc0 prog W base sp held n 4 (([a, c, d, e, f].drop 4).take (prog.cellsOf 4)) = some z := hf 3 _ rfl
    rw [cells4] at g3
    obtain ⟨_, _, h3⟩ := g3
    obtain ⟨s, e0⟩ := sq_of h0
    obtain ⟨x1, e1, _⟩ := int_of_trod underlying3 h1
    obtain ⟨x2, e2, _⟩ := int_of_trod underlying3 h2
    obtain ⟨x3, e3⟩ := bool_of_trod underlying4 h3
    simp [Sq.cells] at e0 e1 e2 e3
    obtain ⟨rfl, rfl⟩ := e0
    subst e1; subst e2; subst e3
    exact ⟨⟨s, x1, x2, x3⟩, rfl⟩
theorem rcs_of {n : Nat} {cs : List Value} {z : DataW H × List MemPlace} (h : DataW.trod enc0 prog W base sp held n 22 cs = some z) : ∃ v xs, cs = [v] ∧ Ls Rc.cells 2 (fun b => W.heap[b]?) v xs :=
  ls_of_trod underlying22 cells46 (by decide) Rc.len (fun _ _ _ h => rc_of h) h
theorem wts_of {n : Nat} {cs : List Value} {z : DataW H × List MemPlace} (h : DataW.trod enc0 prog W base sp held n 23 cs = some z) : ∃ v xs, cs = [v] ∧ Ls Wt.cells 5 (fun b => W.heap[b]?) v xs :=
  ls_of_trod underlying23 cells58 (by decide) Wt.len (fun _ _ _ h => wt_of h) h
theorem argBk {r : Reach} {b0 : Nat} {v : Value} {d : DataW H} {p : List MemPlace} (hv : Value.okWide prog W r b0 25 v) (h : DataW.Trod enc0 prog W base sp held 25 v d p) : ∃ b, BkV (fun b => W.heap[b]?) v b := by
  obtain ⟨⟨cs⟩, rfl, _⟩ := okWide_struct underlying25 hv
  obtain ⟨n, h⟩ := h
  obtain ⟨hl, hf⟩ := field_of (cs := cs) underlying25 h
  rw [cells25] at hl
  match cs, hl with
  | [a, c, d, e, f], _ =>
    have g0 : ∃ n z, DataW.trod enc0 prog W base sp held n 3 (([a, c, d, e, f].drop 0).take (prog.cellsOf 3)) = some z := hf 0 _ rfl
    rw [cells3] at g0
    obtain ⟨_, _, h0⟩ := g0
    have g1 : ∃ n z, DataW.trod enc0 prog W base sp held n 3 (([a, c, d, e, f].drop 1).take (prog.cellsOf 3)) = some z := hf 1 _ rfl
    rw [cells3] at g1
    obtain ⟨_, _, h1⟩ := g1
    have g2 : ∃ n z, DataW.trod enc0 prog W base sp held n 3 (([a, c, d, e, f].drop 2).take (prog.cellsOf 3)) = some z := hf 2 _ rfl
    rw [cells3] at g2
    obtain ⟨_, _, h2⟩ := g2
    have g3 : ∃ n z, DataW.trod enc0 prog W base sp held n 22 (([a, c, d, e, f].drop 3).take (prog.cellsOf 22)) = some z := hf 3 _ rfl
    rw [cells22] at g3
    obtain ⟨_, _, h3⟩ := g3
    have g4 : ∃ n z, DataW.trod enc0 prog W base sp held n 23 (([a, c, d, e, f].drop 4).take (prog.cellsOf 23)) = some z := hf 4 _ rfl
    rw [cells23] at g4
    obtain ⟨_, _, h4⟩ := g4
    obtain ⟨x0, e0, _⟩ := int_of_trod underlying3 h0
    obtain ⟨x1, e1, _⟩ := int_of_trod underlying3 h1
    obtain ⟨x2, e2, _⟩ := int_of_trod underlying3 h2
    obtain ⟨v3, x3, e3, l3⟩ := rcs_of h3
    obtain ⟨v4, x4, e4, l4⟩ := wts_of h4
    simp at e0 e1 e2 e3 e4
    subst e0; subst e1; subst e2; subst e3; subst e4
    exact ⟨⟨x0, x1, x2, x3, x4⟩, _, _, rfl, l3, l4⟩
end
end Go.Lg.B
namespace Go.Lg.B
open Go Go.Conc Go.Lg Go.Proofs Go.Proofs.Tryz
section
variable {main : Bool} {J : Goroutine → Mem → Prop} (hJ : Closed prog main J)
include hJ
theorem nearR_c (s : Sq) (ro : RO) : CallP prog J (fnv 83) [s.val] ro (.bool (isPlace s)) := by
  refine CallP.intro hJ (by kernel_rfl) fun c cs tail hret => enter_X (n := 11) func83 rfl rfl (Nl rfl) ?_
  have C : Ctx prog main J (bf 83 .normal) := ⟨hJ, by decide⟩
  refine Xr C rfl rfl <| R.box C rfl rfl rfl rfl fun p1 => Ad C rfl rfl <| Xr C rfl rfl <| Rf C 0 rfl rfl runUnderlying27 rfl sizeOf3 <| R.loadOne C rfl rfl rfl isAgg3 (by repeat (first | exact Mh | apply Mt)) rfl <| R.callP C rfl rfl rfl rfl (betweenR_c hJ _ _ _ _) <| Rm C rfl rfl <| R.fix (t := 6) rfl (fun q1 => ?_) (fun q1 => ?_)
  · have q1 := q1
    refine Rf C 1 rfl rfl runUnderlying27 rfl sizeOf3 <| R.loadOne C rfl rfl rfl isAgg3 (by repeat (first | exact Mh | apply Mt)) rfl <| R.callP C rfl rfl rfl rfl (betweenR_c hJ _ _ _ _) <| R.pickT C rfl rfl rfl rfl <| Ad C rfl rfl <| Xt C func83 <| Hp hret ?_
    simp_all [isPlace, retVal]
  · have q1 := q1
    refine R.pass C rfl rfl <| R.pass C rfl rfl <| R.pass C rfl rfl <| R.pickF C rfl rfl rfl rfl <| Ad C rfl rfl <| Xt C func83 <| Hp hret ?_
    simp_all [isPlace, retVal]
theorem insideR_c (x : Rc) (l m : Int) (ro : RO) : CallP prog J (fnv 90) [x.val, .int .i64 l, .int .i64 m] ro (.bool (isReach x l m)) := by
  refine CallP.intro hJ (by kernel_rfl) fun c cs tail hret => enter_X (n := 24) func90 rfl rfl (Nl rfl) ?_
  have C : Ctx prog main J (bf 90 .normal) := ⟨hJ, by decide⟩
  refine Xr C rfl rfl <| R.box C rfl rfl rfl rfl fun p3 => Ad C rfl rfl <| Xr C rfl rfl <| Rm C rfl rfl <| Rf C 0 rfl rfl runUnderlying46 rfl sizeOf3 <| R.loadOne C rfl rfl rfl isAgg3 (by repeat (first | exact Mh | apply Mt)) rfl <| R.int C rfl rfl rfl rfl b_leq <| Rm C rfl rfl <| R.fix (t := 11) rfl (fun q1 => ?_) (fun q1 => ?_)
  · have q1 := q1
    refine Rf C 0 rfl rfl runUnderlying46 rfl sizeOf3 <| R.loadOne C rfl rfl rfl isAgg3 (by repeat (first | exact Mh | apply Mt)) rfl <| Rf C 1 rfl rfl runUnderlying46 rfl sizeOf3 <| R.loadOne C rfl rfl rfl isAgg3 (by repeat (first | exact Mh | apply Mt)) rfl <| R.int C rfl rfl rfl rfl b_leq <| R.pickT C rfl rfl rfl rfl <| Rm C rfl rfl <| R.fix (t := 18) rfl (fun q2 => ?_) (fun q2 => ?_)
    · have q2 := q2
      refine Rf C 1 rfl rfl runUnderlying46 rfl sizeOf3 <| R.loadOne C rfl rfl rfl isAgg3 (by repeat (first | exact Mh | apply Mt)) rfl <| Rm C rfl rfl <| R.int C rfl rfl rfl rfl b_leq <| R.pickT C rfl rfl rfl rfl <| Ad C rfl rfl <| Xt C func90 <| Hp hret ?_
      first | (simp_all [isReach, retVal]; done) | (simp_all [isReach, retVal]; omega)
    · have q2 := q2
      refine R.pass C rfl rfl <| R.pass C rfl rfl <| R.pass C rfl rfl <| R.pass C rfl rfl <| R.pickF C rfl rfl rfl rfl <| Ad C rfl rfl <| Xt C func90 <| Hp hret ?_
      first | (simp_all [isReach, retVal]; done) | (simp_all [isReach, retVal]; omega)
  · have q1 := q1
    refine R.pass C rfl rfl <| R.pass C rfl rfl <| R.pass C rfl rfl <| R.pass C rfl rfl <| R.pass C rfl rfl <| R.pickF C rfl rfl rfl rfl <| Rm C rfl rfl <| R.pass C rfl rfl <| R.pass C rfl rfl <| R.pass C rfl rfl <| R.pass C rfl rfl <| R.pickF C rfl rfl rfl rfl <| Ad C rfl rfl <| Xt C func90 <| Hp hret ?_
    first | (simp_all [isReach, retVal]; done) | (simp_all [isReach, retVal]; omega)
theorem isCompassR_c {b : Bk} {v : Value} {ro : RO} (hv : BkV ro v b) (hb : b.short) (k : Int) : CallP prog J (fnv 91) [v, .int .i64 k] ro (.bool (between k 0 (b.cs.length - 1))) := by
  obtain ⟨vc, vw, rfl, hc, hw⟩ := hv
  obtain ⟨h1, h2⟩ := hb
  obtain ⟨b1, c1, rfl⟩ := hc.form
  refine CallP.intro hJ (by kernel_rfl) fun c cs tail hret => enter_X (n := 11) func91 rfl rfl (Nl rfl) ?_
  have C : Ctx prog main J (bf 91 .normal) := ⟨hJ, by decide⟩
  refine Xr C rfl rfl <| R.box C rfl rfl rfl rfl fun p2 => Ad C rfl rfl <| Xr C rfl rfl <| Rm C rfl rfl <| Rf C 3 rfl rfl runUnderlying25 rfl sizeOf22 <| R.loadOne C rfl rfl rfl isAgg22 (by repeat (first | exact Mh | apply Mt)) rfl <| R.lenSlice C rfl rfl rfl runUnderlying22 <| R.int C rfl rfl rfl rfl (b_sub (by omega) (by omega)) <| R.callP C rfl rfl rfl rfl (betweenR_c hJ _ _ _ _) <| Ad C rfl rfl <| Xt C func91 <| Hp hret ?_
  simp_all [retVal]
theorem greatR_c {b : Bk} {v : Value} {ro : RO} (hv : BkV ro v b) : CallP prog J (fnv 18) [v] ro (.bool (decide (20 < b.cs.length) || decide (20 < b.ws.length))) := by
  obtain ⟨vc, vw, rfl, hc, hw⟩ := hv
  obtain ⟨b1, c1, rfl⟩ := hc.form
  obtain ⟨b2, c2, rfl⟩ := hw.form
  refine CallP.intro hJ (by kernel_rfl) fun c cs tail hret => enter_X (n := 13) func18 rfl rfl (Nl rfl) ?_
  have C : Ctx prog main J (bf 18 .normal) := ⟨hJ, by decide⟩
  refine Xr C rfl rfl <| R.box C rfl rfl rfl rfl fun p1 => Ad C rfl rfl <| Xr C rfl rfl <| Rf C 3 rfl rfl runUnderlying25 rfl sizeOf22 <| R.loadOne C rfl rfl rfl isAgg22 (by repeat (first | exact Mh | apply Mt)) rfl <| R.lenSlice C rfl rfl rfl runUnderlying22 <| R.int C rfl rfl rfl rfl b_gtr <| Rm C rfl rfl <| R.fix (t := 7) rfl (fun q1 => ?_) (fun q1 => ?_)
  · have q1 := q1
    refine R.pass C rfl rfl <| R.pass C rfl rfl <| R.pass C rfl rfl <| R.pass C rfl rfl <| R.pickT C rfl rfl rfl rfl <| Ad C rfl rfl <| Xt C func18 <| Hp hret ?_
    (simp only [decide_eq_true_eq, decide_eq_false_iff_not, retVal] at *; refine congrArg Value.bool ?_; rw [Bool.eq_iff_iff]; simp; try omega)
  · have q1 := q1
    refine Rf C 4 rfl rfl runUnderlying25 rfl sizeOf23 <| R.loadOne C rfl rfl rfl isAgg23 (by repeat (first | exact Mh | apply Mt)) rfl <| R.lenSlice C rfl rfl rfl runUnderlying23 <| R.int C rfl rfl rfl rfl b_gtr <| R.pickF C rfl rfl rfl rfl <| Ad C rfl rfl <| Xt C func18 <| Hp hret ?_
    (simp only [decide_eq_true_eq, decide_eq_false_iff_not, retVal] at *; refine congrArg Value.bool ?_; rw [Bool.eq_iff_iff]; simp; try omega)
end
end Go.Lg.B
namespace Go.Lg.B
open Go Go.Conc Go.Lg Go.Proofs Go.Proofs.Tryz
theorem rz_iff {k : Int} : ∀ {m : Nat} {n : Int}, k ∈ rz n m ↔ n ≤ k ∧ k < n + m
  | 0, n => by simp only [rz, List.not_mem_nil, false_iff]; omega
  | m + 1, n => by rw [rz, List.mem_cons, rz_iff]; omega
theorem ups_iff {k : Nat} : ∀ {m n : Nat}, k ∈ ups n m ↔ n ≤ k ∧ k < n + m
  | 0, n => by simp only [ups, List.not_mem_nil, false_iff]; omega
  | m + 1, n => by rw [ups, List.mem_cons, ups_iff]; omega
theorem maskOf_bit (p : Nat → Bool) (i : Nat) : ∀ n, (maskOf p n).testBit i = (decide (i < n) && p i)
  | 0 => by simp [maskOf]
  | n + 1 => by
    simp only [maskOf]
    by_cases h : p n = true
    · rw [if_pos h, Nat.testBit_or, maskOf_bit, Nat.testBit_two_pow]
      by_cases e : i = n
      · subst e; simp [h]
      · have : (i < n + 1) ↔ i < n := by omega
        simp [Ne.symm e, this]
    · rw [if_neg h, maskOf_bit]
      by_cases e : i = n
      · subst e; simp [h]
      · have : (i < n + 1) ↔ i < n := by omega
        simp [this]
theorem andNot_zero {a c : Nat} : (andNot a c == 0) = true ↔ ∀ i, a.testBit i = true → c.testBit i = true := by
  rw [beq_iff_eq]
  constructor
  · intro h i ha
    have := congrArg (fun x => x.testBit i) h
    simp only [andNot, Nat.testBit_xor, Nat.testBit_and, ha, Nat.zero_testBit] at this
    cases hc : c.testBit i
    · rw [hc] at this; simp at this
    · rfl
  · intro h
    refine Nat.eq_of_testBit_eq fun i => ?_
    simp only [andNot, Nat.testBit_xor, Nat.testBit_and, Nat.zero_testBit]
    cases ha : a.testBit i
    · simp
    · simp [h i ha]
theorem and_zero {a c : Nat} : (a &&& c == 0) = true ↔ ∀ i, a.testBit i = true → c.testBit i = false := by
  rw [beq_iff_eq]
  constructor
  · intro h i ha
    have := congrArg (fun x => x.testBit i) h
    simpa only [Nat.testBit_and, ha, Nat.zero_testBit, Bool.true_and] using this
  · intro h
    refine Nat.eq_of_testBit_eq fun i => ?_
    simp only [Nat.testBit_and, Nat.zero_testBit]
    cases ha : a.testBit i
    · simp
    · simp [h i ha]
theorem bits_mem (m : Nat) (k : Int) : ∀ n, k ∈ bitsUpto m n ↔ ∃ i : Nat, i < n ∧ m.testBit i = true ∧ k = i
  | 0 => by simp [bitsUpto]
  | n + 1 => by
    simp only [bitsUpto]
    have ih := bits_mem m k n
    by_cases h : m.testBit n = true
    · rw [if_pos h, List.mem_append, ih, List.mem_singleton]
      constructor
      · rintro (⟨i, h1, h2, h3⟩ | rfl)
        · exact ⟨i, by omega, h2, h3⟩
        · exact ⟨n, by omega, h, rfl⟩
      · rintro ⟨i, h1, h2, h3⟩
        by_cases e : i = n
        · exact .inr (by rw [h3, e])
        · exact .inl ⟨i, by omega, h2, h3⟩
    · rw [if_neg h, ih]
      constructor
      · rintro ⟨i, h1, h2, h3⟩; exact ⟨i, by omega, h2, h3⟩
      · rintro ⟨i, h1, h2, h3⟩
        by_cases e : i = n
        · rw [e] at h2; exact absurd h2 h
        · exact ⟨i, by omega, h2, h3⟩
theorem bits_up (m : Nat) : ∀ n, List.Pairwise (· < ·) (bitsUpto m n)
  | 0 => List.Pairwise.nil
  | n + 1 => by
    simp only [bitsUpto]
    split
    · refine List.pairwise_append.2 ⟨bits_up m n, List.pairwise_singleton _ _, fun x hx y hy => ?_⟩
      obtain ⟨i, h1, _, rfl⟩ := (bits_mem m x n).1 hx
      obtain rfl := List.mem_singleton.1 hy
      omega
    · exact bits_up m n
theorem up_nodup {l : List Int} (h : List.Pairwise (· < ·) l) : l.Nodup := h.imp fun h => by omega
theorem up_ext {l m : List Int} (hl : List.Pairwise (· < ·) l) (hm : List.Pairwise (· < ·) m) (h : ∀ x, x ∈ l ↔ x ∈ m) : l = m :=
  List.Perm.eq_of_pairwise (fun a b _ _ h1 h2 => by omega) hl hm ((List.perm_ext_iff_of_nodup (up_nodup hl) (up_nodup hm)).2 h)
theorem listOf_eq {m : Nat} {l : List Int} (hl : List.Pairwise (· < ·) l) (hr : ∀ k ∈ l, 0 ≤ k ∧ k < 5) (hm : ∀ i : Nat, m.testBit i = l.contains (i : Int)) : listOf m = l := by
  refine up_ext (bits_up m 5) hl fun x => ?_
  unfold listOf
  rw [bits_mem]
  constructor
  · rintro ⟨i, _, h2, rfl⟩
    rw [hm] at h2; simpa using h2
  · intro hx
    obtain ⟨h1, h2⟩ := hr x hx
    refine ⟨x.toNat, by omega, ?_, by omega⟩
    rw [hm, show ((x.toNat : Nat) : Int) = x by omega]
    simpa using hx
end Go.Lg.B
namespace Go.Lg.B
open Go Go.Conc Go.Lg Go.Proofs Go.Proofs.Tryz
section
variable {main : Bool} {J : Goroutine → Mem → Prop} (hJ : Closed prog main J)
include hJ
theorem checkChartR_c {b : Bk} {v : Value} {ro : RO} (hv : BkV ro v b) (hs : b.short) : CallP prog J (fnv 25) [v] ro (.int .i64 (checkChart b)) := by
  have hvv := hv
  obtain ⟨vc, vw, rfl, hc, hw⟩ := hv
  obtain ⟨b1, c1, rfl⟩ := hc.form
  obtain ⟨b2, c2, rfl⟩ := hw.form
  have hs0 := hs
  obtain ⟨hs1, hs2⟩ := hs
  by_cases hch : b.chart = 0
  · have hch' : between b.w 2 7 = true ∧ between b.h 2 7 = true ∧ between b.f 0 2 = true := by
      simp only [Bk.chart] at hch
      cases h1 : between b.w 2 7 <;> cases h2 : between b.h 2 7 <;> cases h3 : between b.f 0 2 <;> simp [h1, h2, h3] at hch ⊢
    obtain ⟨g1, g2, g3⟩ := hch'
    refine CallP.intro hJ (by kernel_rfl) fun c cs tail hret => enter_X (n := 82) func25 rfl rfl (Nl rfl) ?_
    have C : Ctx prog main J (bf 25 .normal) := ⟨hJ, by decide⟩
    refine Xr C rfl rfl <| R.box C rfl rfl rfl rfl fun p1 => Ad C rfl rfl <| Xs C <| Xr C rfl rfl <| Rf C 0 rfl rfl runUnderlying25 rfl sizeOf3 <| R.loadOne C rfl rfl rfl isAgg3 (by repeat (first | exact Mh | apply Mt)) rfl <| R.callP C rfl rfl rfl rfl (betweenR_c hJ _ _ _ _) <| R.not C rfl rfl rfl <| R.fixv (t := 10) (v' := .bool false) rfl (by (rw [g1]; rfl)) <| Rm C rfl rfl <| Rf C 1 rfl rfl runUnderlying25 rfl sizeOf3 <| R.loadOne C rfl rfl rfl isAgg3 (by repeat (first | exact Mh | apply Mt)) rfl <| R.callP C rfl rfl rfl rfl (betweenR_c hJ _ _ _ _) <| R.not C rfl rfl rfl <| R.fixv (t := 15) (v' := .bool false) rfl (by (rw [g2]; rfl)) <| R.pickF C rfl rfl rfl rfl <| Rm C rfl rfl <| Rf C 2 rfl rfl runUnderlying25 rfl sizeOf3 <| R.loadOne C rfl rfl rfl isAgg3 (by repeat (first | exact Mh | apply Mt)) rfl <| R.callP C rfl rfl rfl rfl (betweenR_c hJ _ _ _ _) <| R.not C rfl rfl rfl <| R.fixv (t := 21) (v' := .bool false) rfl (by (rw [g3]; rfl)) <| R.pickF C rfl rfl rfl rfl <| R.done C <| X.cond C.1 rfl (fun h => nomatch h) (fun _ => ?_)
    refine X.skip C.1 <| Xs C <| Xr C rfl rfl <| Rf C 3 rfl rfl runUnderlying25 rfl sizeOf22 <| R.loadOne C rfl rfl rfl isAgg22 (by repeat (first | exact Mh | apply Mt)) rfl <| R.lenSlice C rfl rfl rfl runUnderlying22 <| R.callP C rfl rfl rfl rfl (betweenR_c hJ _ _ _ _) <| R.not C rfl rfl rfl <| R.done C <| X.cond C.1 rfl (fun hn => ?_) (fun hn => ?_)
    · have hn := hn
      refine Xr C rfl rfl <| Ad C rfl rfl <| Xt C func25 <| Hp hret ?_
      simp only [checkChart, hch, Bk.compassesH]
      simp_all [retVal]
    · have hn := hn
      have hn' : between (b.cs.length : Int) 1 3 = true := by simpa using hn
      refine X.skip C.1 <| Xs C <| Xr C rfl rfl <| Ad C rfl rfl <| X.block C.1 <| X.loopI (ι := Nat) C.1 (fun i => i ≤ b.cs.length ∧ csH (b.cs.drop i) = csH b.cs) (fun i => [(1, .pointer (some ⟨p1, 0, none⟩)), (3, .int .i64 (i : Int))])
        (fun _ => ⟨ro, (p1, .cells [.int .i64 b.w, .int .i64 b.h, .int .i64 b.f, .slice b1 b.cs.length c1, .slice b2 b.ws.length c2].toArray 25 (0, 0)) :: tail⟩) (fun i => b.cs.length - i) 0 ⟨Nat.zero_le _, rfl⟩ rfl ⟨rfl, rfl, trivial⟩ fun i hi hnext => ?_
      obtain ⟨hi, hr⟩ := hi
      refine Xs C <| Xr C rfl rfl <| Rm C rfl rfl <| Rf C 3 rfl rfl runUnderlying25 rfl sizeOf22 <| R.loadOne C rfl rfl rfl isAgg22 (by repeat (first | exact Mh | apply Mt)) rfl <| R.lenSlice C rfl rfl rfl runUnderlying22 <| R.int C rfl rfl rfl rfl b_lss <| R.done C <| X.cond C.1 rfl (fun hlt => ?_) (fun hlt => ?_)
      · have hlt := hlt
        simp only [decide_eq_true_eq] at hlt
        have hi' : i < b.cs.length := by omega
        obtain ⟨p, off, cap, l, t, fq, hsl, hrop, hsub⟩ := hc.at Rc.len (by omega)
        cases hsl
        rw [List.drop_eq_getElem_cons hi'] at hr
        simp only [csH] at hr
        refine X.skip C.1 <| Xs C <| X.block C.1 <| Xr C rfl rfl <| Rf C 3 rfl rfl runUnderlying25 rfl sizeOf22 <| R.loadOne C rfl rfl rfl isAgg22 (by repeat (first | exact Mh | apply Mt)) rfl <| Rm C rfl rfl <| Rx C rfl rfl rfl runUnderlying22 sizeOf46 <| R.loadAggRo C rfl rfl rfl isAgg46 sizeOf46 hrop (hsub i hi') <| R.alloc C rfl rfl zeroValue46 rfl fun p4 => R.store C rfl rfl rfl rfl sizeOf46 rfl rfl rfl (by repeat (first | exact Uh | apply Ut)) (.here (.here .nil)) <| R.done C <| Xr C rfl rfl <| R.loadAgg C rfl rfl rfl isAgg46 sizeOf46 (by repeat (first | exact Mh | apply Mt)) Tk2 <| R.callP C rfl rfl rfl rfl (insideR_c hJ b.cs[i] _ _ _) <| R.not C rfl rfl rfl <| Rm C rfl rfl <| R.fix (t := 43) rfl (fun hg => ?_) (fun hg => ?_)
        · have hg := hg
          have hf : (b.cs[i]).fine = false := by simp at hg; simp [Rc.fine, hg]
          simp [hf] at hr
          refine R.pass C rfl rfl <| R.pass C rfl rfl <| R.pass C rfl rfl <| R.pass C rfl rfl <| R.pass C rfl rfl <| R.pass C rfl rfl <| R.pickT C rfl rfl rfl rfl <| R.done C <| X.cond C.1 rfl (fun _ => ?_) (fun h => nomatch h)
          refine Xr C rfl rfl <| Ad C rfl rfl <| Xt C func25 <| Hp hret ?_
          simp [checkChart, hch, Bk.compassesH, hn', retVal, ← hr]
        · have hg := hg
          have hbd := isReach_bd (x := b.cs[i]) (by simpa using hg)
          refine Rf C 1 rfl rfl runUnderlying46 rfl sizeOf3 <| R.loadOne C rfl rfl rfl isAgg3 (by repeat (first | exact Mh | apply Mt)) rfl <| Rf C 0 rfl rfl runUnderlying46 rfl sizeOf3 <| R.loadOne C rfl rfl rfl isAgg3 (by repeat (first | exact Mh | apply Mt)) rfl <| R.int C rfl rfl rfl rfl (b_sub (by omega) (by omega)) <| R.int C rfl rfl rfl rfl b_geq <| R.pickF C rfl rfl rfl rfl <| R.done C <| X.cond C.1 rfl (fun hd => ?_) (fun hd => ?_)
          · have hd := hd
            have hf : (b.cs[i]).fine = false := by simp at hd; simp [Rc.fine]; intro _; omega
            simp [hf] at hr
            refine Xr C rfl rfl <| Ad C rfl rfl <| Xt C func25 <| Hp hret ?_
            simp [checkChart, hch, Bk.compassesH, hn', retVal, ← hr]
          · have hd := hd
            refine X.skip C.1 <| X.inBlock C.1 <| X.region C rfl rfl <| Rm C rfl rfl <| R.int C rfl rfl rfl rfl (b_add (by omega) (by omega)) <| Ad C rfl rfl ?_
            have hf : (b.cs[i]).fine = true := by simp at hd hg; simp [Rc.fine, hg]; omega
            simp [hf] at hr
            refine X.weak C.1 (Weak.sub (List.sublist_cons_self _ _)) (X.weaken ?_ (hnext (i + 1) ⟨by omega, hr⟩ (by omega)))
            exact ⟨rfl, by simp [look], trivial⟩
      · have hlt := hlt
        simp only [decide_eq_false_iff_not] at hlt
        obtain rfl : i = b.cs.length := by omega
        have hcs : b.compassesH = 0 := by simp [csH] at hr; simp [Bk.compassesH, hn', ← hr]
        have hcc : checkChart b = b.witnessesH := by simp [checkChart, hch, hcs]
        refine X.exit C.1 rfl <| Xs C <| Xr C rfl rfl <| Rf C 4 rfl rfl runUnderlying25 rfl sizeOf23 <| R.loadOne C rfl rfl rfl isAgg23 (by repeat (first | exact Mh | apply Mt)) rfl <| R.lenSlice C rfl rfl rfl runUnderlying23 <| R.int C rfl rfl rfl rfl b_gtr <| R.done C <| X.cond C.1 rfl (fun h5 => ?_) (fun h5 => ?_)
        · have h5 := h5
          refine Xr C rfl rfl <| Ad C rfl rfl <| Xt C func25 <| Hp hret ?_
          simp at h5
          rw [hcc]
          simp [Bk.witnessesH, retVal]; omega
        · have h5 := h5
          simp at h5
          refine X.skip C.1 <| Xs C <| Xr C rfl rfl <| Ad C rfl rfl <| X.block C.1 <| X.loopI (ι := Nat) C.1 (fun i => i ≤ b.ws.length ∧ wtsH b.cs.length (b.ws.drop i) = wtsH b.cs.length b.ws) (fun i => [(1, .pointer (some ⟨p1, 0, none⟩)), (5, .int .i64 (i : Int))])
            (fun _ => ⟨ro, (p1, .cells [.int .i64 b.w, .int .i64 b.h, .int .i64 b.f, .slice b1 b.cs.length c1, .slice b2 b.ws.length c2].toArray 25 (0, 0)) :: tail⟩) (fun i => b.ws.length - i) 0 ⟨Nat.zero_le _, rfl⟩ rfl ⟨rfl, rfl, trivial⟩ fun i hi hnext2 => ?_
          obtain ⟨hi, hr⟩ := hi
          refine Xs C <| Xr C rfl rfl <| Rm C rfl rfl <| Rf C 4 rfl rfl runUnderlying25 rfl sizeOf23 <| R.loadOne C rfl rfl rfl isAgg23 (by repeat (first | exact Mh | apply Mt)) rfl <| R.lenSlice C rfl rfl rfl runUnderlying23 <| R.int C rfl rfl rfl rfl b_lss <| R.done C <| X.cond C.1 rfl (fun hlt2 => ?_) (fun hlt2 => ?_)
          · have hlt2 := hlt2
            simp only [decide_eq_true_eq] at hlt2
            have hi' : i < b.ws.length := by omega
            obtain ⟨p, off, cap, l, t, fq, hsl, hrop, hsub⟩ := hw.at Wt.len (by omega)
            cases hsl
            rw [List.drop_eq_getElem_cons hi'] at hr
            simp only [wtsH] at hr
            refine X.skip C.1 <| Xs C <| X.block C.1 <| Xr C rfl rfl <| Rf C 4 rfl rfl runUnderlying25 rfl sizeOf23 <| R.loadOne C rfl rfl rfl isAgg23 (by repeat (first | exact Mh | apply Mt)) rfl <| Rm C rfl rfl <| Rx C rfl rfl rfl runUnderlying23 sizeOf58 <| R.loadAggRo C rfl rfl rfl isAgg58 sizeOf58 hrop (hsub i hi') <| R.alloc C rfl rfl zeroValue58 rfl fun p6 => R.store C rfl rfl rfl rfl sizeOf58 rfl rfl rfl (by repeat (first | exact Uh | apply Ut)) (.here (.here (.here (.here (.here .nil))))) <| R.done C <| Xs C <| Xr C rfl rfl <| Rf C 0 rfl rfl runUnderlying58 rfl sizeOf27 <| R.loadAgg C rfl rfl rfl isAgg27 sizeOf27 (by repeat (first | exact Mh | apply Mt)) Tk2 <| R.callP C rfl rfl rfl rfl (nearR_c hJ (b.ws[i]).s _) <| R.not C rfl rfl rfl <| Rm C rfl rfl <| R.fix (t := 71) rfl (fun hg2 => ?_) (fun hg2 => ?_)
            · have hg2 := hg2
              refine R.pass C rfl rfl <| R.pass C rfl rfl <| R.pass C rfl rfl <| R.pass C rfl rfl <| R.pickT C rfl rfl rfl rfl <| R.done C <| X.cond C.1 rfl (fun _ => ?_) (fun h => nomatch h)
              refine Xr C rfl rfl <| Ad C rfl rfl <| Xt C func25 <| Hp hret ?_
              simp at hg2
              simp [hg2] at hr
              rw [hcc]
              simp [Bk.witnessesH, retVal, ← hr]; omega
            · have hg2 := hg2
              refine Rf C 2 rfl rfl runUnderlying58 rfl sizeOf3 <| R.loadOne C rfl rfl rfl isAgg3 (by repeat (first | exact Mh | apply Mt)) rfl <| R.callP C rfl rfl rfl rfl (betweenR_c hJ _ _ _ _) <| R.not C rfl rfl rfl <| R.pickF C rfl rfl rfl rfl <| R.done C <| X.cond C.1 rfl (fun hd => ?_) (fun hd => ?_)
              · have hd := hd
                refine Xr C rfl rfl <| Ad C rfl rfl <| Xt C func25 <| Hp hret ?_
                simp at hg2 hd
                simp [hg2, hd] at hr
                rw [hcc]
                simp [Bk.witnessesH, retVal, ← hr]; omega
              · have hd := hd
                refine X.skip C.1 <| Xr C rfl rfl <| R.loadAgg C rfl rfl rfl isAgg25 sizeOf25 (by repeat (first | exact Mh | apply Mt)) Tk5 <| Rf C 3 rfl rfl runUnderlying58 rfl sizeOf3 <| R.loadOne C rfl rfl rfl isAgg3 (by repeat (first | exact Mh | apply Mt)) rfl <| R.callP C rfl rfl rfl rfl (isCompassR_c hJ hvv hs0 _) <| R.not C rfl rfl rfl <| R.done C <| X.cond C.1 rfl (fun hk => ?_) (fun hk => ?_)
                · have hk := hk
                  refine Xr C rfl rfl <| Ad C rfl rfl <| Xt C func25 <| Hp hret ?_
                  simp at hg2 hd hk
                  simp [hg2, hd, there, hk] at hr
                  rw [hcc]
                  simp [Bk.witnessesH, retVal, ← hr]; omega
                · have hk := hk
                  refine X.skip C.1 <| X.inBlock C.1 <| X.region C rfl rfl <| Rm C rfl rfl <| R.int C rfl rfl rfl rfl (b_add (by omega) (by omega)) <| Ad C rfl rfl ?_
                  simp at hg2 hd hk
                  simp [hg2, hd, there, hk] at hr
                  refine X.weak C.1 (Weak.sub (List.sublist_cons_self _ _)) (X.weaken ?_ (hnext2 (i + 1) ⟨by omega, hr⟩ (by omega)))
                  exact ⟨rfl, by simp [look], trivial⟩
          · have hlt2 := hlt2
            simp only [decide_eq_false_iff_not] at hlt2
            obtain rfl : i = b.ws.length := by omega
            simp [wtsH] at hr
            refine X.exit C.1 rfl <| Xr C rfl rfl <| Ad C rfl rfl <| Xt C func25 <| Hp hret ?_
            rw [hcc]
            simp [Bk.witnessesH, retVal, ← hr]; omega
  · have hone : b.chart = 1 := by
      simp only [Bk.chart] at hch ⊢
      split at hch
      · rename_i h; rw [if_pos h]
      · exact absurd rfl hch
    have hcc : checkChart b = 1 := by rw [checkChart, if_pos hch, hone]
    have hany : (!between b.w 2 7 || !between b.h 2 7 || !between b.f 0 2) = true := by
      simp only [Bk.chart] at hch
      split at hch
      · assumption
      · exact absurd rfl hch
    by_cases g1 : between b.w 2 7 = true
    · by_cases g2 : between b.h 2 7 = true
      · have g3 : between b.f 0 2 = false := by simpa [g1, g2] using hany
        refine CallP.intro hJ (by kernel_rfl) fun c cs tail hret => enter_X (n := 82) func25 rfl rfl (Nl rfl) ?_
        have C : Ctx prog main J (bf 25 .normal) := ⟨hJ, by decide⟩
        refine Xr C rfl rfl <| R.box C rfl rfl rfl rfl fun p1 => Ad C rfl rfl <| Xs C <| Xr C rfl rfl <| Rf C 0 rfl rfl runUnderlying25 rfl sizeOf3 <| R.loadOne C rfl rfl rfl isAgg3 (by repeat (first | exact Mh | apply Mt)) rfl <| R.callP C rfl rfl rfl rfl (betweenR_c hJ _ _ _ _) <| R.not C rfl rfl rfl <| R.fixv (t := 10) (v' := .bool false) rfl (by (rw [g1]; rfl)) <| Rm C rfl rfl <| Rf C 1 rfl rfl runUnderlying25 rfl sizeOf3 <| R.loadOne C rfl rfl rfl isAgg3 (by repeat (first | exact Mh | apply Mt)) rfl <| R.callP C rfl rfl rfl rfl (betweenR_c hJ _ _ _ _) <| R.not C rfl rfl rfl <| R.fixv (t := 15) (v' := .bool false) rfl (by (rw [g2]; rfl)) <| R.pickF C rfl rfl rfl rfl <| Rm C rfl rfl <| Rf C 2 rfl rfl runUnderlying25 rfl sizeOf3 <| R.loadOne C rfl rfl rfl isAgg3 (by repeat (first | exact Mh | apply Mt)) rfl <| R.callP C rfl rfl rfl rfl (betweenR_c hJ _ _ _ _) <| R.not C rfl rfl rfl <| R.fixv (t := 21) (v' := .bool true) rfl (by (rw [g3]; rfl)) <| R.pickF C rfl rfl rfl rfl <| R.done C <| X.cond C.1 rfl (fun _ => ?_) (fun h => nomatch h)
        refine Xr C rfl rfl <| Ad C rfl rfl <| Xt C func25 <| Hp hret ?_
        rw [hcc]; rfl
      · have g2 : between b.h 2 7 = false := by simpa using g2
        refine CallP.intro hJ (by kernel_rfl) fun c cs tail hret => enter_X (n := 82) func25 rfl rfl (Nl rfl) ?_
        have C : Ctx prog main J (bf 25 .normal) := ⟨hJ, by decide⟩
        refine Xr C rfl rfl <| R.box C rfl rfl rfl rfl fun p1 => Ad C rfl rfl <| Xs C <| Xr C rfl rfl <| Rf C 0 rfl rfl runUnderlying25 rfl sizeOf3 <| R.loadOne C rfl rfl rfl isAgg3 (by repeat (first | exact Mh | apply Mt)) rfl <| R.callP C rfl rfl rfl rfl (betweenR_c hJ _ _ _ _) <| R.not C rfl rfl rfl <| R.fixv (t := 10) (v' := .bool false) rfl (by (rw [g1]; rfl)) <| Rm C rfl rfl <| Rf C 1 rfl rfl runUnderlying25 rfl sizeOf3 <| R.loadOne C rfl rfl rfl isAgg3 (by repeat (first | exact Mh | apply Mt)) rfl <| R.callP C rfl rfl rfl rfl (betweenR_c hJ _ _ _ _) <| R.not C rfl rfl rfl <| R.fixv (t := 15) (v' := .bool true) rfl (by (rw [g2]; rfl)) <| R.pickF C rfl rfl rfl rfl <| Rm C rfl rfl <| R.pass C rfl rfl <| R.pass C rfl rfl <| R.pass C rfl rfl <| R.pass C rfl rfl <| R.pickT C rfl rfl rfl rfl <| R.done C <| X.cond C.1 rfl (fun _ => ?_) (fun h => nomatch h)
        refine Xr C rfl rfl <| Ad C rfl rfl <| Xt C func25 <| Hp hret ?_
        rw [hcc]; rfl
    · have g1 : between b.w 2 7 = false := by simpa using g1
      refine CallP.intro hJ (by kernel_rfl) fun c cs tail hret => enter_X (n := 82) func25 rfl rfl (Nl rfl) ?_
      have C : Ctx prog main J (bf 25 .normal) := ⟨hJ, by decide⟩
      refine Xr C rfl rfl <| R.box C rfl rfl rfl rfl fun p1 => Ad C rfl rfl <| Xs C <| Xr C rfl rfl <| Rf C 0 rfl rfl runUnderlying25 rfl sizeOf3 <| R.loadOne C rfl rfl rfl isAgg3 (by repeat (first | exact Mh | apply Mt)) rfl <| R.callP C rfl rfl rfl rfl (betweenR_c hJ _ _ _ _) <| R.not C rfl rfl rfl <| R.fixv (t := 10) (v' := .bool true) rfl (by (rw [g1]; rfl)) <| Rm C rfl rfl <| R.pass C rfl rfl <| R.pass C rfl rfl <| R.pass C rfl rfl <| R.pass C rfl rfl <| R.pickT C rfl rfl rfl rfl <| Rm C rfl rfl <| R.pass C rfl rfl <| R.pass C rfl rfl <| R.pass C rfl rfl <| R.pass C rfl rfl <| R.pickT C rfl rfl rfl rfl <| R.done C <| X.cond C.1 rfl (fun _ => ?_) (fun h => nomatch h)
      refine Xr C rfl rfl <| Ad C rfl rfl <| Xt C func25 <| Hp hret ?_
      rw [hcc]; rfl
end
end Go.Lg.B
namespace Go.Lg.B
open Go Go.Conc Go.Lg Go.Proofs Go.Proofs.Tryz
def ext (most : Int) (i : Nat) (l : List (List Int)) : List (List Int) := (l.filter fun x => decide ((x.length : Int) < most)).map fun x => x ++ [(i : Int)]
def sets (most : Int) : Nat → List (List Int)
  | 0 => [[]]
  | i + 1 => sets most i ++ ext most i (sets most i)
theorem sets_each (most : Int) : ∀ n, ∀ l ∈ sets most n, l.length ≤ n
  | 0, l, h => by simp [sets] at h; simp [h]
  | n + 1, l, h => by
    rcases List.mem_append.1 h with h | h
    · have := sets_each most n l h; omega
    · obtain ⟨x, hx, rfl⟩ := List.mem_map.1 h
      have := sets_each most n x (List.mem_filter.1 hx).1
      simp; omega
abbrev LE := Value × List Int
def le (p : LE) : List Value := [p.1]
section
variable {main : Bool} {J : Goroutine → Mem → Prop} (hJ : Closed prog main J)
include hJ
end
end Go.Lg.B
namespace Go.Lg.B
open Go Go.Conc Go.Lg Go.Proofs Go.Proofs.Tryz
def sqAt (w : Int) (n : Nat) : Sq := ⟨(n : Int) % w, (n : Int) / w⟩
def squares (b : Bk) : List Sq := (List.range (b.w * b.h).toNat).map (sqAt b.w)
section
variable {main : Bool} {J : Goroutine → Mem → Prop} (hJ : Closed prog main J)
include hJ
end
end Go.Lg.B
namespace Go.Lg.B
open Go Go.Conc Go.Lg Go.Proofs Go.Proofs.Tryz
def wideRc (x : Rc) : Nat := (x.hi + 1 - x.lo).toNat
def offsStep (x : Rc) (l : List (List Int)) : List (List Int) := l.flatMap fun o => (rz x.lo (wideRc x)).map fun n => o ++ [n]
def offsAll (l : List Rc) : List (List Int) := l.foldl (fun a x => offsStep x a) [[]]
section
variable {main : Bool} {J : Goroutine → Mem → Prop} (hJ : Closed prog main J)
include hJ
end
end Go.Lg.B
namespace Go.Lg.B
open Go Go.Conc Go.Lg Go.Proofs Go.Proofs.Tryz
abbrev CE := (Value × Value) × Cs
def ce (p : CE) : List Value := [.int .i64 p.2.s.e, .int .i64 p.2.s.n, p.1.1, p.1.2]
def LC (ro : RO) (v : Value) (l : List Cs) : Prop := ∃ xs : List CE, Ls ce 4 ro v xs ∧ xs.map (·.2) = l ∧ ∀ p ∈ xs, LsI ro p.1.1 p.2.o ∧ LsI ro p.1.2 p.2.f
def allR (b : Bk) (c : Cs) : Bool := (List.range b.ws.length).all fun i => c.f.contains (i : Int) || right (b.wt i) c.aim
def withAt (b : Bk) (l : List Int) (s : Sq) (os : List (List Int)) : List Cs := (os.filter fun o => allR b ⟨s, o, l⟩).map fun o => ⟨s, o, l⟩
def withFalse (b : Bk) (l : List Int) : List Cs := (squares b).flatMap fun s => withAt b l s (offsAll b.cs)
theorem squares_len {b : Bk} (hb : b.good) : (squares b).length ≤ 49 := by
  have hw := hb.w
  have hh := hb.h
  have h49 : b.w * b.h ≤ 49 := by
    have : b.w * b.h ≤ 7 * 7 := Int.mul_le_mul hw.2 hh.2 (by omega) (by decide)
    omega
  simp [squares]; omega
section
variable {main : Bool} {J : Goroutine → Mem → Prop} (hJ : Closed prog main J)
include hJ
end
end Go.Lg.B
namespace Go.Lg.B
open Go Go.Conc Go.Lg Go.Proofs Go.Proofs.Tryz
def noSure (b : Bk) (l : List Int) : Bool := !(l.any fun k => (b.wt k.toNat).sure)
def casesL (b : Bk) : List Cs := ((sets b.f b.ws.length).filter (noSure b)).flatMap (withFalse b)
theorem LC.mono {ro ro' : RO} {v : Value} {l : List Cs} (h : LC ro v l) (hl : ro.le ro') : LC ro' v l := by
  obtain ⟨xs, h1, h2, h3⟩ := h
  exact ⟨xs, h1.mono hl, h2, fun p hp => ⟨(h3 p hp).1.mono hl, (h3 p hp).2.mono hl⟩⟩
def knownH (b : Bk) (there : Bool) : Int := if checkChart b ≠ 0 then checkChart b else if there = false then 6 else if casesL b = [] then 9 else 0
section
variable {main : Bool} {J : Goroutine → Mem → Prop} (hJ : Closed prog main J)
include hJ
end
end Go.Lg.B
namespace Go.Lg.B
open Go Go.Conc Go.Lg Go.Proofs Go.Proofs.Tryz
theorem flatMap_two {α β : Type} (g h : α → List β) : ∀ l : List α, (l.flatMap g ++ l.flatMap h).Perm (l.flatMap fun x => g x ++ h x)
  | [] => .refl _
  | x :: l => by
    have ih := flatMap_two g h l
    simp only [List.flatMap_cons]
    have e1 : (g x ++ l.flatMap g ++ (h x ++ l.flatMap h)).Perm (g x ++ (h x ++ (l.flatMap g ++ l.flatMap h))) := by
      rw [List.append_assoc]
      refine List.Perm.append_left _ ?_
      rw [← List.append_assoc, ← List.append_assoc]
      exact List.Perm.append_right _ List.perm_append_comm
    refine e1.trans ?_
    rw [List.append_assoc (g x) (h x)]
    exact List.Perm.append_left _ (List.Perm.append_left _ ih)
theorem flatMap_swap {α β γ : Type} (f : α → β → List γ) (m : List β) : ∀ l : List α, (l.flatMap fun x => m.flatMap fun y => f x y).Perm (m.flatMap fun y => l.flatMap fun x => f x y)
  | [] => by
    have : (m.flatMap fun y => ([] : List α).flatMap fun x => f x y) = [] := by simp
    rw [this]; exact .refl _
  | x :: l => by
    simp only [List.flatMap_cons]
    exact (List.Perm.append_left _ (flatMap_swap f m l)).trans (flatMap_two _ _ m)
theorem filter_as_flat {α β : Type} (p : α → Bool) (f : α → β) : ∀ l : List α, (l.filter p).map f = l.flatMap fun x => if p x = true then [f x] else []
  | [] => rfl
  | x :: l => by
    have ih := filter_as_flat p f l
    by_cases h : p x = true
    · simp [h, ih]
    · simp [h, ih]
theorem flat_filter {α β : Type} (p : α → Bool) (f : α → List β) : ∀ l : List α, (l.filter p).flatMap f = l.flatMap fun x => if p x = true then f x else []
  | [] => rfl
  | x :: l => by
    have ih := flat_filter p f l
    by_cases h : p x = true
    · simp [h, ih]
    · simp [h, ih]
theorem flat_congr {α β : Type} {f g : α → List β} : ∀ {l : List α}, (∀ x ∈ l, f x = g x) → l.flatMap f = l.flatMap g
  | [], _ => rfl
  | x :: l, h => by simp only [List.flatMap_cons, h x List.mem_cons_self, flat_congr fun y hy => h y (List.mem_cons_of_mem _ hy)]
theorem perm_flat {α β : Type} (f : α → List β) {l m : List α} (h : l.Perm m) : (l.flatMap f).Perm (m.flatMap f) := by
  induction h with
  | nil => exact .refl _
  | cons x _ ih => simp only [List.flatMap_cons]; exact List.Perm.append_left _ ih
  | swap x y l =>
    simp only [List.flatMap_cons, ← List.append_assoc]
    exact List.Perm.append_right _ List.perm_append_comm
  | trans _ _ h1 h2 => exact h1.trans h2
theorem sets_iff {most : Int} (hm : 0 ≤ most) : ∀ (n : Nat) (l : List Int), l ∈ sets most n ↔ List.Pairwise (· < ·) l ∧ (∀ k ∈ l, 0 ≤ k ∧ k < (n : Int)) ∧ (l.length : Int) ≤ most
  | 0, l => by
    simp only [sets, List.mem_singleton]
    constructor
    · rintro rfl; simp [hm]
    · rintro ⟨_, h2, _⟩
      cases l with
      | nil => rfl
      | cons x l => have := h2 x List.mem_cons_self; omega
  | n + 1, l => by
    simp only [sets, List.mem_append, ext, List.mem_map, List.mem_filter, decide_eq_true_eq]
    constructor
    · rintro (h | ⟨x, ⟨hx, hlt⟩, rfl⟩)
      · obtain ⟨h1, h2, h3⟩ := (sets_iff hm n l).1 h
        exact ⟨h1, fun k hk => by have := h2 k hk; omega, h3⟩
      · obtain ⟨h1, h2, h3⟩ := (sets_iff hm n x).1 hx
        refine ⟨List.pairwise_append.2 ⟨h1, List.pairwise_singleton _ _, fun a ha c hc => ?_⟩, fun k hk => ?_, ?_⟩
        · rw [List.mem_singleton.1 hc]; exact (h2 a ha).2
        · rcases List.mem_append.1 hk with hk | hk
          · have := h2 k hk; omega
          · rw [List.mem_singleton.1 hk]; omega
        · simp; omega
    · rintro ⟨h1, h2, h3⟩
      rcases List.eq_nil_or_concat l with rfl | ⟨x, k, rfl⟩
      · exact .inl ((sets_iff hm n []).2 ⟨.nil, by simp, by simpa using hm⟩)
      · rw [List.concat_eq_append] at h1 h2 h3 ⊢
        obtain ⟨p1, _, p3⟩ := List.pairwise_append.1 h1
        have hk := h2 k (by simp)
        have hx : ∀ a ∈ x, a < k := fun a ha => p3 a ha k (by simp)
        simp only [List.length_append, List.length_cons, List.length_nil] at h3
        by_cases e : k = n
        · subst e
          exact .inr ⟨x, ⟨(sets_iff hm n x).2 ⟨p1, fun a ha => ⟨(h2 a (by simp [ha])).1, hx a ha⟩, by omega⟩, by omega⟩, rfl⟩
        · refine .inl ((sets_iff hm n _).2 ⟨h1, fun a ha => ⟨(h2 a ha).1, ?_⟩, by simp; omega⟩)
          rcases List.mem_append.1 ha with ha | ha
          · have := hx a ha; omega
          · rw [List.mem_singleton.1 ha]; omega
theorem sets_nodup {most : Int} (hm : 0 ≤ most) : ∀ n, (sets most n).Nodup
  | 0 => by simp [sets]
  | n + 1 => by
    have ih := sets_nodup hm n
    refine List.nodup_append.2 ⟨ih, ?_, fun a ha c hc => ?_⟩
    · unfold ext
      refine List.pairwise_map.2 ((ih.filter _).imp fun h e => h (List.append_cancel_right e))
    · obtain ⟨x, _, rfl⟩ := List.mem_map.1 hc
      rintro rfl
      have := ((sets_iff hm n _).1 ha).2.1 (n : Int) (by simp)
      omega
def maskL (n : Nat) (l : List Int) : Nat := maskOf (fun i => l.contains (i : Int)) n
theorem maskL_bit {n : Nat} {l : List Int} (h : ∀ k ∈ l, 0 ≤ k ∧ k < (n : Int)) (i : Nat) : (maskL n l).testBit i = l.contains (i : Int) := by
  rw [maskL, maskOf_bit]
  by_cases hi : i < n
  · simp [hi]
  · have : l.contains (i : Int) = false := by
      rw [Bool.eq_false_iff]; intro hc
      have := h _ (by simpa using hc); omega
    rw [this]; simp
def okM (b : Bk) (m : Nat) : Bool := m &&& sureM b == 0 && decide (((listOf m).length : Int) ≤ b.f)
theorem ups_nodup : ∀ (m n : Nat), (ups n m).Nodup
  | 0, _ => by simp [ups]
  | m + 1, n => by
    simp only [ups, List.nodup_cons]
    exact ⟨fun h => by rw [ups_iff] at h; omega, ups_nodup m (n + 1)⟩
theorem listOf_maskL {n : Nat} (hn : n ≤ 5) {l : List Int} (h1 : List.Pairwise (· < ·) l) (h2 : ∀ k ∈ l, 0 ≤ k ∧ k < (n : Int)) : listOf (maskL n l) = l :=
  listOf_eq h1 (fun k hk => by have := h2 k hk; omega) (maskL_bit h2)
theorem noSure_mask {b : Bk} {l : List Int} (h : ∀ k ∈ l, 0 ≤ k ∧ k < (b.ws.length : Int)) : (maskL b.ws.length l &&& sureM b == 0) = noSure b l := by
  rw [Bool.eq_iff_iff, and_zero]
  simp only [maskL_bit h, sureM, maskOf_bit, noSure, Bool.not_eq_true', List.any_eq_false, Bool.not_eq_true]
  constructor
  · intro hh k hk
    obtain ⟨g1, g2⟩ := h k hk
    have := hh k.toNat (by rw [show ((k.toNat : Nat) : Int) = k by omega]; simpa using hk)
    rwa [decide_eq_true (by omega), Bool.true_and] at this
  · intro hh i hi
    have hm : (i : Int) ∈ l := by simpa using hi
    have := hh _ hm
    rw [show ((i : Int)).toNat = i by omega] at this
    rw [this]; simp
theorem masks_perm {b : Bk} (hb : b.good) : ((ups 0 (2 ^ b.ws.length)).filter (okM b)).Perm (((sets b.f b.ws.length).filter (noSure b)).map (maskL b.ws.length)) := by
  have hf := hb.f
  have hn := hb.nw
  refine (List.perm_ext_iff_of_nodup ((ups_nodup _ _).filter _) ?_).2 fun m => ?_
  · refine List.pairwise_map.2 (List.Pairwise.imp_of_mem (fun {a c} ha hc hne e => hne ?_) ((sets_nodup hf.1 b.ws.length).filter (noSure b)))
    obtain ⟨a1, a2, _⟩ := (sets_iff hf.1 _ _).1 (List.mem_filter.1 ha).1
    obtain ⟨c1, c2, _⟩ := (sets_iff hf.1 _ _).1 (List.mem_filter.1 hc).1
    rw [← listOf_maskL hn a1 a2, e, listOf_maskL hn c1 c2]
  · simp only [List.mem_filter, List.mem_map, ups_iff, okM, Bool.and_eq_true, decide_eq_true_eq]
    constructor
    · rintro ⟨⟨_, h1⟩, h2, h3⟩
      have hr : ∀ k ∈ listOf m, 0 ≤ k ∧ k < (b.ws.length : Int) := fun k hk => by
        obtain ⟨i, _, hi, rfl⟩ := (bits_mem m k 5).1 hk
        refine ⟨by omega, ?_⟩
        by_cases hlt : i < b.ws.length
        · omega
        · have : m.testBit i = false := Nat.testBit_lt_two_pow (Nat.lt_of_lt_of_le (by simpa using h1) (Nat.pow_le_pow_right (by decide) (by omega)))
          rw [this] at hi; cases hi
      have hm : maskL b.ws.length (listOf m) = m := by
        refine Nat.eq_of_testBit_eq fun i => ?_
        rw [maskL_bit hr, Bool.eq_iff_iff]
        simp only [List.contains_eq_mem, decide_eq_true_eq]
        constructor
        · intro h
          obtain ⟨j, _, hj, e⟩ := (bits_mem m _ 5).1 h
          have : i = j := by omega
          rw [this]; exact hj
        · intro h
          refine (bits_mem m _ 5).2 ⟨i, ?_, h, rfl⟩
          by_cases hlt : i < 5
          · exact hlt
          · have : m.testBit i = false := Nat.testBit_lt_two_pow (Nat.lt_of_lt_of_le (by simpa using h1) (Nat.pow_le_pow_right (by decide) (by omega)))
            rw [this] at h; cases h
      refine ⟨listOf m, ⟨(sets_iff hf.1 _ _).2 ⟨bits_up m 5, hr, h3⟩, ?_⟩, hm⟩
      rw [← noSure_mask hr, hm]; exact h2
    · rintro ⟨l, ⟨h1, h2⟩, rfl⟩
      obtain ⟨a1, a2, a3⟩ := (sets_iff hf.1 _ _).1 h1
      refine ⟨⟨Nat.zero_le _, by simpa [maskL] using maskOf_lt _ _⟩, by rw [noSure_mask a2]; exact h2, by rw [listOf_maskL hn a1 a2]; exact a3⟩
theorem aims_eq {b : Bk} (hb : b.good) : aims b = (squares b).flatMap fun s => (offsAll b.cs).map fun o => Cs.aim ⟨s, o, []⟩ := by
  have hnc := hb.nc
  have hu : ∀ m, ups 0 m = List.range m := by
    have key : ∀ m n, ups n m = (List.range m).map (· + n) := by
      intro m
      induction m with
      | zero => intro n; rfl
      | succ m ih =>
        intro n
        rw [ups, ih, List.range_succ_eq_map, List.map_cons, List.map_map]
        simp only [Nat.zero_add, List.cons.injEq, true_and]
        refine List.map_congr_left fun x _ => ?_
        simp only [Function.comp]; omega
    intro m; rw [key]; simp
  obtain ⟨w, h, f, cs, ws⟩ := b
  unfold aims squares
  rw [hu, List.flatMap_map]
  refine flat_congr fun n _ => ?_
  have s0 : ∀ (a : Aim) (n : Int), a.set ((0 : Nat) : Int) n = { a with x := n } := fun _ _ => rfl
  have s1 : ∀ (a : Aim) (n : Int), a.set ((0 + 1 : Nat) : Int) n = { a with y := n } := fun _ _ => rfl
  have s2 : ∀ (a : Aim) (n : Int), a.set ((0 + 1 + 1 : Nat) : Int) n = { a with z := n } := fun _ _ => rfl
  simp only at hnc ⊢
  match cs, hnc with
  | [x], _ => simp [offs, offsAll, offsStep, s0, aimAt, Cs.aim, sqAt, wideRc, List.map_eq_flatMap, List.flatMap_assoc]; rfl
  | [x, y], _ => simp [offs, offsAll, offsStep, s0, s1, aimAt, Cs.aim, sqAt, wideRc, List.map_eq_flatMap, List.flatMap_assoc]; rfl
  | [x, y, z], _ => simp [offs, offsAll, offsStep, s0, s1, s2, aimAt, Cs.aim, sqAt, wideRc, List.map_eq_flatMap, List.flatMap_assoc]; rfl
def lotOf (b : Bk) (c : Cs) : Lot := ⟨c.aim, maskL b.ws.length c.f⟩
theorem okA_mask {b : Bk} {l : List Int} (h : ∀ k ∈ l, 0 ≤ k ∧ k < (b.ws.length : Int)) (s : Sq) (o : List Int) : (andNot (odd b (Cs.aim ⟨s, o, l⟩)) (maskL b.ws.length l) == 0) = allR b ⟨s, o, l⟩ := by
  rw [Bool.eq_iff_iff, andNot_zero]
  simp only [odd, maskOf_bit, maskL_bit h, Bool.and_eq_true, decide_eq_true_eq, allR, List.all_eq_true, List.mem_range, Bool.or_eq_true, Bool.not_eq_true']
  constructor
  · intro hh i hi
    cases hr : right (b.wt i) (Cs.aim ⟨s, o, l⟩)
    · exact .inl (hh i ⟨hi, hr⟩)
    · exact .inr rfl
  · rintro hh i ⟨hi, hr⟩
    rcases hh i hi with h1 | h1
    · exact h1
    · rw [hr] at h1; cases h1
theorem cases_perm {b : Bk} (hb : b.good) : ((casesL b).map (lotOf b)).Perm (cases b) := by
  have e1 : cases b = (aims b).flatMap fun a => (ups 0 (2 ^ b.ws.length)).flatMap fun m => if okMask b a m = true then [⟨a, m⟩] else [] := by
    unfold cases lots
    refine flat_congr fun a _ => ?_
    exact filter_as_flat _ _ _
  rw [e1]
  refine List.Perm.trans ?_ (flatMap_swap (fun a m => if okMask b a m = true then [(⟨a, m⟩ : Lot)] else []) (ups 0 (2 ^ b.ws.length)) (aims b)).symm
  have e2 : ((ups 0 (2 ^ b.ws.length)).flatMap fun m => (aims b).flatMap fun a => if okMask b a m = true then [(⟨a, m⟩ : Lot)] else []) = ((ups 0 (2 ^ b.ws.length)).filter (okM b)).flatMap fun m => (aims b).flatMap fun a => if (andNot (odd b a) m == 0) = true then [(⟨a, m⟩ : Lot)] else [] := by
    rw [flat_filter]
    refine flat_congr fun m _ => ?_
    by_cases h : okM b m = true
    · rw [if_pos h]
      refine flat_congr fun a _ => ?_
      have : okMask b a m = (andNot (odd b a) m == 0) := by
        have h' : (m &&& sureM b == 0 && decide (((listOf m).length : Int) ≤ b.f)) = true := h
        rw [okMask, h', Bool.and_true]
      rw [this]
    · rw [if_neg h]
      have : ∀ a, okMask b a m = false := fun a => by
        have h' : (m &&& sureM b == 0 && decide (((listOf m).length : Int) ≤ b.f)) = false := by simpa [okM] using h
        rw [okMask, h', Bool.and_false]
      simp [this]
  rw [e2]
  refine List.Perm.trans ?_ (perm_flat _ (masks_perm hb)).symm
  rw [List.flatMap_map, casesL, List.map_flatMap]
  refine List.Perm.of_eq (flat_congr fun l hl => ?_)
  obtain ⟨_, a2, _⟩ := (sets_iff hb.f.1 _ _).1 (List.mem_filter.1 hl).1
  rw [aims_eq hb, List.flatMap_assoc, withFalse, List.map_flatMap]
  refine flat_congr fun s _ => ?_
  rw [withAt, List.map_map, filter_as_flat, List.flatMap_map]
  refine flat_congr fun o _ => ?_
  have e3 : Cs.aim ⟨s, o, []⟩ = Cs.aim ⟨s, o, l⟩ := rfl
  rw [e3, okA_mask a2]
  rfl
end Go.Lg.B
namespace Go.Lg.B
open Go Go.Conc Go.Lg Go.Proofs Go.Proofs.Tryz
def wheresR (b : Bk) : List Sq := if knownH b true ≠ 0 then [] else (squares b).filter fun s => (casesL b).any fun c => decide (c.s = s)
theorem known_good {b : Bk} {th : Bool} (h : knownH b th = 0) : b.good ∧ th = true ∧ casesL b ≠ [] := by
  unfold knownH at h
  by_cases h1 : checkChart b ≠ 0
  · rw [if_pos h1] at h; exact absurd h h1
  · rw [if_neg h1] at h
    by_cases h2 : th = false
    · rw [if_pos h2] at h; cases h
    · rw [if_neg h2] at h
      by_cases h3 : casesL b = []
      · rw [if_pos h3] at h; cases h
      · exact ⟨good_iff.1 (by simpa using h1), by simpa using h2, h3⟩
section
variable {main : Bool} {J : Goroutine → Mem → Prop} (hJ : Closed prog main J)
include hJ
end
section
variable {main : Bool} {J : Goroutine → Mem → Prop} (hJ : Closed prog main J)
include hJ
end
end Go.Lg.B
namespace Go.Lg.B
open Go Go.Conc Go.Lg Go.Proofs Go.Proofs.Tryz
theorem cases_len_eq {b : Bk} (hb : b.good) : (casesL b).length = (cases b).length := by
  have := (cases_perm hb).length_eq
  rwa [List.length_map] at this
theorem cases_nil_iff {b : Bk} (hb : b.good) : casesL b = [] ↔ cases b = [] := by
  have := cases_len_eq hb
  constructor
  · intro h; rw [h] at this; exact List.eq_nil_of_length_eq_zero this.symm
  · intro h; rw [h] at this; exact List.eq_nil_of_length_eq_zero this
theorem known_open (b : Bk) (th : Bool) : knownH b th = openH b (there th) := by
  unfold knownH openH
  by_cases h1 : checkChart b ≠ 0
  · rw [if_pos h1, if_pos h1]
  · rw [if_neg h1, if_neg h1]
    have hg := good_iff.1 (show checkChart b = 0 by simpa using h1)
    cases th
    · rfl
    · simp only [there, if_true]
      by_cases h : cases b = []
      · simp [h, (cases_nil_iff hg).2 h]
      · simp [h, mt (cases_nil_iff hg).1 h]
theorem known_open0 (b : Bk) : knownH b true = openH b 0 := known_open b true
theorem addNew_block (s : Sq) : ∀ (l acc : List Sq), (∀ x ∈ l, x = s) → s ∈ acc → l.foldl addNew acc = acc
  | [], _, _, _ => rfl
  | x :: l, acc, h, hs => by
    have hx := h x List.mem_cons_self
    subst hx
    rw [List.foldl_cons, addNew, if_pos hs]
    exact addNew_block x l acc (fun y hy => h y (List.mem_cons_of_mem _ hy)) hs
theorem firsts_blocks (g : Sq → List Sq) : ∀ (S acc : List Sq), S.Nodup → (∀ s ∈ S, s ∉ acc) → (∀ s ∈ S, ∀ x ∈ g s, x = s) → (S.flatMap g).foldl addNew acc = acc ++ S.filter fun s => !(g s).isEmpty
  | [], acc, _, _, _ => by simp
  | s :: S, acc, hn, hd, hg => by
    rw [List.flatMap_cons, List.foldl_append]
    obtain ⟨n1, n2⟩ := List.nodup_cons.1 hn
    have hgs := hg s List.mem_cons_self
    cases hc : g s with
    | nil =>
      rw [List.foldl_nil, firsts_blocks g S acc n2 (fun x hx => hd x (List.mem_cons_of_mem _ hx)) (fun x hx => hg x (List.mem_cons_of_mem _ hx))]
      simp [hc]
    | cons y l =>
      rw [hc] at hgs
      have hy := hgs y List.mem_cons_self
      subst hy
      rw [List.foldl_cons, addNew, if_neg (hd y List.mem_cons_self), addNew_block y l (acc ++ [y]) (fun x hx => hgs x (List.mem_cons_of_mem _ hx)) (by simp),
        firsts_blocks g S (acc ++ [y]) n2 (fun x hx => ?_) (fun x hx => hg x (List.mem_cons_of_mem _ hx))]
      · simp [hc]
      · intro h
        rcases List.mem_append.1 h with h | h
        · exact hd x (List.mem_cons_of_mem _ hx) h
        · rw [List.mem_singleton.1 h] at hx; exact n1 hx
theorem squares_nodup {b : Bk} (hb : b.good) : (squares b).Nodup := by
  have hw := hb.w
  unfold squares
  refine List.pairwise_map.2 (List.nodup_range.imp fun {n m} hne e => hne ?_)
  simp only [sqAt, Sq.mk.injEq] at e
  have h1 := Int.emod_add_mul_ediv (n : Int) b.w
  have h2 := Int.emod_add_mul_ediv (m : Int) b.w
  rw [e.1, e.2] at h1
  omega
theorem where_law (b : Bk) : wheres b = wheresR b := by
  unfold wheres wheresR
  rw [known_open0]
  by_cases h0 : openH b 0 ≠ 0
  · rw [if_pos h0, if_pos h0]
  · rw [if_neg h0, if_neg h0]
    have hg := (openH_good (show openH b 0 = 0 by simpa using h0)).1
    have e : (cases b).map (fun c => c.a.s) = (squares b).flatMap fun s => ((offsAll b.cs).map fun o => Cs.aim ⟨s, o, []⟩).flatMap fun a => (lots b a 0 (2 ^ b.ws.length)).map fun c => c.a.s := by
      unfold cases
      rw [aims_eq hg, List.flatMap_assoc, List.map_flatMap]
      refine flat_congr fun s _ => ?_
      rw [List.map_flatMap]
    rw [e]
    unfold firsts
    rw [firsts_blocks _ _ _ (squares_nodup hg) (fun s _ => by simp), List.nil_append]
    · refine List.filter_congr fun s hs => ?_
      rw [Bool.eq_iff_iff, Bool.not_eq_true', List.any_eq_true]
      have hmem : (∃ c ∈ casesL b, c.s = s) ↔ ∃ c ∈ cases b, c.a.s = s := by
        constructor
        · rintro ⟨c, hc, rfl⟩
          exact ⟨lotOf b c, (cases_perm hg).mem_iff.1 (List.mem_map_of_mem hc), rfl⟩
        · rintro ⟨c, hc, rfl⟩
          obtain ⟨c', hc', rfl⟩ := List.mem_map.1 ((cases_perm hg).mem_iff.2 hc)
          exact ⟨c', hc', rfl⟩
      simp only [decide_eq_true_eq]
      rw [hmem, List.isEmpty_eq_false_iff_exists_mem]
      constructor
      · rintro ⟨x, hx⟩
        obtain ⟨a, ha, hx⟩ := List.mem_flatMap.1 hx
        obtain ⟨o, ho, rfl⟩ := List.mem_map.1 ha
        obtain ⟨c, hc, rfl⟩ := List.mem_map.1 hx
        have hca : c.a = Cs.aim ⟨s, o, []⟩ := by
          obtain ⟨k, _, rfl⟩ := List.mem_map.1 hc; rfl
        refine ⟨c, ?_, by rw [hca]; rfl⟩
        unfold cases
        refine List.mem_flatMap.2 ⟨Cs.aim ⟨s, o, []⟩, ?_, hc⟩
        rw [aims_eq hg]
        exact List.mem_flatMap.2 ⟨s, hs, List.mem_map.2 ⟨o, ho, rfl⟩⟩
      · rintro ⟨c, hc, rfl⟩
        unfold cases at hc
        obtain ⟨a, ha, hca⟩ := List.mem_flatMap.1 hc
        have hce : c.a = a := by
          obtain ⟨k, _, rfl⟩ := List.mem_map.1 hca; rfl
        rw [aims_eq hg] at ha
        obtain ⟨s', hs', ha⟩ := List.mem_flatMap.1 ha
        obtain ⟨o, ho, rfl⟩ := List.mem_map.1 ha
        have hss : c.a.s = s' := by rw [hce]; rfl
        refine ⟨c.a.s, List.mem_flatMap.2 ⟨Cs.aim ⟨c.a.s, o, []⟩, List.mem_map.2 ⟨o, ho, rfl⟩, List.mem_map.2 ⟨c, ?_, rfl⟩⟩⟩
        rw [hss]; exact hca
    · intro s _ x hx
      obtain ⟨a, ha, hx⟩ := List.mem_flatMap.1 hx
      obtain ⟨o, _, rfl⟩ := List.mem_map.1 ha
      obtain ⟨c, hc, rfl⟩ := List.mem_map.1 hx
      obtain ⟨k, _, rfl⟩ := List.mem_map.1 hc
      rfl
end Go.Lg.B
namespace Go.Lg.B
open Go Go.Conc Go.Lg Go.Proofs Go.Proofs.Tryz
theorem getD_at {α : Type} {l : List α} {i : Nat} {d : α} (h : i < l.length) : l.getD i d = l[i] := by simp [h]
def soundP (b : Bk) (l : List Int) : Bool := !(withFalse b l).isEmpty
theorem andNot_bit (a c i : Nat) : (andNot a c).testBit i = (a.testBit i && !c.testBit i) := by
  simp only [andNot, Nat.testBit_xor, Nat.testBit_and]
  cases a.testBit i <;> cases c.testBit i <;> rfl
theorem everybody_bit (b : Bk) (i : Nat) : (everybody b).testBit i = decide (i < b.ws.length) := by
  rw [everybody, Nat.testBit_two_pow_sub_one]
theorem soundP_iff {b : Bk} {l : List Int} : soundP b l = true ↔ ∃ s ∈ squares b, ∃ o ∈ offsAll b.cs, ∀ i, i < b.ws.length → l.contains (i : Int) = false → right (b.wt i) (Cs.aim ⟨s, o, []⟩) = true := by
  unfold soundP withFalse withAt
  rw [Bool.not_eq_true', List.isEmpty_eq_false_iff_exists_mem]
  simp only [List.mem_flatMap, List.mem_map, List.mem_filter]
  have e : ∀ s o, allR b ⟨s, o, l⟩ = true ↔ ∀ i, i < b.ws.length → l.contains (i : Int) = false → right (b.wt i) (Cs.aim ⟨s, o, []⟩) = true := fun s o => by
    simp only [allR, List.all_eq_true, List.mem_range, Bool.or_eq_true]
    constructor
    · intro h i hi hc
      rcases h i hi with g | g
      · rw [hc] at g; cases g
      · exact g
    · intro h i hi
      cases hc : l.contains (i : Int)
      · exact .inr (h i hi hc)
      · exact .inl rfl
  constructor
  · rintro ⟨c, s, hs, o, ⟨ho, ha⟩, rfl⟩; exact ⟨s, hs, o, ho, (e s o).1 ha⟩
  · rintro ⟨s, hs, o, ho, ha⟩; exact ⟨_, s, hs, o, ⟨ho, (e s o).2 ha⟩, rfl⟩
theorem together_iff {b : Bk} (hb : b.good) (m : Nat) : together b m = true ↔ ∃ s ∈ squares b, ∃ o ∈ offsAll b.cs, ∀ i, i < b.ws.length → m.testBit i = true → right (b.wt i) (Cs.aim ⟨s, o, []⟩) = true := by
  unfold together
  rw [List.any_eq_true, aims_eq hb]
  simp only [List.mem_flatMap, List.mem_map]
  have e : ∀ a, (odd b a &&& m == 0) = true ↔ ∀ i, i < b.ws.length → m.testBit i = true → right (b.wt i) a = true := fun a => by
    rw [and_zero]
    simp only [odd, maskOf_bit, Bool.and_eq_true, decide_eq_true_eq, Bool.not_eq_true']
    constructor
    · intro h i hi hm
      cases hr : right (b.wt i) a
      · rw [h i ⟨hi, hr⟩] at hm; cases hm
      · rfl
    · rintro h i ⟨hi, hr⟩
      cases hm : m.testBit i
      · rfl
      · rw [h i hi hm] at hr; cases hr
  constructor
  · rintro ⟨a, ⟨s, hs, o, ho, rfl⟩, h⟩; exact ⟨s, hs, o, ho, (e _).1 h⟩
  · rintro ⟨s, hs, o, ho, h⟩; exact ⟨_, ⟨s, hs, o, ho, rfl⟩, (e _).2 h⟩
def othersL (l : List Int) (n : Nat) : List Int := (rz 0 n).filter fun k => !l.contains k
theorem others_in {l : List Int} {n i : Nat} (hi : i < n) : (othersL l n).contains (i : Int) = !l.contains (i : Int) := by
  rw [Bool.eq_iff_iff]
  simp only [othersL, List.contains_eq_mem, decide_eq_true_eq, List.mem_filter, rz_iff]
  constructor
  · exact fun h => h.2
  · exact fun h => ⟨⟨by omega, by omega⟩, h⟩
theorem fewP_mask {b : Bk} (hb : b.good) {l : List Int} (h : ∀ k ∈ l, 0 ≤ k ∧ k < (b.ws.length : Int)) : fewP b (maskL b.ws.length l) = soundP b l := by
  rw [Bool.eq_iff_iff, fewP, together_iff hb, soundP_iff]
  simp only [andNot_bit, everybody_bit, maskL_bit h, Bool.and_eq_true, decide_eq_true_eq, Bool.not_eq_true']
  constructor
  · rintro ⟨s, hs, o, ho, hh⟩; exact ⟨s, hs, o, ho, fun i hi hc => hh i hi ⟨hi, hc⟩⟩
  · rintro ⟨s, hs, o, ho, hh⟩; exact ⟨s, hs, o, ho, fun i hi hc => hh i hi hc.2⟩
theorem clashP_mask {b : Bk} (hb : b.good) {l : List Int} (h : ∀ k ∈ l, 0 ≤ k ∧ k < (b.ws.length : Int)) : clashP b (maskL b.ws.length l) = !soundP b (othersL l b.ws.length) := by
  rw [clashP]
  congr 1
  rw [Bool.eq_iff_iff, together_iff hb, soundP_iff]
  simp only [maskL_bit h]
  constructor
  · rintro ⟨s, hs, o, ho, hh⟩; exact ⟨s, hs, o, ho, fun i hi hc => hh i hi (by rw [others_in hi] at hc; simpa using hc)⟩
  · rintro ⟨s, hs, o, ho, hh⟩; exact ⟨s, hs, o, ho, fun i hi hc => hh i hi (by rw [others_in hi, hc]; rfl)⟩
theorem sound_nil {b : Bk} (hb : b.good) : soundP b [] = together b (everybody b) := by
  rw [Bool.eq_iff_iff, together_iff hb, soundP_iff]
  simp only [everybody_bit, decide_eq_true_eq]
  constructor
  · rintro ⟨s, hs, o, ho, hh⟩; exact ⟨s, hs, o, ho, fun i hi _ => hh i hi rfl⟩
  · rintro ⟨s, hs, o, ho, hh⟩; exact ⟨s, hs, o, ho, fun i hi _ => hh i hi hi⟩
theorem others_all (n : Nat) : othersL (rz 0 n) n = [] := by
  rw [othersL, List.filter_eq_nil_iff]
  intro k hk
  simp [hk]
theorem sound_all {b : Bk} (hb : b.good) : soundP b (rz 0 b.ws.length) = true := by
  have := together_zero hb
  rw [together_iff hb] at this
  rw [soundP_iff]
  obtain ⟨s, hs, o, ho, _⟩ := this
  refine ⟨s, hs, o, ho, fun i hi hc => ?_⟩
  have : (rz 0 b.ws.length).contains (i : Int) = true := by simp [rz_iff]; omega
  rw [this] at hc; cases hc
theorem up_len : ∀ (l : List Int) (a : Int) (n : Nat), List.Pairwise (· < ·) l → (∀ k ∈ l, a ≤ k ∧ k < a + n) → l.length ≤ n
  | [], _, _, _, _ => Nat.zero_le _
  | x :: l, a, n, h, hr => by
    obtain ⟨h1, h2⟩ := List.pairwise_cons.1 h
    have hx := hr x List.mem_cons_self
    have := up_len l (x + 1) (a + n - (x + 1)).toNat h2 fun k hk => by
      have := h1 k hk
      have := hr k (List.mem_cons_of_mem _ hk)
      omega
    rw [List.length_cons]; omega
theorem rz_up : ∀ (m : Nat) (n : Int), List.Pairwise (· < ·) (rz n m)
  | 0, _ => .nil
  | m + 1, n => by
    rw [rz]
    exact List.pairwise_cons.2 ⟨fun k hk => by rw [rz_iff] at hk; omega, rz_up m (n + 1)⟩
theorem sets_all {n : Nat} {l : List Int} : l ∈ sets (n : Int) n ↔ List.Pairwise (· < ·) l ∧ ∀ k ∈ l, 0 ≤ k ∧ k < (n : Int) := by
  rw [sets_iff (by omega)]
  constructor
  · exact fun h => ⟨h.1, h.2.1⟩
  · exact fun h => ⟨h.1, h.2, by have := up_len l 0 n h.1 fun k hk => by have := h.2 k hk; omega
                                 omega⟩
theorem listOf_range {n m : Nat} (h : m < 2 ^ n) : ∀ k ∈ listOf m, 0 ≤ k ∧ k < (n : Int) := fun k hk => by
  obtain ⟨i, _, hi, rfl⟩ := (bits_mem m k 5).1 hk
  refine ⟨by omega, ?_⟩
  by_cases hlt : i < n
  · omega
  · have : m.testBit i = false := Nat.testBit_lt_two_pow (Nat.lt_of_lt_of_le h (Nat.pow_le_pow_right (by decide) (by omega)))
    rw [this] at hi; cases hi
theorem maskL_listOf {n m : Nat} (hn : n ≤ 5) (h : m < 2 ^ n) : maskL n (listOf m) = m := by
  refine Nat.eq_of_testBit_eq fun i => ?_
  rw [maskL_bit (listOf_range h), Bool.eq_iff_iff]
  simp only [List.contains_eq_mem, decide_eq_true_eq]
  constructor
  · intro h
    obtain ⟨j, _, hj, e⟩ := (bits_mem m _ 5).1 h
    have : i = j := by omega
    rw [this]; exact hj
  · intro hi
    refine (bits_mem m _ 5).2 ⟨i, ?_, hi, rfl⟩
    by_cases hlt : i < 5
    · exact hlt
    · have : m.testBit i = false := Nat.testBit_lt_two_pow (Nat.lt_of_lt_of_le h (Nat.pow_le_pow_right (by decide) (by omega)))
      rw [this] at hi; cases hi
theorem lists_mem {b : Bk} (hb : b.good) {P : Nat → Bool} {p : List Int → Bool} (hP : ∀ l, (∀ k ∈ l, 0 ≤ k ∧ k < (b.ws.length : Int)) → P (maskL b.ws.length l) = p l) (x : List Int) : x ∈ listsOf b P ↔ x ∈ sets (b.ws.length : Int) b.ws.length ∧ p x = true := by
  have hn := hb.nw
  rw [sets_all]
  simp only [listsOf, List.mem_map, List.mem_filter, List.mem_range]
  constructor
  · rintro ⟨m, ⟨hm, hp⟩, rfl⟩
    exact ⟨⟨bits_up m 5, listOf_range hm⟩, by rw [← hP _ (listOf_range hm), maskL_listOf hn hm]; exact hp⟩
  · rintro ⟨⟨h1, h2⟩, h3⟩
    exact ⟨maskL b.ws.length x, ⟨maskOf_lt _ _, by rw [hP _ h2]; exact h3⟩, listOf_maskL hn h1 h2⟩
theorem together_less {b : Bk} (hb : b.good) {m : Nat} (hs : together b (everybody b) = true) : together b m = true := by
  rw [together_iff hb] at hs ⊢
  obtain ⟨s, h1, o, h2, h3⟩ := hs
  exact ⟨s, h1, o, h2, fun i hi _ => h3 i hi (by rw [everybody_bit]; simpa using hi)⟩
theorem clash_none {b : Bk} (hb : b.good) (hs : soundP b [] = true) : bestOf (listsOf b (clashP b)) = [] := by
  have : listsOf b (clashP b) = [] := by
    unfold listsOf
    rw [List.map_eq_nil_iff, List.filter_eq_nil_iff]
    intro m _
    rw [clashP, together_less hb (by rw [← sound_nil hb]; exact hs)]; simp
  rw [this]; rfl
end Go.Lg.B
namespace Go.Lg.B
open Go Go.Conc Go.Lg Go.Proofs Go.Proofs.Tryz
def fewL (b : Bk) : List Int := bestOf (listsOf b (fewP b))
def clashL (b : Bk) : List Int := bestOf (listsOf b (clashP b))
theorem few_facts {b : Bk} (hb : b.good) : fewL b ∈ sets (b.ws.length : Int) b.ws.length ∧ soundP b (fewL b) = true ∧ ∀ x ∈ sets (b.ws.length : Int) b.ws.length, soundP b x = true → smaller x (fewL b) = false := by
  have hm := lists_mem hb (P := fewP b) (p := soundP b) fun _ h => fewP_mask hb h
  obtain ⟨h1, h2⟩ := bestOf_least (listsOf_few hb)
  obtain ⟨h3, h4⟩ := (hm _).1 h1
  exact ⟨h3, h4, fun x hx hp => by simpa [fewL] using h2 x ((hm x).2 ⟨hx, hp⟩)⟩
theorem nil_sets (n : Nat) : ([] : List Int) ∈ sets (n : Int) n := sets_all.2 ⟨.nil, fun _ hk => nomatch hk⟩
theorem others_nil (n : Nat) : othersL [] n = rz 0 n := by simp [othersL]
theorem clash_facts {b : Bk} (hb : b.good) (hs : soundP b [] = false) : clashL b ∈ sets (b.ws.length : Int) b.ws.length ∧ soundP b (othersL (clashL b) b.ws.length) = false ∧ (∀ x ∈ sets (b.ws.length : Int) b.ws.length, soundP b (othersL x b.ws.length) = false → smaller x (clashL b) = false) ∧ clashL b ≠ [] := by
  have hm := lists_mem hb (P := clashP b) (p := fun l => !soundP b (othersL l b.ws.length)) fun _ h => clashP_mask hb h
  have hne : listsOf b (clashP b) ≠ [] := by
    intro e
    have : rz 0 b.ws.length ∈ listsOf b (clashP b) := (hm _).2 ⟨sets_all.2 ⟨rz_up _ _, fun k hk => by rw [rz_iff] at hk; omega⟩, by rw [others_all, hs]; rfl⟩
    rw [e] at this; cases this
  obtain ⟨h1, h2⟩ := bestOf_least hne
  obtain ⟨h3, h4⟩ := (hm _).1 h1
  have h4' : soundP b (othersL (clashL b) b.ws.length) = false := by simpa [clashL] using h4
  refine ⟨h3, h4', fun x hx hp => by simpa [clashL] using h2 x ((hm x).2 ⟨hx, by rw [hp]; rfl⟩), fun e => ?_⟩
  rw [e, others_nil, sound_all hb] at h4'
  cases h4'
theorem clash_sets {b : Bk} (hb : b.good) : clashL b ∈ sets (b.ws.length : Int) b.ws.length := by
  by_cases h : soundP b [] = true
  · rw [clashL, clash_none hb h]; exact nil_sets _
  · exact (clash_facts hb (by simpa using h)).1
end Go.Lg.B
namespace Go.Lg.B
open Go Go.Conc Go.Lg Go.Proofs Go.Proofs.Tryz
def worst (L : List Lot) (i : Nat) : Int := max (cnt L i : Int) (L.length - cnt L i)
theorem askUpto_law (L : List Lot) : ∀ n, -1 ≤ (askUpto L n).1 ∧ (askUpto L n).1 < n ∧ (askUpto L n).2 ≤ L.length ∧ ((askUpto L n).1 < 0 ↔ (askUpto L n).2 = L.length) ∧ (∀ i : Nat, i < n → (askUpto L n).2 ≤ worst L i) ∧
    (0 ≤ (askUpto L n).1 → (askUpto L n).2 = worst L (askUpto L n).1.toNat ∧ ∀ i : Nat, (i : Int) < (askUpto L n).1 → (askUpto L n).2 < worst L i)
  | 0 => by
    simp only [askUpto]
    refine ⟨by simp, by simp, by simp, by simp, fun i hi => absurd hi (Nat.not_lt_zero _), fun h => absurd h (by simp)⟩
  | n + 1 => by
    obtain ⟨h1, h2, h3, h4, h5, h6⟩ := askUpto_law L n
    simp only [askUpto]
    by_cases hlt : max (cnt L n : Int) (L.length - cnt L n) < (askUpto L n).2
    · rw [if_pos hlt]
      have hw : worst L n = max (cnt L n : Int) (L.length - cnt L n) := rfl
      refine ⟨by simp only; omega, by simp only; omega, by simp only; omega, ?_, fun i hi => ?_, fun _ => ⟨by simp only [Int.toNat_natCast, hw], fun i hi => ?_⟩⟩
      · simp only; constructor
        · intro h; omega
        · intro h; omega
      · simp only
        by_cases e : i = n
        · rw [e, hw]; exact Int.le_refl _
        · have := h5 i (by omega); omega
      · simp only at hi ⊢
        have := h5 i (by omega); omega
    · rw [if_neg hlt]
      refine ⟨h1, by omega, h3, h4, fun i hi => ?_, h6⟩
      by_cases e : i = n
      · rw [e]; unfold worst; omega
      · exact h5 i (by omega)
end Go.Lg.B
namespace Go.Lg.B
open Go Go.Conc Go.Lg Go.Proofs Go.Proofs.Tryz
theorem good_small {b : Bk} (h : checkChart b = 0) : b.cs.length ≤ 3 ∧ b.ws.length ≤ 5 := by
  have := good_iff.1 h
  exact ⟨this.nc.2, this.nw⟩
section
variable {main : Bool} {J : Goroutine → Mem → Prop} (hJ : Closed prog main J)
include hJ
theorem fitR_c {b : Bk} {v : Value} {ro : RO} (hv : BkV ro v b) : CallP prog J (fnv 47) [v] ro (.bool (checkChart b == 0)) := by
  have hvv := hv
  obtain ⟨vc, vw, rfl, hc, hw⟩ := hv
  by_cases hg : (decide (20 < b.cs.length) || decide (20 < b.ws.length)) = true
  · have hne : checkChart b ≠ 0 := fun h => by
      have := good_small h
      simp only [Bool.or_eq_true, decide_eq_true_eq] at hg; omega
    refine CallP.intro hJ (by kernel_rfl) fun c cs tail hret => enter_X (n := 11) func47 rfl rfl (Nl rfl) ?_
    have C : Ctx prog main J (bf 47 .normal) := ⟨hJ, by decide⟩
    refine Xr C rfl rfl <| R.box C rfl rfl rfl rfl fun p1 => Ad C rfl rfl <| Xr C rfl rfl <| R.loadAgg C rfl rfl rfl isAgg25 sizeOf25 (by repeat (first | exact Mh | apply Mt)) Tk5 <| R.callP C rfl rfl rfl rfl (greatR_c hJ hvv) <| R.not C rfl rfl rfl <| R.fixv (t := 5) (v' := .bool false) rfl (by (rw [hg]; rfl)) <| Rm C rfl rfl <| R.pass C rfl rfl <| R.pass C rfl rfl <| R.pass C rfl rfl <| R.pickF C rfl rfl rfl rfl <| Ad C rfl rfl <| Xt C func47 <| Hp hret ?_
    rw [beq_eq_false_iff_ne.2 hne]; rfl
  · have hg2 : (decide (20 < b.cs.length) || decide (20 < b.ws.length)) = false := by simpa using hg
    have hsh : b.short := by
      simp only [Bool.or_eq_false_iff, decide_eq_false_iff_not] at hg2
      unfold Bk.short; omega
    refine CallP.intro hJ (by kernel_rfl) fun c cs tail hret => enter_X (n := 11) func47 rfl rfl (Nl rfl) ?_
    have C : Ctx prog main J (bf 47 .normal) := ⟨hJ, by decide⟩
    refine Xr C rfl rfl <| R.box C rfl rfl rfl rfl fun p1 => Ad C rfl rfl <| Xr C rfl rfl <| R.loadAgg C rfl rfl rfl isAgg25 sizeOf25 (by repeat (first | exact Mh | apply Mt)) Tk5 <| R.callP C rfl rfl rfl rfl (greatR_c hJ hvv) <| R.not C rfl rfl rfl <| R.fixv (t := 5) (v' := .bool true) rfl (by (rw [hg2]; rfl)) <| Rm C rfl rfl <| R.loadAgg C rfl rfl rfl isAgg25 sizeOf25 (by repeat (first | exact Mh | apply Mt)) Tk5 <| R.callP C rfl rfl rfl rfl (checkChartR_c hJ hvv hsh) <| R.int C rfl rfl rfl rfl b_eql <| R.pickT C rfl rfl rfl rfl <| Ad C rfl rfl <| Xt C func47 <| Hp hret ?_
    rfl
end
end Go.Lg.B
namespace Go.Lg
open Go Go.Conc
theorem X.after {J : Goroutine → Mem → Prop} {b : Frame} {cs : List Frame} {n : Nat} {ds : List Deferred} {σ : Slots} {M : Mem} {k : List Item} {id : Nat} {cc : Code} {ι : Type} (Ex : ι → Prop) (σe : ι → Slots) (Me : ι → Mem) (hk : ∀ s, Ex s → X J b cs n k ds (σe s) (Me s))
    (h : (∀ s, Ex s → X J b cs n k ds (σe s) (Me s)) → X J b cs n (.code (.block id cc) :: k) ds σ M) : X J b cs n (.code (.block id cc) :: k) ds σ M := h hk
end Go.Lg
namespace Go.Lg.B
open Go Go.Conc Go.Lg Go.Proofs Go.Proofs.Tryz
section
variable {main : Bool} {J : Goroutine → Mem → Prop} (hJ : Closed prog main J)
include hJ
end
end Go.Lg.B
namespace Go.Lg.B
open Go Go.Conc Go.Lg Go.Proofs Go.Proofs.Tryz
theorem compact_is (l : List Int) : (compactL (l.mergeSort fun x y => decide (x ≤ y))).Pairwise (· < ·) ∧ ∀ x, x ∈ compactL (l.mergeSort fun x y => decide (x ≤ y)) ↔ x ∈ l := by
  have hs : (l.mergeSort fun x y => decide (x ≤ y)).Pairwise (· ≤ ·) := by
    have := List.pairwise_mergeSort (le := fun x y : Int => decide (x ≤ y)) (by intro a b c; simp; omega) (by intro a b; simp; omega) l
    exact this.imp (by intro a b; simp)
  have hf := fold_asc _ [] .nil hs (by simp)
  refine ⟨hf.1, fun x => ?_⟩
  show x ∈ List.foldl cstep [] _ ↔ _
  rw [hf.2]
  simp [(List.mergeSort_perm l _).mem_iff]
theorem compact_mem {l m : List Int} (h : ∀ x, x ∈ l ↔ x ∈ m) : compactL (l.mergeSort fun x y => decide (x ≤ y)) = compactL (m.mergeSort fun x y => decide (x ≤ y)) :=
  compact_sort (compact_is m).1 fun x => ((compact_is m).2 x).trans (h x).symm
section
variable {main : Bool} {J : Goroutine → Mem → Prop} (hJ : Closed prog main J)
include hJ
end
end Go.Lg.B
namespace Go.Lg.B
open Go Go.Conc Go.Lg Go.Proofs Go.Proofs.Tryz
def Under (o b : Bk) : Prop := ∀ c ∈ cases o, ∃ c' ∈ cases b, c'.a = c.a
end Go.Lg.B
namespace Go.Lg.B
open Go Go.Conc Go.Lg Go.Proofs Go.Proofs.Tryz
theorem wheresR_len {b : Bk} (h : knownH b true = 0) : (wheresR b).length ≤ 49 := by
  rw [wheresR, if_neg (by simp [h])]
  exact Nat.le_trans (List.length_filter_le _ _) (squares_len (known_good h).1)
section
variable {main : Bool} {J : Goroutine → Mem → Prop} (hJ : Closed prog main J)
include hJ
end
end Go.Lg.B
namespace Go.Lg.B
open Go Go.Conc Go.Lg Go.Proofs Go.Proofs.Tryz
def turnB (b : Bk) : Bk := { b with ws := b.ws.reverse }
def revM (n m : Nat) : Nat := maskOf (fun i => m.testBit (n - 1 - i)) n
theorem revM_bit (n m i : Nat) : (revM n m).testBit i = (decide (i < n) && m.testBit (n - 1 - i)) := maskOf_bit _ _ _
theorem bit_lt {n m i : Nat} (h : m < 2 ^ n) (hi : m.testBit i = true) : i < n := by
  by_cases hlt : i < n
  · exact hlt
  · rw [Nat.testBit_lt_two_pow (Nat.lt_of_lt_of_le h (Nat.pow_le_pow_right (by decide) (by omega)))] at hi; cases hi
theorem revM_revM {n m : Nat} (h : m < 2 ^ n) : revM n (revM n m) = m := by
  refine Nat.eq_of_testBit_eq fun i => ?_
  rw [revM_bit, revM_bit]
  by_cases hi : i < n
  · rw [decide_eq_true hi, decide_eq_true (show n - 1 - i < n by omega), Bool.true_and, Bool.true_and, show n - 1 - (n - 1 - i) = i by omega]
  · rw [decide_eq_false hi, Bool.false_and, Nat.testBit_lt_two_pow (Nat.lt_of_lt_of_le h (Nat.pow_le_pow_right (by decide) (by omega)))]
theorem turn_len (b : Bk) : (turnB b).ws.length = b.ws.length := List.length_reverse
theorem turn_turn (b : Bk) : turnB (turnB b) = b := by simp [turnB]
theorem turn_wt {b : Bk} {i : Nat} (h : i < b.ws.length) : (turnB b).wt i = b.wt (b.ws.length - 1 - i) := by
  show b.ws.reverse.getD i default = b.ws.getD _ default
  rw [getD_at (by simpa using h), List.getElem_reverse, getD_at (by omega)]
theorem turn_good {b : Bk} (hb : b.good) : (turnB b).good := by
  obtain ⟨g1, g2, g3, g4, g5, g6, g7⟩ := hb
  exact ⟨g1, g2, g3, g4, g5, by rw [turn_len]; exact g6, fun x hx => g7 x (List.mem_reverse.1 hx)⟩
theorem revM_all : ((List.range 6).all fun n => (List.range (2 ^ n)).all fun m => (listOf (revM n m)).length == (listOf m).length) = true := by kernel_rfl
theorem revM_len {n m : Nat} (hn : n ≤ 5) (hm : m < 2 ^ n) : (listOf (revM n m)).length = (listOf m).length := by
  have := List.all_eq_true.1 (List.all_eq_true.1 revM_all n (List.mem_range.2 (by omega))) m (List.mem_range.2 hm)
  simpa using this
theorem turn_odd {b : Bk} (a : Aim) (m : Nat) : (andNot (odd (turnB b) a) (revM b.ws.length m) == 0) = (andNot (odd b a) m == 0) := by
  rw [Bool.eq_iff_iff, andNot_zero, andNot_zero]
  simp only [odd, maskOf_bit, revM_bit, turn_len, Bool.and_eq_true, decide_eq_true_eq]
  constructor
  · rintro h i ⟨hi, hr⟩
    have := (h (b.ws.length - 1 - i) ⟨by omega, by rw [turn_wt (by omega), show b.ws.length - 1 - (b.ws.length - 1 - i) = i by omega]; exact hr⟩).2
    rwa [show b.ws.length - 1 - (b.ws.length - 1 - i) = i by omega] at this
  · rintro h i ⟨hi, hr⟩
    rw [turn_wt hi] at hr
    exact ⟨hi, h _ ⟨by omega, hr⟩⟩
theorem turn_sure {b : Bk} {m : Nat} (hm : m < 2 ^ b.ws.length) : (revM b.ws.length m &&& sureM (turnB b) == 0) = (m &&& sureM b == 0) := by
  rw [Bool.eq_iff_iff, and_zero, and_zero]
  simp only [sureM, maskOf_bit, revM_bit, turn_len, Bool.and_eq_true, decide_eq_true_eq]
  constructor
  · intro h i hi
    have hlt := bit_lt hm hi
    have := h (b.ws.length - 1 - i) ⟨by omega, by rw [show b.ws.length - 1 - (b.ws.length - 1 - i) = i by omega]; exact hi⟩
    rw [turn_wt (by omega), show b.ws.length - 1 - (b.ws.length - 1 - i) = i by omega, decide_eq_true (by omega), Bool.true_and] at this
    rw [this, Bool.and_false]
  · rintro h i ⟨hi, hr⟩
    have := h _ hr
    rw [decide_eq_true (by omega), Bool.true_and] at this
    rw [turn_wt hi, this, Bool.and_false]
theorem turn_ok {b : Bk} (hn : b.ws.length ≤ 5) (a : Aim) {m : Nat} (hm : m < 2 ^ b.ws.length) : okMask (turnB b) a (revM b.ws.length m) = okMask b a m := by
  unfold okMask
  rw [turn_odd, turn_sure hm, revM_len hn hm]; rfl
theorem flat_perm {α β : Type} {f g : α → List β} : ∀ {l : List α}, (∀ x ∈ l, (f x).Perm (g x)) → (l.flatMap f).Perm (l.flatMap g)
  | [], _ => .nil
  | x :: l, h => by
    rw [List.flatMap_cons, List.flatMap_cons]
    exact (h x List.mem_cons_self).append (flat_perm fun y hy => h y (List.mem_cons_of_mem _ hy))
theorem cases_turn {b : Bk} (hn : b.ws.length ≤ 5) : (cases (turnB b)).Perm ((cases b).map fun c => ⟨c.a, revM b.ws.length c.m⟩) := by
  unfold cases
  rw [List.map_flatMap]
  refine flat_perm (l := aims b) fun a _ => ?_
  unfold lots
  rw [List.map_map, turn_len]
  have e : ((fun c : Lot => (⟨c.a, revM b.ws.length c.m⟩ : Lot)) ∘ fun k => (⟨a, k⟩ : Lot)) = (fun k => (⟨a, k⟩ : Lot)) ∘ revM b.ws.length := rfl
  rw [e, ← List.map_map]
  refine List.Perm.map _ ((List.perm_ext_iff_of_nodup ((ups_nodup _ _).filter _) ?_).2 fun m => ?_)
  · refine List.pairwise_map.2 (List.Pairwise.imp_of_mem (fun {x y} hx hy hne e => hne ?_) ((ups_nodup (2 ^ b.ws.length) 0).filter (okMask b a)))
    have h1 := ups_iff.1 (List.mem_filter.1 hx).1
    have h2 := ups_iff.1 (List.mem_filter.1 hy).1
    rw [← revM_revM (show x < 2 ^ b.ws.length by omega), e, revM_revM (show y < 2 ^ b.ws.length by omega)]
  · simp only [List.mem_filter, List.mem_map, ups_iff]
    constructor
    · rintro ⟨⟨_, h1⟩, h2⟩
      have h1' : m < 2 ^ b.ws.length := by omega
      have hlt : revM b.ws.length m < 2 ^ b.ws.length := maskOf_lt _ _
      refine ⟨revM b.ws.length m, ⟨⟨Nat.zero_le _, by omega⟩, ?_⟩, revM_revM h1'⟩
      rw [← turn_ok hn a hlt, revM_revM h1']; exact h2
    · rintro ⟨k, ⟨⟨_, h1⟩, h2⟩, rfl⟩
      have h1' : k < 2 ^ b.ws.length := by omega
      have hlt : revM b.ws.length k < 2 ^ b.ws.length := maskOf_lt _ _
      exact ⟨⟨Nat.zero_le _, by omega⟩, by rw [turn_ok hn a h1']; exact h2⟩
theorem turn_cases_len {b : Bk} (hn : b.ws.length ≤ 5) : (cases (turnB b)).length = (cases b).length := by
  rw [(cases_turn hn).length_eq, List.length_map]
theorem turn_under {b : Bk} (hn : b.ws.length ≤ 5) : Under (turnB b) b := fun c hc => by
  obtain ⟨c', hc', rfl⟩ := List.mem_map.1 ((cases_turn hn).mem_iff.1 hc)
  exact ⟨c', hc', rfl⟩
theorem turn_under' {b : Bk} (hn : b.ws.length ≤ 5) : Under b (turnB b) := fun c hc =>
  ⟨⟨c.a, revM b.ws.length c.m⟩, (cases_turn hn).mem_iff.2 (List.mem_map.2 ⟨c, hc, rfl⟩), rfl⟩
theorem turn_open {b : Bk} (hb : b.good) (h : Int) : openH (turnB b) h = openH b h := by
  have hn := hb.nw
  have e : cases (turnB b) = [] ↔ cases b = [] := by
    rw [← List.length_eq_zero_iff, turn_cases_len hn, List.length_eq_zero_iff]
  rw [openH, openH, good_iff.2 hb, good_iff.2 (turn_good hb)]
  simp only [e]
theorem any_iff {b : Bk} (hb : b.good) (s : Sq) : ((casesL b).any fun c => decide (c.s = s)) = true ↔ ∃ c ∈ cases b, c.a.s = s := by
  rw [List.any_eq_true]
  simp only [decide_eq_true_eq]
  constructor
  · rintro ⟨c, hc, rfl⟩
    exact ⟨lotOf b c, (cases_perm hb).mem_iff.1 (List.mem_map_of_mem hc), rfl⟩
  · rintro ⟨c, hc, rfl⟩
    obtain ⟨c', hc', rfl⟩ := List.mem_map.1 ((cases_perm hb).mem_iff.2 hc)
    exact ⟨c', hc', rfl⟩
theorem under_both {o b : Bk} (h1 : Under o b) (h2 : Under b o) (p : Aim → Prop) : (∃ c ∈ cases o, p c.a) ↔ ∃ c ∈ cases b, p c.a := by
  constructor
  · rintro ⟨c, hc, h⟩
    obtain ⟨c', hc', e⟩ := h1 c hc
    exact ⟨c', hc', by rw [e]; exact h⟩
  · rintro ⟨c, hc, h⟩
    obtain ⟨c', hc', e⟩ := h2 c hc
    exact ⟨c', hc', by rw [e]; exact h⟩
theorem turn_where {b : Bk} (hb : b.good) : wheres (turnB b) = wheres b := by
  have hn := hb.nw
  rw [where_law, where_law, wheresR, wheresR, known_open0, known_open0, turn_open hb]
  by_cases h0 : openH b 0 ≠ 0
  · rw [if_pos h0, if_pos h0]
  · rw [if_neg h0, if_neg h0]
    refine List.filter_congr (l := squares b) fun s _ => ?_
    rw [Bool.eq_iff_iff, any_iff (turn_good hb), any_iff hb]
    exact under_both (turn_under hn) (turn_under' hn) fun a => a.s = s
theorem turn_off {b : Bk} (hb : b.good) (k : Int) : offOf (turnB b) k = offOf b k := by
  have hn := hb.nw
  have hc : (turnB b).compass k = b.compass k := rfl
  rw [offOf, offOf, hc, turn_open hb]
  by_cases h0 : openH b (b.compass k) ≠ 0
  · rw [if_pos h0, if_pos h0]
  · rw [if_neg h0, if_neg h0]
    refine Prod.ext ?_ rfl
    refine compact_mem fun x => ?_
    simp only [List.mem_map]
    exact under_both (turn_under hn) (turn_under' hn) fun a => a.off k = x
def revL (n : Nat) (x : List Int) : List Int := (x.map fun k => (n : Int) - 1 - k).reverse
theorem revL_len (n : Nat) (x : List Int) : (revL n x).length = x.length := by simp [revL]
theorem revL_sets {n : Nat} {x : List Int} (h : x ∈ sets (n : Int) n) : revL n x ∈ sets (n : Int) n := by
  obtain ⟨h1, h2⟩ := sets_all.1 h
  refine sets_all.2 ⟨?_, fun k hk => ?_⟩
  · rw [revL, List.pairwise_reverse, List.pairwise_map]
    exact h1.imp fun h => by omega
  · obtain ⟨j, hj, rfl⟩ := List.mem_map.1 (List.mem_reverse.1 hk)
    have := h2 j hj; omega
theorem revL_in {n : Nat} {x : List Int} {i : Nat} (hi : i < n) : (revL n x).contains (i : Int) = x.contains ((n - 1 - i : Nat) : Int) := by
  rw [Bool.eq_iff_iff]
  simp only [revL, List.contains_eq_mem, decide_eq_true_eq, List.mem_reverse, List.mem_map]
  constructor
  · rintro ⟨j, hj, e⟩
    rw [show ((n - 1 - i : Nat) : Int) = j by omega]; exact hj
  · exact fun h => ⟨_, h, by omega⟩
theorem turn_sound {b : Bk} {x y : List Int} (h : ∀ i, i < b.ws.length → y.contains (i : Int) = x.contains ((b.ws.length - 1 - i : Nat) : Int)) : soundP (turnB b) y = soundP b x := by
  rw [Bool.eq_iff_iff, soundP_iff, soundP_iff, turn_len]
  constructor
  · rintro ⟨s, hs, o, ho, hh⟩
    refine ⟨s, hs, o, ho, fun i hi hc => ?_⟩
    have := hh (b.ws.length - 1 - i) (by omega) (by rw [h _ (by omega), show b.ws.length - 1 - (b.ws.length - 1 - i) = i by omega]; exact hc)
    rwa [turn_wt (by omega), show b.ws.length - 1 - (b.ws.length - 1 - i) = i by omega] at this
  · rintro ⟨s, hs, o, ho, hh⟩
    refine ⟨s, hs, o, ho, fun i hi hc => ?_⟩
    rw [turn_wt hi]
    exact hh _ (by omega) (by rw [← h i hi]; exact hc)
theorem turn_few_le {b : Bk} (hb : b.good) : (fewL (turnB b)).length ≤ (fewL b).length := by
  obtain ⟨h1, h2, _⟩ := few_facts hb
  obtain ⟨_, _, h3⟩ := few_facts (turn_good hb)
  rw [turn_len] at h3
  have := h3 (revL b.ws.length (fewL b)) (revL_sets h1) (by rw [turn_sound (x := fewL b) fun i hi => revL_in hi]; exact h2)
  rw [smaller, revL_len] at this
  simp at this; omega
theorem turn_few {b : Bk} (hb : b.good) : (fewL (turnB b)).length = (fewL b).length := by
  have h1 := turn_few_le hb
  have h2 := turn_few_le (turn_good hb)
  rw [turn_turn] at h2
  omega
theorem turn_clash_le {b : Bk} (hb : b.good) (hs : soundP b [] = false) : (clashL (turnB b)).length ≤ (clashL b).length := by
  obtain ⟨h1, h2, _⟩ := clash_facts hb hs
  have hs' : soundP (turnB b) [] = false := by rw [turn_sound (x := []) fun i hi => rfl]; exact hs
  obtain ⟨_, _, h3, _⟩ := clash_facts (turn_good hb) hs'
  rw [turn_len] at h3
  have := h3 (revL b.ws.length (clashL b)) (revL_sets h1) (by
    rw [turn_sound (x := othersL (clashL b) b.ws.length) fun i hi => by rw [others_in hi, others_in (by omega), revL_in hi]]; exact h2)
  rw [smaller, revL_len] at this
  simp at this; omega
theorem turn_clash {b : Bk} (hb : b.good) : (clashL (turnB b)).length = (clashL b).length := by
  have hs : soundP (turnB b) [] = soundP b [] := turn_sound fun i hi => rfl
  by_cases h : soundP b [] = true
  · rw [clashL, clashL, clash_none hb h, clash_none (turn_good hb) (by rw [hs]; exact h)]
  · have h' : soundP b [] = false := by simpa using h
    have h1 := turn_clash_le hb h'
    have h2 := turn_clash_le (turn_good hb) (by rw [hs]; exact h')
    rw [turn_turn] at h2
    omega
theorem turn_cnt {b : Bk} (hb : b.good) {i : Nat} (hi : i < b.ws.length) : cnt (cases (turnB b)) (b.ws.length - 1 - i) = cnt (cases b) i := by
  rw [cnt, (cases_turn hb.nw).countP_eq, List.countP_map]
  refine List.countP_congr fun c _ => ?_
  show (revM b.ws.length c.m).testBit _ = true ↔ _
  rw [revM_bit, decide_eq_true (by omega), Bool.true_and, show b.ws.length - 1 - (b.ws.length - 1 - i) = i by omega]
theorem turn_ask_le {b : Bk} (hb : b.good) : (askUpto (cases (turnB b)) b.ws.length).2 ≤ (askUpto (cases b) b.ws.length).2 := by
  obtain ⟨_, _, h3, _, h5, _⟩ := askUpto_law (cases (turnB b)) b.ws.length
  obtain ⟨g1, g2, _, g4, _, g6⟩ := askUpto_law (cases b) b.ws.length
  have hl := turn_cases_len hb.nw
  by_cases h : (askUpto (cases b) b.ws.length).1 < 0
  · have := g4.1 h; omega
  · obtain ⟨e, _⟩ := g6 (by omega)
    generalize hi : (askUpto (cases b) b.ws.length).1.toNat = i at e
    have hlt : i < b.ws.length := by omega
    have := h5 (b.ws.length - 1 - i) (by omega)
    rw [worst, turn_cnt hb hlt, hl] at this
    rw [e]; exact this
theorem turn_ask {b : Bk} (hb : b.good) : (ask (turnB b)).2 = (ask b).2 := by
  rw [ask, ask, turn_open hb, turn_len]
  by_cases h0 : openH b 0 ≠ 0
  · rw [if_pos h0, if_pos h0]
  · rw [if_neg h0, if_neg h0]
    have h1 := turn_ask_le hb
    have h2 := turn_ask_le (turn_good hb)
    rw [turn_turn, turn_len] at h2
    refine Prod.ext ?_ rfl
    show (askUpto _ _).2 = (askUpto _ _).2
    omega
theorem turn_false {b : Bk} (hb : b.good) {i : Nat} (hi : i < b.ws.length) : told (turnB b) ((turnB b).witness ((b.ws.length - 1 - i : Nat) : Int)) (fun c => c.m.testBit (b.ws.length - 1 - i)) = told b (b.witness (i : Int)) (fun c => c.m.testBit i) := by
  have h1 : (turnB b).witness ((b.ws.length - 1 - i : Nat) : Int) = 0 := by
    rw [Bk.witness, there_zero, turn_len, between, Bool.and_eq_true, decide_eq_true_eq, decide_eq_true_eq]; omega
  have h2 : b.witness (i : Int) = 0 := by
    rw [Bk.witness, there_zero, between, Bool.and_eq_true, decide_eq_true_eq, decide_eq_true_eq]; omega
  rw [told, told, h1, h2, turn_open hb]
  by_cases h0 : openH b 0 ≠ 0
  · rw [if_pos h0, if_pos h0]
  · rw [if_neg h0, if_neg h0]
    have hc : (cases (turnB b)).countP (fun c => c.m.testBit (b.ws.length - 1 - i)) = (cases b).countP fun c => c.m.testBit i := turn_cnt hb hi
    rw [knownZ, knownZ, hc, turn_cases_len hb.nw]
end Go.Lg.B
namespace Go.Lg.B
open Go Go.Conc Go.Lg Go.Proofs Go.Proofs.Tryz
theorem wheresR_small (b : Bk) : (wheresR b).length ≤ 1000000 := by
  by_cases h : knownH b true = 0
  · have := wheresR_len h; omega
  · rw [wheresR, if_pos h]; exact Nat.zero_le _
theorem offOf_small (b : Bk) (k : Int) : (offOf b k).1.length ≤ 1000000 := by
  rw [offOf]
  by_cases h : openH b (b.compass k) = 0
  · rw [if_neg (by simp [h])]
    have hg := (openH_good h).1
    have h1 := compact_len (((cases b).map fun c => c.a.off k).mergeSort fun x y => decide (x ≤ y)) (((cases b).map fun c => c.a.off k).mergeSort fun x y => decide (x ≤ y)).length
    rw [List.take_length, List.length_mergeSort, List.length_map] at h1
    have h2 := cases_le hg
    simp only; omega
  · rw [if_pos h]; exact Nat.zero_le _
end Go.Lg.B
namespace Go.Lg.B
open Go Go.Conc Go.Lg Go.Proofs Go.Proofs.Tryz
theorem sets_small {n : Nat} (hn : n ≤ 5) {l : List Int} (h : l ∈ sets (n : Int) n) : l.length ≤ 5 := Nat.le_trans (sets_each _ _ _ h) hn
end Go.Lg.B
namespace Go.Lg.B
open Go Go.Conc Go.Lg Go.Proofs Go.Proofs.Tryz
theorem order_root {b : Bk} {vb : Value} {kq n : Int} (h1 : 0 ≤ kq ∧ kq ≤ 255) (h2 : 0 ≤ n ∧ n ≤ 255) {ro : RO} (he : Env ro) (hv : BkV ro vb b) : Root prog 12 [vb, .int .u8 kq, .int .u8 n] ro (fun w _ => w = .bool true) := by
  intro Post hret
  have hJ : Closed prog true (JM prog (Go.Conc.Good prog Post)) := JM.closed
  have hvv := hv
  obtain ⟨vc, vw, rfl, hc, hw⟩ := hv
  have hc0 := hc
  have hw0 := hw
  obtain ⟨cb, cc, rfl⟩ := hc.form
  obtain ⟨wb, wc, rfl⟩ := hw.form
  let main := true
  let J := JM prog (Go.Conc.Good prog Post)
  refine enter_X (n := 239) func12 rfl rfl (Nl rfl) ?_
  have C : Ctx prog main J (bf 12 .normal) := ⟨hJ, by decide⟩
  refine Xr C rfl rfl <| R.box C rfl rfl rfl rfl fun p3 => Ad C rfl rfl <| Xs C <| Xr C rfl rfl <| R.loadAgg C rfl rfl rfl isAgg25 sizeOf25 (by repeat (first | exact Mh | apply Mt)) Tk5 <| R.callP C rfl rfl rfl rfl (fitR_c hJ hvv) <| R.not C rfl rfl rfl <| R.done C <| X.cond C.1 rfl (fun hfit => ?_) (fun hfit => ?_)
  · have hfit := hfit
    refine Xr C rfl rfl <| R.callR C rfl rfl rfl rfl ((found_c _ he)) fun v9 ro9 hl9 hq9 => Ad C rfl rfl <| X.ret0 C (by kernel_rfl) rfl rfl func12 rfl (by exact (.tmp rfl .nil)) fun w9 hs9 => hret _ _ _ hl9 ?_ w9 hs9
    exact hq9
  · have hfit := hfit
    have hch : checkChart b = 0 := by simpa using hfit
    have hg := good_iff.1 hch
    have hgO := turn_good hg
    have hnw := hg.nw
    have hnc := hg.nc
    have hlO := turn_len b
    have hsh : b.short := ⟨by omega, by omega⟩
    have hshO : (turnB b).short := ⟨by show b.cs.length ≤ 1000; omega, by omega⟩
    obtain ⟨k, hk⟩ : ∃ k, k = kq % (b.cs.length : Int) := ⟨_, rfl⟩
    refine X.skip C.1 <| Xs C <| Xd C fun hok => D5 C 0 hok rfl rfl isAgg25 sizeOf25 (by repeat (first | exact Mh | apply Mt)) Tk5 <| Dm C 1 hok rfl rfl rfl <| Dp 2 hok (fun _ _ _ A h => R.convInt C rfl (A.w rfl rfl) (A.x rfl rfl) runUnderlying5 runUnderlying3 (wrap64 (by omega) (by omega)) h) <| Df (off' := 3) C 3 hok rfl rfl rfl runUnderlying25 rfl sizeOf22 rfl <| D1 C 4 hok rfl rfl isAgg22 (by repeat (first | exact Mh | apply Mt)) rfl <| Dp 5 hok (fun _ _ _ A h => R.lenSlice C rfl (A.w rfl rfl) (A.x rfl rfl) runUnderlying22 h) <| Di C 6 hok rfl rfl rfl rfl rfl (b_remP (by omega) (by omega)) <| D.fixv (t := 45) (v' := .int .i64 k) rfl (by exact congrArg (Value.int .i64) hk.symm) <| De 7 (some 7) [true, true] hok (fun σr rest A hk => ?_)
    refine R.alloc C rfl (A.w rfl rfl) zeroValue25 rfl fun p7 => hk _ _ ⟨(QFs.cons (QF.of rfl (fun _ _ A h => R.loadOne C rfl (A.w rfl rfl) (A.x rfl rfl) isAgg22 (by repeat (first | exact Mh | apply Mt)) rfl h)) (QFs.cons (QF.of rfl (fun _ _ A h => R.loadAgg C rfl (A.w rfl rfl) (A.x rfl rfl) isAgg25 sizeOf25 (by repeat (first | exact Mh | apply Mt)) Tk5 h)) QFs.nil)), ?_⟩
    refine De 8 none [true, false] hok (fun σr rest A hk => ?_)
    refine R.store C rfl (A.w rfl rfl) (A.x rfl rfl) (A.x rfl rfl) sizeOf25 rfl rfl rfl (by repeat (first | exact Uh | apply Ut)) (.here (.here (.here (.here (.here .nil))))) (hk undef _ ⟨(QFs.cons (QF.of rfl (fun _ _ A h => R.loadOne C rfl (A.w rfl rfl) (A.x rfl rfl) isAgg22 (by repeat (first | exact Mh | apply Mt)) rfl h)) QFs.nil), ?_⟩)
    refine Dp 9 hok (fun _ _ _ A h => R.asg C rfl (A.w rfl rfl) (A.x rfl rfl) h) <| D.done C hok (by kernel_rfl) <| Xr C rfl rfl <| Rf C 4 rfl rfl runUnderlying25 rfl sizeOf23 <| R.store C rfl rfl rfl rfl sizeOf23 rfl rfl rfl (by repeat (first | exact Uh | apply Ut)) (.skip (.skip (.skip (.skip (.here .nil))))) <| R.done C <| Xs C <| Xr C rfl rfl <| Rf C 4 rfl rfl runUnderlying25 rfl sizeOf23 <| R.loadOne C rfl rfl rfl isAgg23 (by repeat (first | exact Mh | apply Mt)) rfl <| R.lenSlice C rfl rfl rfl runUnderlying23 <| R.int C rfl rfl rfl rfl (b_sub (by omega) (by omega)) <| Ad C rfl rfl <| X.block C.1 <| X.loopI (ι := Nat × Value × List (Nat × Obj)) C.1 (fun s => s.1 ≤ b.ws.length ∧ Buf 58 5 [] s.2.1 ((b.ws.drop s.1).reverse.flatMap Wt.cells) s.2.2) (fun s => [(2, .int .u8 n), (3, .pointer (some ⟨p3, 0, none⟩)), (7, .pointer (some ⟨p7, 0, none⟩)), (8, .int .i64 k), (9, .int .i64 ((s.1 : Int) - 1))])
      (fun s => ⟨ro, s.2.2 ++ (p7, .cells [.int .i64 b.w, .int .i64 b.h, .int .i64 b.f, .slice cb b.cs.length cc, s.2.1].toArray 25 (0, 0)) :: (p3, .cells [.int .i64 b.w, .int .i64 b.h, .int .i64 b.f, .slice cb b.cs.length cc, .slice wb b.ws.length wc].toArray 25 (0, 0)) :: []⟩) (fun s => s.1) (b.ws.length, .slice none 0 0, []) ⟨Nat.le_refl _, by rw [List.drop_length]; exact .nil⟩ rfl ⟨rfl, rfl, rfl, rfl, rfl, trivial⟩ fun s hs' hnext => ?_
    obtain ⟨i, v2, own2⟩ := s
    obtain ⟨hi, hb2⟩ := hs'
    simp only at hi hb2 hnext ⊢
    have hfl : ((b.ws.drop i).reverse.flatMap Wt.cells).length ≤ 25 := by rw [flatMap_len Wt.len, List.length_reverse, List.length_drop]; omega
    refine Xs C <| Xr C rfl rfl <| Rm C rfl rfl <| R.int C rfl rfl rfl rfl b_geq <| R.done C <| X.cond C.1 rfl (fun hlt => ?_) (fun hlt => ?_)
    · have hlt := hlt
      simp only [decide_eq_true_eq] at hlt
      have hi' : i - 1 < b.ws.length := by omega
      have hidx : ((i : Int) - 1).toNat = i - 1 := by omega
      have hcat : (b.ws.drop i).reverse.flatMap Wt.cells ++ (b.ws[i - 1]).cells = (b.ws.drop (i - 1)).reverse.flatMap Wt.cells := by
        rw [List.drop_eq_getElem_cons hi', List.reverse_cons, List.flatMap_append, show i - 1 + 1 = i by omega]; simp
      obtain ⟨pw, offw, capw, lw, tw, fqw, hslw, hropw, hsubw⟩ := hw0.at Wt.len (by omega)
      cases hslw
      have hwx : Sub (offw + ((i : Int) - 1).toNat * 5) 5 lw (b.ws[i - 1]).cells := by rw [hidx]; exact hsubw (i - 1) hi'
      generalize b.ws[i - 1] = W at hwx hcat
      have hwx2 : Sub (offw + ((i : Int) - 1).toNat * 5) 5 lw [.int .i64 W.s.e, .int .i64 W.s.n, .int .i64 W.b, .int .i64 W.k, .bool W.sure] := hwx
      obtain ⟨bs0, cap0, rfl⟩ := hb2.form (by decide)
      refine X.skip C.1 <| Xs C <| X.block C.1 <| Xd C fun hok => Df (off' := 4) C 0 hok rfl rfl rfl runUnderlying25 rfl sizeOf23 rfl <| Dl 1 hok (fun _ _ A h => R.loadOne C rfl (A.w rfl rfl) (A.x rfl rfl) isAgg23 (by repeat (first | exact Mh | apply Mt | apply List.mem_append_right)) rfl h) <| Df (off' := 4) C 2 hok rfl rfl rfl runUnderlying25 rfl sizeOf23 rfl <| Dl 3 hok (fun _ _ A h => R.loadOne C rfl (A.w rfl rfl) (A.x rfl rfl) isAgg23 (by repeat (first | exact Mh | apply Mt | apply List.mem_append_right)) rfl h) <| Dm C 4 hok rfl rfl rfl <| Dx C 5 hok rfl rfl rfl runUnderlying23 sizeOf58 <| Dl 6 hok (fun _ _ A h => R.loadAggRo C rfl (A.w rfl rfl) (A.x rfl rfl) isAgg58 sizeOf58 hropw hwx2 h) <| De 7 (some 62) [false, false, true] hok (fun σr rest A hk => ?_)
      refine R.buildSlice C (vs := _) rfl (A.w rfl rfl) (show pvals _ _ = some (numbered 0 [_]) from (A.p rfl rfl)) rfl runUnderlying23 sizeOf58 zeroValue58 (by decide) (Cat.one rfl rfl) fun p62 => hk _ _ ⟨(QFs.cons (QF.of rfl (fun _ _ A h => R.loadOne C rfl (A.w rfl rfl) (A.x rfl rfl) isAgg23 (by repeat (first | exact Mh | apply Mt | apply List.mem_append_right)) rfl h)) QFs.nil), ?_⟩
      refine De 8 (some 63) [false] hok (fun σr rest A hk => ?_)
      refine R.append1 (kk := 5) C rfl (A.w rfl rfl) (A.x rfl rfl) (A.x rfl rfl) runUnderlying23 runUnderlying23 (fun _ => nofun) (show prog.info? 58 = some Tryz.t58 by kernel_rfl) rfl rfl rfl (by decide) (by decide) (hb2.app _) rfl rfl (by simp only [List.length_append, List.length_cons, List.length_nil]; omega) fun v' own' hb' => hk _ _ ⟨QFs.nil, ?_⟩
      refine Df (off' := 4) C 9 hok rfl rfl rfl runUnderlying25 rfl sizeOf23 rfl <| De 10 none [] hok (fun σr rest A hk => ?_)
      obtain ⟨own3, rfl, hb3⟩ := Buf.unapp (tail := []) hb'
      replace hb3 : Buf 58 5 [] v' ((b.ws.drop (i - 1)).reverse.flatMap Wt.cells) own3 := by rw [← hcat]; exact hb3
      obtain ⟨bs1, cap1, rfl⟩ := hb3.form (by decide)
      refine R.store C rfl (A.w rfl rfl) (A.x rfl rfl) (A.x rfl rfl) sizeOf23 rfl rfl rfl (by repeat (first | exact Uh | apply Ut | apply Upd.app)) (.skip (.skip (.skip (.skip (.here .nil))))) (hk undef _ ⟨QFs.nil, ?_⟩)
      refine D.done C hok (by kernel_rfl) <| X.inBlock C.1 <| X.region C rfl rfl <| Rm C rfl rfl <| R.int C rfl rfl rfl rfl (b_sub (by omega) (by omega)) <| Ad C rfl rfl <| X.weaken ?_ (hnext (i - 1, _, own3) ⟨by omega, hb3⟩ (by simp only; omega))
      exact ⟨rfl, rfl, rfl, rfl, by simp [look]; omega, trivial⟩
    · have hlt := hlt
      simp only [decide_eq_false_iff_not] at hlt
      obtain rfl : i = 0 := by omega
      rw [List.drop_zero] at hb2
      obtain ⟨bs0, cap0, rfl⟩ := hb2.form (by decide)
      refine X.exit C.1 rfl <| Xr C rfl rfl <| R.finish C.1 Wt.len (by decide) (hb2.app _) fun ro3 hl3 hls3 => ?_
      obtain ⟨V, hV⟩ : ∃ V, V = Value.agg [Value.int .i64 b.w, .int .i64 b.h, .int .i64 b.f, .slice cb b.cs.length cc, .slice bs0 ((b.ws.reverse.flatMap Wt.cells).length / 5) cap0].toArray := ⟨_, rfl⟩
      have hvO : BkV ro3 V (turnB b) := ⟨_, _, hV, hc0.mono hl3, hls3⟩
      subst hV
      have hv3 := hvv.mono hl3
      have he3 := he.mono hl3
      have hchO : checkChart (turnB b) = 0 := good_iff.2 hgO
      have hM : ro3.le ro3 := RO.le_refl _
      have hwl : (wheres b).length ≤ 1000000 := by rw [where_law]; exact wheresR_small b
      have hol := offOf_small b k
      have hce : ((cases (turnB b)).length : Int) = (cases b).length := by rw [turn_cases_len hnw]
      have hwe := turn_where hg
      have hoe := turn_off hg k
      have hope := turn_open hg 0
      have hfe : fewest b = (fewL b, 0) := by rw [fewest, if_neg (by simp [hch])]; rfl
      have hfeO : fewest (turnB b) = (fewL (turnB b), 0) := by rw [fewest, if_neg (by simp [hchO])]; rfl
      have hcle : clash b = (clashL b, 0) := by rw [clash, if_neg (by simp [hch])]; rfl
      have hcleO : clash (turnB b) = (clashL (turnB b), 0) := by rw [clash, if_neg (by simp [hchO])]; rfl
      have hfl1 := turn_few hg
      have hcl1 := turn_clash hg
      have hask := turn_ask hg
      refine R.loadAgg C rfl rfl rfl isAgg25 sizeOf25 (by repeat (first | exact Mh | apply Mt)) Tk5 <| R.callR C rfl rfl rfl rfl ((cases_c hJ (he3.mono hM) (hv3.mono hM) hsh)) fun w1 so1 hm1 hp1 => ?_
      subst hp1
      rw [if_neg (show ¬ checkChart b ≠ 0 by simp [hch]), hch]
      replace hM := RO.le_trans hM hm1
      refine Rm C rfl rfl <| R.ext C rfl rfl rfl rfl <| R.ext C rfl rfl rfl rfl <| R.asg C rfl rfl rfl <| Ad C rfl rfl <| Xr C rfl rfl <| R.loadAgg C rfl rfl rfl isAgg25 sizeOf25 (by repeat (first | exact Mh | apply Mt)) Tk5 <| R.callR C rfl rfl rfl rfl ((cases_c hJ (he3.mono hM) (hvO.mono hM) hshO)) fun w2 so2 hm2 hp2 => ?_
      subst hp2
      rw [if_neg (show ¬ checkChart (turnB b) ≠ 0 by simp [hchO]), hchO, hce]
      replace hM := RO.le_trans hM hm2
      refine Rm C rfl rfl <| R.ext C rfl rfl rfl rfl <| R.ext C rfl rfl rfl rfl <| R.asg C rfl rfl rfl <| Ad C rfl rfl <| Xr C rfl rfl <| R.loadAgg C rfl rfl rfl isAgg25 sizeOf25 (by repeat (first | exact Mh | apply Mt)) Tk5 <| R.callR C rfl rfl rfl rfl ((where_c hJ (he3.mono hM) (hv3.mono hM) hsh)) fun w3 so3 hm3 hp3 => ?_
      obtain ⟨vs3, hs3, rfl⟩ := hp3
      replace hM := RO.le_trans hM hm3
      refine Rm C rfl rfl <| R.ext C rfl rfl rfl rfl <| R.ext C rfl rfl rfl rfl <| R.asg C rfl rfl rfl <| Ad C rfl rfl <| Xr C rfl rfl <| R.loadAgg C rfl rfl rfl isAgg25 sizeOf25 (by repeat (first | exact Mh | apply Mt)) Tk5 <| R.callR C rfl rfl rfl rfl ((where_c hJ (he3.mono hM) (hvO.mono hM) hshO)) fun w4 so4 hm4 hp4 => ?_
      obtain ⟨vs4, hs4, rfl⟩ := hp4
      rw [hope]
      rw [hwe] at hs4
      replace hM := RO.le_trans hM hm4
      have hs3 := hs3.mono hm4
      refine Rm C rfl rfl <| R.ext C rfl rfl rfl rfl <| R.ext C rfl rfl rfl rfl <| R.asg C rfl rfl rfl <| Ad C rfl rfl <| Xr C rfl rfl <| R.loadAgg C rfl rfl rfl isAgg25 sizeOf25 (by repeat (first | exact Mh | apply Mt)) Tk5 <| Rm C rfl rfl <| R.callR C rfl rfl rfl rfl ((off_c hJ (he3.mono hM) (hv3.mono hM) hsh k)) fun w5 so5 hm5 hp5 => ?_
      obtain ⟨vs5, hs5, rfl⟩ := hp5
      replace hM := RO.le_trans hM hm5
      refine Rm C rfl rfl <| R.ext C rfl rfl rfl rfl <| R.ext C rfl rfl rfl rfl <| R.asg C rfl rfl rfl <| Ad C rfl rfl <| Xr C rfl rfl <| R.loadAgg C rfl rfl rfl isAgg25 sizeOf25 (by repeat (first | exact Mh | apply Mt)) Tk5 <| Rm C rfl rfl <| R.callR C rfl rfl rfl rfl ((off_c hJ (he3.mono hM) (hvO.mono hM) hshO k)) fun w6 so6 hm6 hp6 => ?_
      obtain ⟨vs6, hs6, rfl⟩ := hp6
      rw [hoe] at hs6 ⊢
      replace hM := RO.le_trans hM hm6
      have hs5 := hs5.mono hm6
      refine Rm C rfl rfl <| R.ext C rfl rfl rfl rfl <| R.ext C rfl rfl rfl rfl <| R.asg C rfl rfl rfl <| Ad C rfl rfl <| Xr C rfl rfl <| R.loadAgg C rfl rfl rfl isAgg25 sizeOf25 (by repeat (first | exact Mh | apply Mt)) Tk5 <| R.callR C rfl rfl rfl rfl ((fewest_c (he3.mono hM) (hv3.mono hM) hsh)) fun w7 so7 hm7 hp7 => ?_
      obtain ⟨vs7, hs7, rfl⟩ := hp7
      replace hs7 : LsI so7 vs7 (fewL b) := by rw [hfe] at hs7; exact hs7
      rw [hfe]
      replace hM := RO.le_trans hM hm7
      refine Rm C rfl rfl <| R.ext C rfl rfl rfl rfl <| R.ext C rfl rfl rfl rfl <| R.asg C rfl rfl rfl <| Ad C rfl rfl <| Xr C rfl rfl <| R.loadAgg C rfl rfl rfl isAgg25 sizeOf25 (by repeat (first | exact Mh | apply Mt)) Tk5 <| R.callR C rfl rfl rfl rfl ((fewest_c (he3.mono hM) (hvO.mono hM) hshO)) fun w8 so8 hm8 hp8 => ?_
      obtain ⟨vs8, hs8, rfl⟩ := hp8
      replace hs8 : LsI so8 vs8 (fewL (turnB b)) := by rw [hfeO] at hs8; exact hs8
      rw [hfeO]
      replace hM := RO.le_trans hM hm8
      have hs3b := (((hs3.mono hm5).mono hm6).mono hm7).mono hm8
      have hs4b := (((hs4.mono hm5).mono hm6).mono hm7).mono hm8
      have hs5b := (hs5.mono hm7).mono hm8
      have hs6b := (hs6.mono hm7).mono hm8
      obtain ⟨fb, fc, rfl⟩ := hs7.form
      obtain ⟨fb', fc', rfl⟩ := hs8.form
      have fl1 := sets_small hnw (few_facts hg).1
      generalize (offOf b k).2 = H at *
      refine Rm C rfl rfl <| R.ext C rfl rfl rfl rfl <| R.ext C rfl rfl rfl rfl <| R.asg C rfl rfl rfl <| Ad C rfl rfl <| Xs C <| Xr C rfl rfl <| Rm C rfl rfl <| R.int C rfl rfl rfl rfl b_neq <| R.fixv (t := 108) (v' := .bool false) rfl (by rfl) <| Rm C rfl rfl <| R.fixv (t := 109) (v' := .bool false) rfl (by rfl) <| Rm C rfl rfl <| R.int C rfl rfl rfl rfl b_neq <| R.fixv (t := 111) (v' := .bool false) rfl (by rfl) <| R.pickF C rfl rfl rfl rfl <| Rm C rfl rfl <| R.fixv (t := 113) (v' := .bool false) rfl (by rfl) <| Rm C rfl rfl <| Rm C rfl rfl <| R.int C rfl rfl rfl rfl b_neq <| R.fixv (t := 116) (v' := .bool false) rfl (by (exact congrArg Value.bool (by simp))) <| R.pickF C rfl rfl rfl rfl <| Rm C rfl rfl <| R.fixv (t := 118) (v' := .bool false) rfl (by rfl) <| Rm C rfl rfl <| Rm C rfl rfl <| R.int C rfl rfl rfl rfl b_neq <| R.fixv (t := 121) (v' := .bool false) rfl (by (exact congrArg Value.bool (by simp))) <| R.pickF C rfl rfl rfl rfl <| Rm C rfl rfl <| R.fixv (t := 123) (v' := .bool false) rfl (by rfl) <| Rm C rfl rfl <| Rm C rfl rfl <| R.int C rfl rfl rfl rfl b_neq <| R.fixv (t := 126) (v' := .bool false) rfl (by (exact congrArg Value.bool (by simp))) <| R.pickF C rfl rfl rfl rfl <| Rm C rfl rfl <| R.fixv (t := 128) (v' := .bool false) rfl (by rfl) <| Rm C rfl rfl ?_; refine R.int C rfl rfl rfl rfl b_neq <| R.fixv (t := 130) (v' := .bool false) rfl (by rfl) <| R.pickF C rfl rfl rfl rfl <| Rm C rfl rfl <| R.fixv (t := 132) (v' := .bool false) rfl (by rfl) <| Rm C rfl rfl <| R.int C rfl rfl rfl rfl b_neq <| R.fixv (t := 134) (v' := .bool false) rfl (by rfl) <| R.pickF C rfl rfl rfl rfl <| Rm C rfl rfl <| R.fixv (t := 136) (v' := .bool false) rfl (by rfl) <| Rm C rfl rfl <| Rm C rfl rfl <| R.callP C rfl rfl rfl rfl ((sameSquares_c hJ hs3b hs4b hwl hwl)) <| R.not C rfl rfl rfl <| R.fixv (t := 140) (v' := .bool false) rfl (by (exact congrArg Value.bool (by simp))) <| R.pickF C rfl rfl rfl rfl <| Rm C rfl rfl <| R.fixv (t := 142) (v' := .bool false) rfl (by rfl) <| Rm C rfl rfl <| Rm C rfl rfl <| R.callP C rfl rfl rfl rfl ((sameInts_c hJ hs5b hs6b hol hol)) <| R.not C rfl rfl rfl <| R.fixv (t := 146) (v' := .bool false) rfl (by (exact congrArg Value.bool (by rw [sameInts_iff]; simp))) <| R.pickF C rfl rfl rfl rfl <| Rm C rfl rfl <| R.fixv (t := 148) (v' := .bool false) rfl (by rfl) <| Rm C rfl rfl <| R.lenSlice C rfl rfl rfl runUnderlying28 <| Rm C rfl rfl <| R.lenSlice C rfl rfl rfl runUnderlying28 <| R.int C rfl rfl rfl rfl b_neq <| R.fixv (t := 153) (v' := .bool false) rfl (by (exact congrArg Value.bool (by rw [hfl1]; simp))) <| R.pickF C rfl rfl rfl rfl <| R.done C <| X.cond C.1 rfl (fun h => nomatch h) (fun _ => ?_)
      refine X.skip C.1 <| Xr C rfl rfl <| R.loadAgg C rfl rfl rfl isAgg25 sizeOf25 (by repeat (first | exact Mh | apply Mt)) Tk5 <| R.callR C rfl rfl rfl rfl ((clash_c (he3.mono hM) (hv3.mono hM) hsh)) fun w9 so9 hm9 hp9 => ?_
      obtain ⟨vs9, hs9, rfl⟩ := hp9
      replace hs9 : LsI so9 vs9 (clashL b) := by rw [hcle] at hs9; exact hs9
      rw [hcle]
      replace hM := RO.le_trans hM hm9
      refine Rm C rfl rfl <| R.ext C rfl rfl rfl rfl <| R.ext C rfl rfl rfl rfl <| R.asg C rfl rfl rfl <| Ad C rfl rfl <| Xr C rfl rfl <| R.loadAgg C rfl rfl rfl isAgg25 sizeOf25 (by repeat (first | exact Mh | apply Mt)) Tk5 <| R.callR C rfl rfl rfl rfl ((clash_c (he3.mono hM) (hvO.mono hM) hshO)) fun w10 so10 hm10 hp10 => ?_
      obtain ⟨vs10, hs10, rfl⟩ := hp10
      replace hs10 : LsI so10 vs10 (clashL (turnB b)) := by rw [hcleO] at hs10; exact hs10
      rw [hcleO]
      replace hM := RO.le_trans hM hm10
      refine Rm C rfl rfl <| R.ext C rfl rfl rfl rfl <| R.ext C rfl rfl rfl rfl <| R.asg C rfl rfl rfl <| Ad C rfl rfl <| Xr C rfl rfl <| R.loadAgg C rfl rfl rfl isAgg25 sizeOf25 (by repeat (first | exact Mh | apply Mt)) Tk5 <| R.callR C rfl rfl rfl rfl ((ask_c hJ (he3.mono hM) (hv3.mono hM) hsh)) fun w11 so11 hm11 hp11 => ?_
      subst hp11
      replace hM := RO.le_trans hM hm11
      refine Rm C rfl rfl <| R.ext C rfl rfl rfl rfl <| R.ext C rfl rfl rfl rfl <| R.ext C rfl rfl rfl rfl <| R.asg C rfl rfl rfl <| R.asg C rfl rfl rfl <| Ad C rfl rfl <| Xr C rfl rfl <| R.loadAgg C rfl rfl rfl isAgg25 sizeOf25 (by repeat (first | exact Mh | apply Mt)) Tk5 <| R.callR C rfl rfl rfl rfl ((ask_c hJ (he3.mono hM) (hvO.mono hM) hshO)) fun w12 so12 hm12 hp12 => ?_
      subst hp12
      rw [hask]
      replace hM := RO.le_trans hM hm12
      obtain ⟨gb, gc, rfl⟩ := hs9.form
      obtain ⟨gb', gc', rfl⟩ := hs10.form
      generalize (ask b).2.1 = A at *
      generalize (ask b).2.2 = A2 at *
      have cl1 := sets_small hnw (clash_sets hg)
      refine Rm C rfl rfl <| R.ext C rfl rfl rfl rfl <| R.ext C rfl rfl rfl rfl <| R.ext C rfl rfl rfl rfl <| R.asg C rfl rfl rfl <| R.asg C rfl rfl rfl <| Ad C rfl rfl <| Xs C <| Xr C rfl rfl <| Rm C rfl rfl <| R.int C rfl rfl rfl rfl b_neq <| R.fixv (t := 178) (v' := .bool false) rfl (by rfl) <| Rm C rfl rfl <| R.fixv (t := 179) (v' := .bool false) rfl (by rfl) <| Rm C rfl rfl <| R.int C rfl rfl rfl rfl b_neq <| R.fixv (t := 181) (v' := .bool false) rfl (by rfl) <| R.pickF C rfl rfl rfl rfl <| Rm C rfl rfl <| R.fixv (t := 183) (v' := .bool false) rfl (by rfl) <| Rm C rfl rfl <| R.lenSlice C rfl rfl rfl runUnderlying28 <| Rm C rfl rfl <| R.lenSlice C rfl rfl rfl runUnderlying28 <| R.int C rfl rfl rfl rfl b_neq <| R.fixv (t := 188) (v' := .bool false) rfl (by (exact congrArg Value.bool (by rw [hcl1]; simp))) <| R.pickF C rfl rfl rfl rfl <| Rm C rfl rfl <| R.fixv (t := 190) (v' := .bool false) rfl (by rfl) <| Rm C rfl rfl <| Rm C rfl rfl <| R.int C rfl rfl rfl rfl b_neq <| R.fixv (t := 193) (v' := .bool false) rfl (by (exact congrArg Value.bool (by simp))) <| R.pickF C rfl rfl rfl rfl <| Rm C rfl rfl <| R.fixv (t := 195) (v' := .bool false) rfl (by rfl) <| Rm C rfl rfl <| Rm C rfl rfl <| R.int C rfl rfl rfl rfl b_neq <| R.fixv (t := 198) (v' := .bool false) rfl (by (exact congrArg Value.bool (by simp))) ?_; refine R.pickF C rfl rfl rfl rfl <| R.done C <| X.cond C.1 rfl (fun h => nomatch h) (fun _ => ?_)
      refine X.skip C.1 <| Xs C <| Xr C rfl rfl <| Rf C 4 rfl rfl runUnderlying25 rfl sizeOf23 <| R.loadOne C rfl rfl rfl isAgg23 (by repeat (first | exact Mh | apply Mt)) rfl <| R.lenSlice C rfl rfl rfl runUnderlying23 <| R.int C rfl rfl rfl rfl b_eql <| R.done C <| X.cond C.1 rfl (fun hz => ?_) (fun hz => ?_)
      · have hz := hz
        refine Xr C rfl rfl <| R.callR C rfl rfl rfl rfl ((found_c _ (he3.mono hM))) fun v9 ro9 hl9 hq9 => Ad C rfl rfl <| X.ret0 C (by kernel_rfl) rfl rfl func12 rfl (by exact (.tmp rfl .nil)) fun w9 hs9 => hret _ _ _ (RO.le_trans hl3 (RO.le_trans hM hl9)) ?_ w9 hs9
        exact hq9
      · have hz := hz
        have hnp : 0 < b.ws.length := List.length_pos_iff.2 (by simpa using hz)
        obtain ⟨j, hj⟩ : ∃ j : Nat, (j : Int) = n % (b.ws.length : Int) := ⟨(n % (b.ws.length : Int)).toNat, by have := Int.emod_nonneg n (show (b.ws.length : Int) ≠ 0 by omega); omega⟩
        have hj1 : j < b.ws.length := by have := Int.emod_lt_of_pos n (show (0 : Int) < b.ws.length by omega); omega
        have hjO : (b.ws.length : Int) - 1 - j = ((b.ws.length - 1 - j : Nat) : Int) := by omega
        have htf := turn_false hg hj1
        refine X.skip C.1 <| Xr C rfl rfl <| Rm C rfl rfl <| R.convInt C rfl rfl rfl runUnderlying5 runUnderlying3 (wrap64 (by omega) (by omega)) <| Rf C 4 rfl rfl runUnderlying25 rfl sizeOf23 <| R.loadOne C rfl rfl rfl isAgg23 (by repeat (first | exact Mh | apply Mt)) rfl <| R.lenSlice C rfl rfl rfl runUnderlying23 <| R.int C rfl rfl rfl rfl (b_remP (by omega) (by omega)) <| R.fixv (t := 210) (v' := .int .i64 (j : Int)) rfl (by exact congrArg (Value.int .i64) hj.symm) <| Ad C rfl rfl <| Xr C rfl rfl <| R.loadAgg C rfl rfl rfl isAgg25 sizeOf25 (by repeat (first | exact Mh | apply Mt)) Tk5 <| Rm C rfl rfl <| R.callR C rfl rfl rfl rfl ((false_c hJ (he3.mono hM) (hv3.mono hM) hsh (j : Int))) fun w20 so20 hm20 hp20 => ?_
        subst hp20
        replace hM := RO.le_trans hM hm20
        refine Rm C rfl rfl <| R.ext C rfl rfl rfl rfl <| R.ext C rfl rfl rfl rfl <| R.asg C rfl rfl rfl <| Ad C rfl rfl <| Xr C rfl rfl <| R.loadAgg C rfl rfl rfl isAgg25 sizeOf25 (by repeat (first | exact Mh | apply Mt)) Tk5 <| Rf C 4 rfl rfl runUnderlying25 rfl sizeOf23 <| R.loadOne C rfl rfl rfl isAgg23 (by repeat (first | exact Mh | apply Mt)) rfl <| R.lenSlice C rfl rfl rfl runUnderlying23 <| R.int C rfl rfl rfl rfl (b_sub (by omega) (by omega)) <| Rm C rfl rfl <| R.int C rfl rfl rfl rfl (b_sub (by omega) (by omega)) <| R.fixv (t := 224) (v' := .int .i64 ((b.ws.length - 1 - j : Nat) : Int)) rfl (by exact congrArg (Value.int .i64) hjO) <| R.callR C rfl rfl rfl rfl ((false_c hJ (he3.mono hM) (hvO.mono hM) hshO ((b.ws.length - 1 - j : Nat) : Int))) fun w21 so21 hm21 hp21 => ?_
        simp only [Int.toNat_natCast] at hp21 ⊢
        rw [htf] at hp21
        subst hp21
        replace hM := RO.le_trans hM hm21
        generalize told b (b.witness (j : Int)) (fun c => c.m.testBit j) = u at *
        refine Rm C rfl rfl <| R.ext C rfl rfl rfl rfl <| R.ext C rfl rfl rfl rfl <| R.asg C rfl rfl rfl <| Ad C rfl rfl <| Xr C rfl rfl <| Rm C rfl rfl <| Rm C rfl rfl <| R.int C rfl rfl rfl rfl b_eql <| R.fixv (t := 230) (v' := .bool true) rfl (by (exact congrArg Value.bool (by simp))) <| Rm C rfl rfl <| R.fixv (t := 231) (v' := .bool true) rfl (by rfl) <| Rm C rfl rfl <| Rm C rfl rfl <| R.int C rfl rfl rfl rfl b_eql <| R.fixv (t := 234) (v' := .bool true) rfl (by (exact congrArg Value.bool (by simp))) <| R.pickT C rfl rfl rfl rfl <| Rm C rfl rfl <| R.fixv (t := 236) (v' := .bool true) rfl (by rfl) <| R.callR C rfl rfl rfl rfl ((found_c _ (he3.mono hM))) fun v9 ro9 hl9 hq9 => R.pickT C rfl rfl rfl rfl <| Ad C rfl rfl <| X.ret0 C (by kernel_rfl) rfl rfl func12 rfl (by exact (.tmp rfl .nil)) fun w9 hs9 => hret _ _ _ (RO.le_trans hl3 (RO.le_trans hM hl9)) ?_ w9 hs9
        exact hq9
end Go.Lg.B
namespace Go.Lg.B
open Go Go.Proofs Go.Proofs.YtlkmnfdipiielaaGreatDoor Go.Proofs.Tryz
set_option maxRecDepth 100000
theorem anyOrder_k1 : (Rows.bearingAnyOrderRow.inPlace == prog.inPlace 12) = true := by kernel_rfl
theorem anyOrder_k2 : (Rows.bearingAnyOrderRow.unfollowed == prog.unfollowed 12) = true := by kernel_rfl
theorem anyOrder_k3 : (Rows.bearingAnyOrderRow.recurses == prog.recurses 12) = true := by kernel_rfl
theorem anyOrder_k4 : (Rows.bearingAnyOrderRow.named == prog.varsNamed 12) = true := by kernel_rfl
theorem anyOrder_name : prog.funcNamed "lagan/laganlaw01.BearingAnyOrder" = some 12 := by kernel_rfl
theorem anyOrder_goes : true = Rows.bearingAnyOrderRow.goesBy prog := by kernel_rfl
theorem anyOrder_wf : Rows.bearingAnyOrderRow.wfByText (OpenSpec.ofChange Rows.bearingAnyOrderSpec) = true := by kernel_rfl
theorem anyOrder_facts : joinedFacts prog 12 Tryz.f12 Rows.bearingAnyOrderSpec Rows.bearingAnyOrderRow = true := by
  unfold joinedFacts
  exact (and_mk (and_mk (and_mk (and_mk (and_mk (and_mk (and_mk (and_mk (and_mk (and_mk (and_mk (and_mk (and_mk (and_mk (and_mk (and_mk (and_mk (and_mk (and_mk (and_mk (and_mk (and_mk (and_mk (and_mk (and_mk (and_mk (and_mk (and_mk (and_mk (and_mk (and_mk (by as_aux_lemma => kernel_rfl)
    k_lo)
    k_mr)
    (by as_aux_lemma => kernel_rfl))
    (by as_aux_lemma => kernel_rfl))
    (by as_aux_lemma => kernel_rfl))
    k_stops)
    (by as_aux_lemma => kernel_rfl))
    k_knobs)
    anyOrder_k1)
    anyOrder_k2)
    anyOrder_k3)
    anyOrder_k4)
    (by as_aux_lemma => kernel_rfl))
    (by as_aux_lemma => kernel_rfl))
    (by as_aux_lemma => kernel_rfl))
    (by as_aux_lemma => kernel_rfl))
    (by as_aux_lemma => kernel_rfl))
    (by as_aux_lemma => kernel_rfl))
    (by as_aux_lemma => kernel_rfl))
    (by as_aux_lemma => kernel_rfl))
    (by as_aux_lemma => kernel_rfl))
    (beq_iff_eq.2 k_pk.symm))
    (by as_aux_lemma => kernel_rfl))
    k_heard)
    k_may)
    (beq_iff_eq.2 k_lift.symm))
    (beq_iff_eq.2 k_make))
    (by as_aux_lemma => kernel_rfl))
    (by as_aux_lemma => kernel_rfl))
    (by as_aux_lemma => kernel_rfl))
    (by as_aux_lemma => kernel_rfl))
end Go.Lg.B
namespace Go.Proofs.YtlkmnfdipiielaaGreatDoor
open Go Go.Conc Go.Lg Go.Lg.B Go.ChangeShapes Go.RowKit Go.WideShapes
set_option maxRecDepth 100000
theorem anyOrder_lifted (os : Os) (started : os.Started) (H : Type) (enc : TypeId × Value → H) :
    ReturnsInLeavingWide {} Tryz.checked os 12 .any (fun w args => (Rows.bearingAnyOrderSpec.pre enc Tryz.prog Tryz.f12 [] false w args ∧ laidMetH Tryz.prog laid1 w) ∧ sizedMet enc Tryz.prog Tryz.f12 (OpenSpec.ofChange Rows.bearingAnyOrderSpec) false w args)
      (Rows.bearingAnyOrderSpec.post enc Tryz.prog Tryz.f12 false true false false) := by
  refine leaving_of_root (C := Tryz.checked) (tb := 4) (X := fun w _ => laidMetH Tryz.prog laid1 w) (fun _ _ _ hh h => h.of_heap hh) own0 started Tryz.func12 laid0 (by
      intro t ht
      rw [Tryz.params12] at ht
      have hm : t ∈ [25, 5, 5] := ht
      have hall : ([25, 5, 5].all fun u => Tryz.prog.readableRec u && decide (u < Tryz.prog.types.size)) = true := by kernel_rfl
      have := List.all_eq_true.1 hall t hm
      rw [Bool.and_eq_true, decide_eq_true_eq] at this
      exact this) rfl (by kernel_rfl) Tryz.underlying4
    (ChangeSpec.witness_shaped (enc := enc) (C := Tryz.checked) (os := os) (X := fun w _ => laidMetH Tryz.prog laid1 w) false (World.doorLaid Tryz.prog 89 os) #[.agg #[.int .i64 0, .int .i64 0, .int .i64 0, .slice none 0 0, .slice none 0 0], .int .u8 0, .int .u8 0] 8 rfl (door_shaped os _) (by kernel_rfl) (by kernel_rfl) (by kernel_rfl) (door_met os _)) ?_
  intro W base args ds gs before hval hW _ _ hL
  obtain ⟨p, q, hA, hV, rfl, _, _⟩ := hW
  obtain ⟨rfl, rfl⟩ := trodVars_none hV
  have hA : DataW.TrodAll enc Tryz.prog W 0 (fun _ => true) true Tryz.f12.params.toList args.toList ds p := hA
  have hval : ∀ (j : Nat) t v, Tryz.f12.params[j]? = some t → args[j]? = some v → Value.okWide Tryz.prog W .any base t v := hval
  rw [Tryz.params12] at hA hval
  obtain ⟨v1, l1, d1, k1, p1, q1, e1, rfl, rfl, h1, hA⟩ := trodAll_cons hA
  obtain ⟨v2, l2, d2, k2, p2, q2, rfl, rfl, rfl, h2, hA⟩ := trodAll_cons hA
  obtain ⟨v3, l3, d3, k3, p3, q3, rfl, rfl, rfl, h3, hA⟩ := trodAll_cons hA
  obtain ⟨rfl, rfl, rfl⟩ := trodAll_nil hA
  have ea : args = #[v1, v2, v3] := Array.toList_inj.1 e1
  subst ea
  obtain ⟨b, b1⟩ := argBk (hval 0 25 v1 rfl rfl) h1
  obtain ⟨o, rfl, o1⟩ := argU8 (hval 1 5 v2 rfl rfl) h2
  obtain ⟨q, rfl, o2⟩ := argU8 (hval 2 5 v3 rfl rfl) h3
  exact ⟨rfl, order_root o1 o2 (env_of_laid hL) b1⟩
theorem anyOrder_row : Rows.BearingAnyOrderSaid :=
  OpenClaim.holds_of_wide_leaving 12 Tryz.f12 rfl rfl rfl rfl rfl rfl rfl ⟨rfl, rfl, rfl, rfl, rfl⟩ rfl rfl rfl rfl rfl anyOrder_name Tryz.func12 anyOrder_facts
    (of_decide_eq_true (by kernel_rfl)) (by unfold Func.isWrapper; first | (rw [if_pos (by decide +kernel)]; kernel_rfl) | (rw [if_neg (by decide +kernel)]; exact ⟨rfl, rfl⟩))
    (fun os started H enc _ => anyOrder_lifted os started H enc)
theorem anyOrder_holds : Rows.BearingAnyOrderCardSaid :=
  card_goes .later [.funcs] true (true, "6da441031df1273c87b994104071112c0d6d76e328f9edd428a3df0ab3bd48e1") true
    anyOrder_row anyOrder_wf bearingAnyOrder_row_tie rfl ⟨rfl, rfl⟩ k_main rfl
    (fun f fn hf hfn => by
      obtain rfl : f = 12 := Option.some.inj (anyOrder_name.symm.trans hf) |>.symm
      obtain rfl : fn = Tryz.f12 := (Option.some.inj (Tryz.func12.symm.trans hfn)).symm
      exact ⟨k_looks, fun j t ht => by
        rw [Tryz.params12] at ht
        have hm : t ∈ [25, 5, 5] := by simpa using Array.mem_of_getElem? ht
        have hall : ([25, 5, 5].all fun u => !Tryz.prog.wantsStandIn u) = true := by kernel_rfl
        exact (show Tryz.prog.wantsStandIn t = false by simpa using List.all_eq_true.1 hall t hm)⟩)
    anyOrder_goes
end Go.Proofs.YtlkmnfdipiielaaGreatDoor
