/-
  It is proved that the given function answers true for every input, whatever is scheduled: the statement News of the seat. Conditions: none but those of the given statement itself.
-/
import Derived.Test.YtlkmnfdipiielaaGreatDoorKE
import Derived.ChangeArms
import Derived.WideShapes
import Derived.ChangeShapes
import Derived.Conc.Holds
set_option maxRecDepth 100000
set_option linter.all false
set_option linter.unusedVariables false
set_option linter.unusedSimpArgs false
set_option linter.unusedSectionVars false
namespace Go.Lg
open Go Go.Conc
end Go.Lg
namespace Go.Lg.B
open Go Go.Conc Go.Lg Go.Proofs Go.Proofs.Tryz
variable {main : Bool} {J : Goroutine → Mem → Prop} (hJ : Closed prog main J)
include hJ
omit hJ in
theorem short_of {b : Bk} (hb : b.good) : b.short := by
  obtain ⟨h1, h2, h3, h4, _, h5, _⟩ := hb
  unfold Bk.short; omega
end Go.Lg.B
namespace Go.Lg
open Go
abbrev roOf (W : World) : RO := fun b => W.heap[b]?
theorem Sub.of_get {off n : Nat} {l out : List Value} (hn : off + n ≤ l.length) (ho : out.length = n) (h : ∀ i, i < n → l[off + i]? = out[i]?) : Sub off n l out := by
  have e : out = (l.drop off).take n := by
    refine List.ext_getElem? fun i => ?_
    by_cases hi : i < n
    · rw [← h i hi, List.getElem?_take_of_lt hi, List.getElem?_drop]
    · rw [List.getElem?_eq_none (by omega), List.getElem?_eq_none (by simp; omega)]
  rw [e]; exact Sub.of hn
theorem cell_block {W : World} {a : Addr} {v : Value} (h : W.cell? a = some v) : a.spot = none ∧ ∃ l t fq, W.heap[a.block]? = some (.cells l t fq) ∧ l[a.off]? = some v := by
  unfold World.cell? at h
  split at h
  · rename_i c t fq hc
    split at h
    · cases h
    · rename_i hs
      exact ⟨by simpa using hs, c, t, fq, hc, h⟩
  · cases h
theorem cells_get {W : World} {base : Nat} {a : Addr} {n : Nat} {l : List Value} (h : W.cells? base a n = some l) : l.length = n ∧ ∀ i, i < n → W.cell? (a.add i) = l[i]? := by
  unfold World.cells? at h
  split at h
  · refine ⟨by simpa using mapM_some_length h, fun i hi => mapM_some_get h i i (by simp [hi])⟩
  · cases h
theorem add_add (a : Addr) (i j : Nat) : (a.add i).add j = a.add (i + j) := by
  by_cases h1 : i = 0 <;> by_cases h2 : j = 0 <;> simp [Addr.add, h1, h2] <;> omega
theorem add_none {a : Addr} (h : a.spot = none) (i : Nat) : a.add i = ⟨a.block, a.off + i, none⟩ := by
  obtain ⟨b, o, s⟩ := a
  subst h
  by_cases h1 : i = 0 <;> simp [Addr.add, h1]
section
variable {H : Type} {enc0 : TypeId × Value → H} {P : Program} {W : World} {base : Nat} {sp : Nat → Bool} {held : Bool}
theorem ls_of_trod {α : Type} {enc : α → List Value} {k : Nat} {t e : TypeId} {fuel : Nat} {cs : List Value} {x : DataW H × List MemPlace} (ht : P.underlying t = some (.slice e)) (hc : P.cellsOf e = k) (hk : 0 < k) (hlen : ∀ x, (enc x).length = k)
    (hel : ∀ n cs z, DataW.trod enc0 P W base sp held n e cs = some z → ∃ y, cs = enc y) (h : DataW.trod enc0 P W base sp held fuel t cs = some x) : ∃ v xs, cs = [v] ∧ Ls enc k (roOf W) v xs := by
  subst hc
  rcases DataW.trod_slice ht h with ⟨rfl, _⟩ | ⟨a, len, cap, elems, rest, n, _, rfl, _, hb, hl, _, hlen2, hel2, _⟩
  · exact ⟨_, [], rfl, .nil⟩
  · have one : ∀ i, i < len → ∃ y : α, W.cells? base (a.add (i * P.cellsOf e)) (P.cellsOf e) = some (enc y) := fun i hi => by
      have h1 := hel2 i hi
      rw [List.getElem?_eq_getElem (by omega)] at h1
      obtain ⟨l, h2, h3⟩ := Option.bind_eq_some_iff.1 h1
      obtain ⟨y, rfl⟩ := hel _ _ _ h3
      exact ⟨y, h2⟩
    have all : ∀ m, m ≤ len → ∃ ys : List α, ys.length = m ∧ ∀ j, j < m * P.cellsOf e → W.cell? (a.add j) = (ys.flatMap enc)[j]? := by
      intro m
      induction m with
      | zero => exact fun _ => ⟨[], rfl, fun j hj => by omega⟩
      | succ m ih =>
        intro hm
        obtain ⟨ys, h1, h2⟩ := ih (by omega)
        obtain ⟨y, hy⟩ := one m (by omega)
        refine ⟨ys ++ [y], by simp [h1], fun j hj => ?_⟩
        have hfl : (ys.flatMap enc).length = m * P.cellsOf e := by rw [flatMap_len hlen, h1]
        rw [List.flatMap_append]
        by_cases hjm : j < m * P.cellsOf e
        · rw [List.getElem?_append_left (by omega)]; exact h2 j hjm
        · rw [List.getElem?_append_right (by omega), hfl]
          have := (cells_get hy).2 (j - m * P.cellsOf e) (by rw [Nat.succ_mul] at hj; omega)
          simp only [List.flatMap_cons, List.flatMap_nil, List.append_nil]
          rw [← this, add_add]
          congr 2
          omega
    obtain ⟨ys, h1, h2⟩ := all len (Nat.le_refl _)
    refine ⟨_, ys, rfl, some a, cap, by rw [h1], ?_⟩
    by_cases h0 : len = 0
    · exact .inl (List.eq_nil_of_length_eq_zero (by omega))
    · right
      have hfl : (ys.flatMap enc).length = len * P.cellsOf e := by rw [flatMap_len hlen, h1]
      have hpos : 0 < len * P.cellsOf e := Nat.mul_pos (by omega) hk
      have hlast := h2 (len * P.cellsOf e - 1) (by omega)
      rw [List.getElem?_eq_getElem (by omega)] at hlast
      have hfirst := h2 0 hpos
      rw [List.getElem?_eq_getElem (by omega)] at hfirst
      have hs : a.spot = none := (cell_block hfirst).1
      rw [add_none hs] at hlast
      obtain ⟨_, l, t', fq, hh, hl2⟩ := cell_block hlast
      refine ⟨a.block, a.off, l.toList, t', fq, by obtain ⟨ab, ao, az⟩ := a; subst hs; rfl, by rw [Array.toArray_toList]; exact hh, ?_⟩
      rw [h1]
      have hlt : a.off + (len * P.cellsOf e - 1) < l.size := (Array.getElem?_eq_some_iff.1 hl2).1
      refine Sub.of_get (by simp; omega) hfl fun i hi => ?_
      have := h2 i hi
      rw [add_none hs] at this
      unfold World.cell? at this
      simp only at this
      rw [hh] at this
      simpa using this
theorem int_of_trod {t : TypeId} {k : IntKind} {fuel : Nat} {cs : List Value} {x : DataW H × List MemPlace} (ht : P.underlying t = some (.int k)) (h : DataW.trod enc0 P W base sp held fuel t cs = some x) : ∃ n, cs = [.int k n] ∧ (Lit.int k n).wf = true := by
  cases fuel with
  | zero => simp [DataW.trod] at h
  | succ n =>
    unfold DataW.trod at h
    rw [ht] at h
    split at h <;> simp_all
theorem bool_of_trod {t : TypeId} {fuel : Nat} {cs : List Value} {x : DataW H × List MemPlace} (ht : P.underlying t = some .bool) (h : DataW.trod enc0 P W base sp held fuel t cs = some x) : ∃ b, cs = [.bool b] := by
  cases fuel with
  | zero => simp [DataW.trod] at h
  | succ n =>
    unfold DataW.trod at h
    rw [ht] at h
    split at h <;> simp_all
end
end Go.Lg
namespace Go.Lg.B
open Go Go.Conc Go.Lg Go.Proofs Go.WideShapes Go.ChangeShapes Go.Proofs.Tryz
set_option maxRecDepth 100000
theorem cells3 : prog.cellsOf 3 = 1 := by kernel_rfl
theorem cells4 : prog.cellsOf 4 = 1 := by kernel_rfl
theorem cells22 : prog.cellsOf 22 = 1 := by kernel_rfl
theorem cells23 : prog.cellsOf 23 = 1 := by kernel_rfl
theorem cells25 : prog.cellsOf 25 = 5 := by kernel_rfl
theorem cells27 : prog.cellsOf 27 = 2 := by kernel_rfl
theorem cells46 : prog.cellsOf 46 = 2 := by kernel_rfl
theorem cells58 : prog.cellsOf 58 = 5 := by kernel_rfl
section
variable {H : Type} {enc0 : TypeId × Value → H} {W : World} {base : Nat} {sp : Nat → Bool} {held : Bool}
theorem field_of {P : Program} {t : TypeId} {fs : Array Field} {fuel : Nat} {cs : List Value} {x : DataW H × List MemPlace} (ht : P.underlying t = some (.struct fs)) (h : DataW.trod enc0 P W base sp held fuel t cs = some x) :
    cs.length = P.cellsOf t ∧ ∀ (i : Nat) (f : Field), fs[i]? = some f → ∃ n z, DataW.trod enc0 P W base sp held n f.type ((cs.drop f.offset).take (P.cellsOf f.type)) = some z := by
  obtain ⟨xs, n, _, _, h1, h2, h3⟩ := DataW.trod_struct ht h
  refine ⟨h1, fun i f hf => ?_⟩
  have hi : i < xs.length := by rw [h2]; exact (Array.getElem?_eq_some_iff.1 hf).1
  exact ⟨n, xs[i], by rw [h3 i f hf, List.getElem?_eq_getElem hi]⟩
theorem sq_of {n : Nat} {cs : List Value} {z : DataW H × List MemPlace} (h : DataW.trod enc0 prog W base sp held n 27 cs = some z) : ∃ s : Sq, cs = s.cells := by
  obtain ⟨hl, hf⟩ := field_of underlying27 h
  rw [cells27] at hl
  match cs, hl with
  | [a, c], _ =>
    have g0 : ∃ n z, DataW.trod enc0 prog W base sp held n 3 (([a, c].drop 0).take (prog.cellsOf 3)) = some z := hf 0 _ rfl
    rw [cells3] at g0
    obtain ⟨_, _, h0⟩ := g0
    have g1 : ∃ n z, DataW.trod enc0 prog W base sp held n 3 (([a, c].drop 1).take (prog.cellsOf 3)) = some z := hf 1 _ rfl
    rw [cells3] at g1
    obtain ⟨_, _, h1⟩ := g1
    obtain ⟨x0, e0, _⟩ := int_of_trod underlying3 h0
    obtain ⟨x1, e1, _⟩ := int_of_trod underlying3 h1
    simp at e0 e1
    subst e0; subst e1
    exact ⟨⟨x0, x1⟩, rfl⟩
theorem rc_of {n : Nat} {cs : List Value} {z : DataW H × List MemPlace} (h : DataW.trod enc0 prog W base sp held n 46 cs = some z) : ∃ s : Rc, cs = s.cells := by
  obtain ⟨hl, hf⟩ := field_of underlying46 h
  rw [cells46] at hl
  match cs, hl with
  | [a, c], _ =>
    have g0 : ∃ n z, DataW.trod enc0 prog W base sp held n 3 (([a, c].drop 0).take (prog.cellsOf 3)) = some z := hf 0 _ rfl
    rw [cells3] at g0
    obtain ⟨_, _, h0⟩ := g0
    have g1 : ∃ n z, DataW.trod enc0 prog W base sp held n 3 (([a, c].drop 1).take (prog.cellsOf 3)) = some z := hf 1 _ rfl
    rw [cells3] at g1
    obtain ⟨_, _, h1⟩ := g1
    obtain ⟨x0, e0, _⟩ := int_of_trod underlying3 h0
    obtain ⟨x1, e1, _⟩ := int_of_trod underlying3 h1
    simp at e0 e1
    subst e0; subst e1
    exact ⟨⟨x0, x1⟩, rfl⟩
theorem wt_of {n : Nat} {cs : List Value} {z : DataW H × List MemPlace} (h : DataW.trod enc0 prog W base sp held n 58 cs = some z) : ∃ s : Wt, cs = s.cells := by
  obtain ⟨hl, hf⟩ := field_of underlying58 h
  rw [cells58] at hl
  match cs, hl with
  | [a, c, d, e, f], _ =>
    have g0 : ∃ n z, DataW.trod enc0 prog W base sp held n 27 (([a, c, d, e, f].drop 0).take (prog.cellsOf 27)) = some z := hf 0 _ rfl
    rw [cells27] at g0
    obtain ⟨_, _, h0⟩ := g0
    have g1 : ∃ n z, DataW.trod enc0 prog W base sp held n 3 (([a, c, d, e, f].drop 2).take (prog.cellsOf 3)) = some z := hf 1 _ rfl
    rw [cells3] at g1
    obtain ⟨_, _, h1⟩ := g1
    have g2 : ∃ n z, DataW.trod enc0 prog W base sp held n 3 (([a, c, d, e, f].drop 3).take (prog.cellsOf 3)) = some z := hf 2 _ rfl
    rw [cells3] at g2
    obtain ⟨_, _, h2⟩ := g2
    have g3 : ∃ n z, DataW.trod enc0 prog W base sp held n 4 (([a, c, d, e, f].drop 4).take (prog.cellsOf 4)) = some z := hf 3 _ rfl
    rw [cells4] at g3
    obtain ⟨_, _, h3⟩ := g3
    obtain ⟨s, e0⟩ := sq_of h0
    obtain ⟨x1, e1, _⟩ := int_of_trod underlying3 h1
    obtain ⟨x2, e2, _⟩ := int_of_trod underlying3 h2
    obtain ⟨x3, e3⟩ := bool_of_trod underlying4 h3
    simp [Sq.cells] at e0 e1 e2 e3
    obtain ⟨rfl, rfl⟩ := e0
    subst e1; subst e2; subst e3
    exact ⟨⟨s, x1, x2, x3⟩, rfl⟩
theorem rcs_of {n : Nat} {cs : List Value} {z : DataW H × List MemPlace} (h : DataW.trod enc0 prog W base sp held n 22 cs = some z) : ∃ v xs, cs = [v] ∧ Ls Rc.cells 2 (fun b => W.heap[b]?) v xs :=
  ls_of_trod underlying22 cells46 (by decide) Rc.len (fun _ _ _ h => rc_of h) h
theorem wts_of {n : Nat} {cs : List Value} {z : DataW H × List MemPlace} (h : DataW.trod enc0 prog W base sp held n 23 cs = some z) : ∃ v xs, cs = [v] ∧ Ls Wt.cells 5 (fun b => W.heap[b]?) v xs :=
  ls_of_trod underlying23 cells58 (by decide) Wt.len (fun _ _ _ h => wt_of h) h
theorem argRc {r : Reach} {b0 : Nat} {v : Value} {d : DataW H} {p : List MemPlace} (hv : Value.okWide prog W r b0 46 v) (h : DataW.Trod enc0 prog W base sp held 46 v d p) : ∃ s : Rc, v = s.val := by
  obtain ⟨cs, rfl, _⟩ := okWide_struct underlying46 hv
  obtain ⟨n, h⟩ := h
  obtain ⟨s, e⟩ := rc_of h
  exact ⟨s, by rw [Rc.val, ← e]; rfl⟩
theorem argWt {r : Reach} {b0 : Nat} {v : Value} {d : DataW H} {p : List MemPlace} (hv : Value.okWide prog W r b0 58 v) (h : DataW.Trod enc0 prog W base sp held 58 v d p) : ∃ s : Wt, v = s.val := by
  obtain ⟨cs, rfl, _⟩ := okWide_struct underlying58 hv
  obtain ⟨n, h⟩ := h
  obtain ⟨s, e⟩ := wt_of h
  exact ⟨s, by rw [Wt.val, ← e]; rfl⟩
theorem argBk {r : Reach} {b0 : Nat} {v : Value} {d : DataW H} {p : List MemPlace} (hv : Value.okWide prog W r b0 25 v) (h : DataW.Trod enc0 prog W base sp held 25 v d p) : ∃ b, BkV (fun b => W.heap[b]?) v b := by
  obtain ⟨⟨cs⟩, rfl, _⟩ := okWide_struct underlying25 hv
  obtain ⟨n, h⟩ := h
  obtain ⟨hl, hf⟩ := field_of (cs := cs) underlying25 h
  rw [cells25] at hl
  match cs, hl with
  | [a, c, d, e, f], _ =>
    have g0 : ∃ n z, DataW.trod enc0 prog W base sp held n 3 (([a, c, d, e, f].drop 0).take (prog.cellsOf 3)) = some z := hf 0 _ rfl
    rw [cells3] at g0
    obtain ⟨_, _, h0⟩ := g0
    have g1 : ∃ n z, DataW.trod enc0 prog W base sp held n 3 (([a, c, d, e, f].drop 1).take (prog.cellsOf 3)) = some z := hf 1 _ rfl
    rw [cells3] at g1
    obtain ⟨_, _, h1⟩ := g1
    have g2 : ∃ n z, DataW.trod enc0 prog W base sp held n 3 (([a, c, d, e, f].drop 2).take (prog.cellsOf 3)) = some z := hf 2 _ rfl
    rw [cells3] at g2
    obtain ⟨_, _, h2⟩ := g2
    have g3 : ∃ n z, DataW.trod enc0 prog W base sp held n 22 (([a, c, d, e, f].drop 3).take (prog.cellsOf 22)) = some z := hf 3 _ rfl
    rw [cells22] at g3
    obtain ⟨_, _, h3⟩ := g3
    have g4 : ∃ n z, DataW.trod enc0 prog W base sp held n 23 (([a, c, d, e, f].drop 4).take (prog.cellsOf 23)) = some z := hf 4 _ rfl
    rw [cells23] at g4
    obtain ⟨_, _, h4⟩ := g4
    obtain ⟨x0, e0, _⟩ := int_of_trod underlying3 h0
    obtain ⟨x1, e1, _⟩ := int_of_trod underlying3 h1
    obtain ⟨x2, e2, _⟩ := int_of_trod underlying3 h2
    obtain ⟨v3, x3, e3, l3⟩ := rcs_of h3
    obtain ⟨v4, x4, e4, l4⟩ := wts_of h4
    simp at e0 e1 e2 e3 e4
    subst e0; subst e1; subst e2; subst e3; subst e4
    exact ⟨⟨x0, x1, x2, x3, x4⟩, _, _, rfl, l3, l4⟩
theorem argInt {r : Reach} {b0 : Nat} {v : Value} {d : DataW H} {p : List MemPlace} (hv : Value.okWide prog W r b0 3 v) (h : DataW.Trod enc0 prog W base sp held 3 v d p) : ∃ n, v = .int .i64 n ∧ -9223372036854775808 ≤ n ∧ n ≤ 9223372036854775807 := by
  obtain ⟨x, rfl, _, _, wx⟩ := open_int underlying3 hv h
  exact ⟨x, rfl, by simpa [Lit.wf, IntKind.min, IntKind.max, IntKind.signed, IntKind.bits] using wx⟩
end
end Go.Lg.B
namespace Go.Lg.B
open Go Go.Conc Go.Lg Go.Proofs Go.Proofs.Tryz
theorem eqT27n : IntT prog 9999 27 2 true := IntT.struct runUnderlying27 (by kernel_rfl) (.cons (by decide) rfl sizeOf3 isAgg3 (fun _ => rfl) (IntT.int runUnderlying3) (.cons (by decide) rfl sizeOf3 isAgg3 (fun _ => rfl) (IntT.int runUnderlying3) .nil))
theorem eqT3n : IntT prog 9999 3 1 false := IntT.int runUnderlying3
theorem eqT4n (p q : Bool) : Eq1 prog 9999 4 (.bool p) (.bool q) (p == q) := by
  intro M K hk
  show Sm prog M (Op.equalIn _ _ (.bool p) (.bool q)) K
  unfold Op.equalIn
  exact Sm.bind (Sm.underlying runUnderlying4 (Sm.pure hk))
def wtPart (w : Wt) (o : Nat) : List Int × Bool := if o = 0 then ([w.s.e, w.s.n], false) else if o = 2 then ([w.b], false) else if o = 3 then ([w.k], false) else ([], w.sure)
theorem eq58 (a b : Wt) : Eq1 prog 10000 58 a.val b.val (decide (a = b)) := by
  intro M K hk
  show Sm prog M (Op.equalIn _ _ (.agg a.cells.toArray) (.agg b.cells.toArray)) K
  unfold Op.equalIn
  refine Sm.bind (Sm.underlying runUnderlying58 ?_)
  simp only
  refine Sm.bind (Sm.program ?_)
  simp only [show prog.stoodInHeld 58 = false by kernel_rfl, Bool.false_eq_true, if_false]
  rw [← Array.forIn_toList]
  refine Sm.bind (Sm.forEq (fun f : Field => decide (wtPart a f.offset = wtPart b f.offset)) _ (fun f hm s M K hk => ?_) _ _ ?_)
  · have h0 : Sub 0 2 a.cells (ints [a.s.e, a.s.n]) := .take (.take .nil)
    have h0' : Sub 0 2 b.cells (ints [b.s.e, b.s.n]) := .take (.take .nil)
    simp only [List.mem_cons, List.not_mem_nil, or_false] at hm
    rcases hm with rfl | rfl | rfl | rfl
    · rw [if_pos (by decide)]
      refine Sm.bind (Sm.partAgg isAgg27 sizeOf27 h0 (Sm.bind (Sm.partAgg isAgg27 sizeOf27 h0' (Sm.bind (eqT27n [a.s.e, a.s.n] [b.s.e, b.s.n] rfl rfl _ _ ?_)))))
      by_cases h : [a.s.e, a.s.n] = [b.s.e, b.s.n]
      · rw [if_pos (by simpa [wtPart] using h)] at hk; rw [if_neg (by simpa using h)]; exact Sm.pure hk
      · rw [if_neg (fun e => h (by simpa [wtPart] using e))] at hk; rw [if_pos (by rw [decide_eq_false h]; rfl)]; exact Sm.pure hk
    · rw [if_pos (by decide)]
      refine Sm.bind (Sm.partOne (v := .int .i64 a.b) isAgg3 rfl (Sm.bind (Sm.partOne (v := .int .i64 b.b) isAgg3 rfl (Sm.bind (eqT3n [a.b] [b.b] rfl rfl _ _ ?_)))))
      by_cases h : a.b = b.b
      · rw [if_pos (by simpa [wtPart] using h)] at hk; rw [if_neg (by simpa using h)]; exact Sm.pure hk
      · rw [if_neg (by simpa [wtPart] using h)] at hk; rw [if_pos (by simpa using h)]; exact Sm.pure hk
    · rw [if_pos (by decide)]
      refine Sm.bind (Sm.partOne (v := .int .i64 a.k) isAgg3 rfl (Sm.bind (Sm.partOne (v := .int .i64 b.k) isAgg3 rfl (Sm.bind (eqT3n [a.k] [b.k] rfl rfl _ _ ?_)))))
      by_cases h : a.k = b.k
      · rw [if_pos (by simpa [wtPart] using h)] at hk; rw [if_neg (by simpa using h)]; exact Sm.pure hk
      · rw [if_neg (by simpa [wtPart] using h)] at hk; rw [if_pos (by simpa using h)]; exact Sm.pure hk
    · rw [if_pos (by decide)]
      refine Sm.bind (Sm.partOne (v := .bool a.sure) isAgg4 rfl (Sm.bind (Sm.partOne (v := .bool b.sure) isAgg4 rfl (Sm.bind (eqT4n a.sure b.sure _ _ ?_)))))
      by_cases h : a.sure = b.sure
      · rw [if_pos (by simpa [wtPart] using h)] at hk; rw [if_neg (by simpa using h)]; exact Sm.pure hk
      · rw [if_neg (by simpa [wtPart] using h)] at hk; rw [if_pos (by simpa using h)]; exact Sm.pure hk
  · have e : a = b ↔ ([a.s.e, a.s.n] = [b.s.e, b.s.n] ∧ a.b = b.b ∧ a.k = b.k ∧ a.sure = b.sure) := by
      obtain ⟨⟨a1, a2⟩, a3, a4, a5⟩ := a
      obtain ⟨⟨b1, b2⟩, b3, b4, b5⟩ := b
      simp [and_assoc]
    by_cases h : a = b
    · subst h
      simp only [List.all_cons, List.all_nil, decide_true, Bool.and_self, if_true]
      exact Sm.pure (by simpa using hk)
    · rw [if_neg (fun hall => h (e.2 ?_))]
      · rw [decide_eq_false h] at hk; exact Sm.pure hk
      · simp only [List.all_cons, List.all_nil, Bool.and_true, Bool.and_eq_true, decide_eq_true_eq, wtPart] at hall
        simpa using hall
end Go.Lg.B
namespace Go.Lg
open Go Go.Conc
theorem R.neEq {P : Program} {main : Bool} {J : Goroutine → Mem → Prop} {b : Frame} (C : Ctx P main J b) {cs : List Frame} {n : Nat} {ds : List Deferred} {σ : Slots} {k : List Item} {ops : Array Oper} {i : Nat} {rest : List Nat} {d : Nat} {ty : TypeId} {pos : String} {af : Array Edge} {g : Option (Nat × Bool)}
    {t t' : TypeId} {x y : Operand} {p q : List Value} {r : Bool} {M : Mem} (ho : ops[i]? = some ⟨some d, .binOp .neq t x y t', ty, pos, af, g⟩) (hg : wantedS ops σ ⟨some d, .binOp .neq t x y t', ty, pos, af, g⟩ = some true)
    (hx : ev σ x = some (.agg p.toArray)) (hy : ev σ y = some (.agg q.toArray)) (ht : Eq1 P 10000 t (.agg p.toArray) (.agg q.toArray) r) (hd : P.eqGuardType P.depth t = false)
    (h : R J b cs n ops rest k ds ((d, .bool (!r)) :: σ) M) : R J b cs n ops (i :: rest) k ds σ M :=
  R.v C ho hg rfl (fun a ha K hk => by
    unfold execOp
    simp only [ha.ev hx, ha.ev hy]
    refine ex_v (Sm.bind ?_)
    unfold eqGuard
    refine Sm.bind (Sm.program (Sm.bind (Sm.program ?_)))
    rw [hd]
    refine Sm.pure ?_
    show Sm P M (binOp .neq t (.agg p.toArray) (.agg q.toArray)) _
    unfold binOp
    simp only
    exact Sm.bind (ht _ _ (Sm.pure hk))) h
end Go.Lg
namespace Go.Lg.B
open Go Go.Conc Go.Lg Go.Proofs Go.Proofs.Tryz
def trueOf (x y : Int) : Int :=
  if 12 * min (max x (-x)) (max y (-y)) ≤ 5 * max (max x (-x)) (max y (-y)) then (if max x (-x) > max y (-y) then (if x > 0 then 2 else 6) else if y > 0 then 0 else 4)
  else if x > 0 then (if y > 0 then 1 else 3) else if y > 0 then 7 else 5
theorem trueOf_bearing (a z : Sq) : trueOf (z.e - a.e) (z.n - a.n) = bearing a z := by
  generalize hx : z.e - a.e = x
  generalize hy : z.n - a.n = y
  simp only [bearing, aside, hx, hy, trueOf]
  repeat' split
  all_goals first | rfl | (exfalso; simp_all; done) | (exfalso; simp_all; omega)
section
variable {main : Bool} {J : Goroutine → Mem → Prop} (hJ : Closed prog main J)
include hJ
theorem nearR_c (s : Sq) (ro : RO) : CallP prog J (fnv 83) [s.val] ro (.bool (isPlace s)) := by
  refine CallP.intro hJ (by kernel_rfl) fun c cs tail hret => enter_X (n := 11) func83 rfl rfl (Nl rfl) ?_
  have C : Ctx prog main J (bf 83 .normal) := ⟨hJ, by decide⟩
  refine Xr C rfl rfl <| R.box C rfl rfl rfl rfl fun p1 => Ad C rfl rfl <| Xr C rfl rfl <| Rf C 0 rfl rfl runUnderlying27 rfl sizeOf3 <| R.loadOne C rfl rfl rfl isAgg3 (by repeat (first | exact Mh | apply Mt)) rfl <| R.callP C rfl rfl rfl rfl (betweenR_c hJ _ _ _ _) <| Rm C rfl rfl <| R.fix (t := 6) rfl (fun q1 => ?_) (fun q1 => ?_)
  · have q1 := q1
    refine Rf C 1 rfl rfl runUnderlying27 rfl sizeOf3 <| R.loadOne C rfl rfl rfl isAgg3 (by repeat (first | exact Mh | apply Mt)) rfl <| R.callP C rfl rfl rfl rfl (betweenR_c hJ _ _ _ _) <| R.pickT C rfl rfl rfl rfl <| Ad C rfl rfl <| Xt C func83 <| Hp hret ?_
    simp_all [isPlace, retVal]
  · have q1 := q1
    refine R.pass C rfl rfl <| R.pass C rfl rfl <| R.pass C rfl rfl <| R.pickF C rfl rfl rfl rfl <| Ad C rfl rfl <| Xt C func83 <| Hp hret ?_
    simp_all [isPlace, retVal]
theorem insideR_c (x : Rc) (l m : Int) (ro : RO) : CallP prog J (fnv 90) [x.val, .int .i64 l, .int .i64 m] ro (.bool (isReach x l m)) := by
  refine CallP.intro hJ (by kernel_rfl) fun c cs tail hret => enter_X (n := 24) func90 rfl rfl (Nl rfl) ?_
  have C : Ctx prog main J (bf 90 .normal) := ⟨hJ, by decide⟩
  refine Xr C rfl rfl <| R.box C rfl rfl rfl rfl fun p3 => Ad C rfl rfl <| Xr C rfl rfl <| Rm C rfl rfl <| Rf C 0 rfl rfl runUnderlying46 rfl sizeOf3 <| R.loadOne C rfl rfl rfl isAgg3 (by repeat (first | exact Mh | apply Mt)) rfl <| R.int C rfl rfl rfl rfl b_leq <| Rm C rfl rfl <| R.fix (t := 11) rfl (fun q1 => ?_) (fun q1 => ?_)
  · have q1 := q1
    refine Rf C 0 rfl rfl runUnderlying46 rfl sizeOf3 <| R.loadOne C rfl rfl rfl isAgg3 (by repeat (first | exact Mh | apply Mt)) rfl <| Rf C 1 rfl rfl runUnderlying46 rfl sizeOf3 <| R.loadOne C rfl rfl rfl isAgg3 (by repeat (first | exact Mh | apply Mt)) rfl <| R.int C rfl rfl rfl rfl b_leq <| R.pickT C rfl rfl rfl rfl <| Rm C rfl rfl <| R.fix (t := 18) rfl (fun q2 => ?_) (fun q2 => ?_)
    · have q2 := q2
      refine Rf C 1 rfl rfl runUnderlying46 rfl sizeOf3 <| R.loadOne C rfl rfl rfl isAgg3 (by repeat (first | exact Mh | apply Mt)) rfl <| Rm C rfl rfl <| R.int C rfl rfl rfl rfl b_leq <| R.pickT C rfl rfl rfl rfl <| Ad C rfl rfl <| Xt C func90 <| Hp hret ?_
      first | (simp_all [isReach, retVal]; done) | (simp_all [isReach, retVal]; omega)
    · have q2 := q2
      refine R.pass C rfl rfl <| R.pass C rfl rfl <| R.pass C rfl rfl <| R.pass C rfl rfl <| R.pickF C rfl rfl rfl rfl <| Ad C rfl rfl <| Xt C func90 <| Hp hret ?_
      first | (simp_all [isReach, retVal]; done) | (simp_all [isReach, retVal]; omega)
  · have q1 := q1
    refine R.pass C rfl rfl <| R.pass C rfl rfl <| R.pass C rfl rfl <| R.pass C rfl rfl <| R.pass C rfl rfl <| R.pickF C rfl rfl rfl rfl <| Rm C rfl rfl <| R.pass C rfl rfl <| R.pass C rfl rfl <| R.pass C rfl rfl <| R.pass C rfl rfl <| R.pickF C rfl rfl rfl rfl <| Ad C rfl rfl <| Xt C func90 <| Hp hret ?_
    first | (simp_all [isReach, retVal]; done) | (simp_all [isReach, retVal]; omega)
theorem isCompassR_c {b : Bk} {v : Value} {ro : RO} (hv : BkV ro v b) (hb : b.short) (k : Int) : CallP prog J (fnv 91) [v, .int .i64 k] ro (.bool (between k 0 (b.cs.length - 1))) := by
  obtain ⟨vc, vw, rfl, hc, hw⟩ := hv
  obtain ⟨h1, h2⟩ := hb
  obtain ⟨b1, c1, rfl⟩ := hc.form
  refine CallP.intro hJ (by kernel_rfl) fun c cs tail hret => enter_X (n := 11) func91 rfl rfl (Nl rfl) ?_
  have C : Ctx prog main J (bf 91 .normal) := ⟨hJ, by decide⟩
  refine Xr C rfl rfl <| R.box C rfl rfl rfl rfl fun p2 => Ad C rfl rfl <| Xr C rfl rfl <| Rm C rfl rfl <| Rf C 3 rfl rfl runUnderlying25 rfl sizeOf22 <| R.loadOne C rfl rfl rfl isAgg22 (by repeat (first | exact Mh | apply Mt)) rfl <| R.lenSlice C rfl rfl rfl runUnderlying22 <| R.int C rfl rfl rfl rfl (b_sub (by omega) (by omega)) <| R.callP C rfl rfl rfl rfl (betweenR_c hJ _ _ _ _) <| Ad C rfl rfl <| Xt C func91 <| Hp hret ?_
  simp_all [retVal]
theorem isWitnessR_c {b : Bk} {v : Value} {ro : RO} (hv : BkV ro v b) (hb : b.short) (k : Int) : CallP prog J (fnv 112) [v, .int .i64 k] ro (.bool (between k 0 (b.ws.length - 1))) := by
  obtain ⟨vc, vw, rfl, hc, hw⟩ := hv
  obtain ⟨h1, h2⟩ := hb
  obtain ⟨b1, c1, rfl⟩ := hw.form
  refine CallP.intro hJ (by kernel_rfl) fun c cs tail hret => enter_X (n := 11) func112 rfl rfl (Nl rfl) ?_
  have C : Ctx prog main J (bf 112 .normal) := ⟨hJ, by decide⟩
  refine Xr C rfl rfl <| R.box C rfl rfl rfl rfl fun p2 => Ad C rfl rfl <| Xr C rfl rfl <| Rm C rfl rfl <| Rf C 4 rfl rfl runUnderlying25 rfl sizeOf23 <| R.loadOne C rfl rfl rfl isAgg23 (by repeat (first | exact Mh | apply Mt)) rfl <| R.lenSlice C rfl rfl rfl runUnderlying23 <| R.int C rfl rfl rfl rfl (b_sub (by omega) (by omega)) <| R.callP C rfl rfl rfl rfl (betweenR_c hJ _ _ _ _) <| Ad C rfl rfl <| Xt C func112 <| Hp hret ?_
  simp_all [retVal]
theorem greatR_c {b : Bk} {v : Value} {ro : RO} (hv : BkV ro v b) : CallP prog J (fnv 18) [v] ro (.bool (decide (20 < b.cs.length) || decide (20 < b.ws.length))) := by
  obtain ⟨vc, vw, rfl, hc, hw⟩ := hv
  obtain ⟨b1, c1, rfl⟩ := hc.form
  obtain ⟨b2, c2, rfl⟩ := hw.form
  refine CallP.intro hJ (by kernel_rfl) fun c cs tail hret => enter_X (n := 13) func18 rfl rfl (Nl rfl) ?_
  have C : Ctx prog main J (bf 18 .normal) := ⟨hJ, by decide⟩
  refine Xr C rfl rfl <| R.box C rfl rfl rfl rfl fun p1 => Ad C rfl rfl <| Xr C rfl rfl <| Rf C 3 rfl rfl runUnderlying25 rfl sizeOf22 <| R.loadOne C rfl rfl rfl isAgg22 (by repeat (first | exact Mh | apply Mt)) rfl <| R.lenSlice C rfl rfl rfl runUnderlying22 <| R.int C rfl rfl rfl rfl b_gtr <| Rm C rfl rfl <| R.fix (t := 7) rfl (fun q1 => ?_) (fun q1 => ?_)
  · have q1 := q1
    refine R.pass C rfl rfl <| R.pass C rfl rfl <| R.pass C rfl rfl <| R.pass C rfl rfl <| R.pickT C rfl rfl rfl rfl <| Ad C rfl rfl <| Xt C func18 <| Hp hret ?_
    (simp only [decide_eq_true_eq, decide_eq_false_iff_not, retVal] at *; refine congrArg Value.bool ?_; rw [Bool.eq_iff_iff]; simp; try omega)
  · have q1 := q1
    refine Rf C 4 rfl rfl runUnderlying25 rfl sizeOf23 <| R.loadOne C rfl rfl rfl isAgg23 (by repeat (first | exact Mh | apply Mt)) rfl <| R.lenSlice C rfl rfl rfl runUnderlying23 <| R.int C rfl rfl rfl rfl b_gtr <| R.pickF C rfl rfl rfl rfl <| Ad C rfl rfl <| Xt C func18 <| Hp hret ?_
    (simp only [decide_eq_true_eq, decide_eq_false_iff_not, retVal] at *; refine congrArg Value.bool ?_; rw [Bool.eq_iff_iff]; simp; try omega)
theorem trueOfR_c (x y : Int) (hx : -1000000 ≤ x ∧ x ≤ 1000000) (hy : -1000000 ≤ y ∧ y ≤ 1000000) (ro : RO) : CallP prog J (fnv 84) [.int .i64 x, .int .i64 y] ro (.int .i64 (trueOf x y)) := by
  obtain ⟨x1, x2⟩ := hx
  obtain ⟨y1, y2⟩ := hy
  refine CallP.intro hJ (by kernel_rfl) fun c cs tail hret => enter_X (n := 37) func84 rfl rfl (Nl rfl) ?_
  have C : Ctx prog main J (bf 84 .normal) := ⟨hJ, by decide⟩
  refine Xr C rfl rfl <| Ad C rfl rfl <| Xr C rfl rfl <| Rm C rfl rfl <| Rm C rfl rfl <| R.neg C rfl rfl rfl (by omega) (by omega) <| R.max2 C rfl rfl rfl rfl <| Rm C rfl rfl <| Rm C rfl rfl <| R.neg C rfl rfl rfl (by omega) (by omega) <| R.max2 C rfl rfl rfl rfl <| R.asg C rfl rfl rfl <| Ad C rfl rfl <| Xs C <| Xr C rfl rfl <| Rm C rfl rfl <| Rm C rfl rfl <| R.min2 C rfl rfl rfl rfl <| R.int C rfl rfl rfl rfl (b_mul (by omega) (by omega)) <| Rm C rfl rfl <| Rm C rfl rfl <| R.max2 C rfl rfl rfl rfl <| R.int C rfl rfl rfl rfl (b_mul (by omega) (by omega)) <| R.int C rfl rfl rfl rfl b_leq <| R.done C <| X.cond C.1 rfl (fun q1 => ?_) (fun q1 => ?_)
  · have q1 := q1
    refine Xs C <| Xr C rfl rfl <| Rm C rfl rfl <| Rm C rfl rfl <| R.int C rfl rfl rfl rfl b_gtr <| R.done C <| X.cond C.1 rfl (fun q2 => ?_) (fun q2 => ?_)
    · have q2 := q2
      refine Xs C <| Xr C rfl rfl <| Rm C rfl rfl <| R.int C rfl rfl rfl rfl b_gtr <| R.done C <| X.cond C.1 rfl (fun q3 => ?_) (fun q3 => ?_)
      · have q3 := q3
        refine Xr C rfl rfl <| Ad C rfl rfl <| Xt C func84 <| Hp hret ?_
        (simp only [decide_eq_true_eq, decide_eq_false_iff_not] at *; simp only [trueOf, retVal]; repeat' split) <;> first | rfl | (exfalso; omega)
      · have q3 := q3
        refine X.skip C.1 <| Xr C rfl rfl <| Ad C rfl rfl <| Xt C func84 <| Hp hret ?_
        (simp only [decide_eq_true_eq, decide_eq_false_iff_not] at *; simp only [trueOf, retVal]; repeat' split) <;> first | rfl | (exfalso; omega)
    · have q2 := q2
      refine X.skip C.1 <| Xs C <| Xr C rfl rfl <| Rm C rfl rfl <| R.int C rfl rfl rfl rfl b_gtr <| R.done C <| X.cond C.1 rfl (fun q4 => ?_) (fun q4 => ?_)
      · have q4 := q4
        refine Xr C rfl rfl <| Ad C rfl rfl <| Xt C func84 <| Hp hret ?_
        (simp only [decide_eq_true_eq, decide_eq_false_iff_not] at *; simp only [trueOf, retVal]; repeat' split) <;> first | rfl | (exfalso; omega)
      · have q4 := q4
        refine X.skip C.1 <| Xr C rfl rfl <| Ad C rfl rfl <| Xt C func84 <| Hp hret ?_
        (simp only [decide_eq_true_eq, decide_eq_false_iff_not] at *; simp only [trueOf, retVal]; repeat' split) <;> first | rfl | (exfalso; omega)
  · have q1 := q1
    refine X.skip C.1 <| Xs C <| Xr C rfl rfl <| Rm C rfl rfl <| R.int C rfl rfl rfl rfl b_gtr <| R.done C <| X.cond C.1 rfl (fun q5 => ?_) (fun q5 => ?_)
    · have q5 := q5
      refine Xs C <| Xr C rfl rfl <| Rm C rfl rfl <| R.int C rfl rfl rfl rfl b_gtr <| R.done C <| X.cond C.1 rfl (fun q6 => ?_) (fun q6 => ?_)
      · have q6 := q6
        refine Xr C rfl rfl <| Ad C rfl rfl <| Xt C func84 <| Hp hret ?_
        (simp only [decide_eq_true_eq, decide_eq_false_iff_not] at *; simp only [trueOf, retVal]; repeat' split) <;> first | rfl | (exfalso; omega)
      · have q6 := q6
        refine X.skip C.1 <| Xr C rfl rfl <| Ad C rfl rfl <| Xt C func84 <| Hp hret ?_
        (simp only [decide_eq_true_eq, decide_eq_false_iff_not] at *; simp only [trueOf, retVal]; repeat' split) <;> first | rfl | (exfalso; omega)
    · have q5 := q5
      refine X.skip C.1 <| Xs C <| Xr C rfl rfl <| Rm C rfl rfl <| R.int C rfl rfl rfl rfl b_gtr <| R.done C <| X.cond C.1 rfl (fun q7 => ?_) (fun q7 => ?_)
      · have q7 := q7
        refine Xr C rfl rfl <| Ad C rfl rfl <| Xt C func84 <| Hp hret ?_
        (simp only [decide_eq_true_eq, decide_eq_false_iff_not] at *; simp only [trueOf, retVal]; repeat' split) <;> first | rfl | (exfalso; omega)
      · have q7 := q7
        refine X.skip C.1 <| Xr C rfl rfl <| Ad C rfl rfl <| Xt C func84 <| Hp hret ?_
        (simp only [decide_eq_true_eq, decide_eq_false_iff_not] at *; simp only [trueOf, retVal]; repeat' split) <;> first | rfl | (exfalso; omega)
end
end Go.Lg.B
namespace Go.Lg.B
open Go Go.Conc Go.Lg Go.Proofs Go.Proofs.Tryz
theorem rz_iff {k : Int} : ∀ {m : Nat} {n : Int}, k ∈ rz n m ↔ n ≤ k ∧ k < n + m
  | 0, n => by simp only [rz, List.not_mem_nil, false_iff]; omega
  | m + 1, n => by rw [rz, List.mem_cons, rz_iff]; omega
theorem ups_iff {k : Nat} : ∀ {m n : Nat}, k ∈ ups n m ↔ n ≤ k ∧ k < n + m
  | 0, n => by simp only [ups, List.not_mem_nil, false_iff]; omega
  | m + 1, n => by rw [ups, List.mem_cons, ups_iff]; omega
theorem maskOf_bit (p : Nat → Bool) (i : Nat) : ∀ n, (maskOf p n).testBit i = (decide (i < n) && p i)
  | 0 => by simp [maskOf]
  | n + 1 => by
    simp only [maskOf]
    by_cases h : p n = true
    · rw [if_pos h, Nat.testBit_or, maskOf_bit, Nat.testBit_two_pow]
      by_cases e : i = n
      · subst e; simp [h]
      · have : (i < n + 1) ↔ i < n := by omega
        simp [Ne.symm e, this]
    · rw [if_neg h, maskOf_bit]
      by_cases e : i = n
      · subst e; simp [h]
      · have : (i < n + 1) ↔ i < n := by omega
        simp [this]
theorem andNot_zero {a c : Nat} : (andNot a c == 0) = true ↔ ∀ i, a.testBit i = true → c.testBit i = true := by
  rw [beq_iff_eq]
  constructor
  · intro h i ha
    have := congrArg (fun x => x.testBit i) h
    simp only [andNot, Nat.testBit_xor, Nat.testBit_and, ha, Nat.zero_testBit] at this
    cases hc : c.testBit i
    · rw [hc] at this; simp at this
    · rfl
  · intro h
    refine Nat.eq_of_testBit_eq fun i => ?_
    simp only [andNot, Nat.testBit_xor, Nat.testBit_and, Nat.zero_testBit]
    cases ha : a.testBit i
    · simp
    · simp [h i ha]
theorem and_zero {a c : Nat} : (a &&& c == 0) = true ↔ ∀ i, a.testBit i = true → c.testBit i = false := by
  rw [beq_iff_eq]
  constructor
  · intro h i ha
    have := congrArg (fun x => x.testBit i) h
    simpa only [Nat.testBit_and, ha, Nat.zero_testBit, Bool.true_and] using this
  · intro h
    refine Nat.eq_of_testBit_eq fun i => ?_
    simp only [Nat.testBit_and, Nat.zero_testBit]
    cases ha : a.testBit i
    · simp
    · simp [h i ha]
theorem bits_mem (m : Nat) (k : Int) : ∀ n, k ∈ bitsUpto m n ↔ ∃ i : Nat, i < n ∧ m.testBit i = true ∧ k = i
  | 0 => by simp [bitsUpto]
  | n + 1 => by
    simp only [bitsUpto]
    have ih := bits_mem m k n
    by_cases h : m.testBit n = true
    · rw [if_pos h, List.mem_append, ih, List.mem_singleton]
      constructor
      · rintro (⟨i, h1, h2, h3⟩ | rfl)
        · exact ⟨i, by omega, h2, h3⟩
        · exact ⟨n, by omega, h, rfl⟩
      · rintro ⟨i, h1, h2, h3⟩
        by_cases e : i = n
        · exact .inr (by rw [h3, e])
        · exact .inl ⟨i, by omega, h2, h3⟩
    · rw [if_neg h, ih]
      constructor
      · rintro ⟨i, h1, h2, h3⟩; exact ⟨i, by omega, h2, h3⟩
      · rintro ⟨i, h1, h2, h3⟩
        by_cases e : i = n
        · rw [e] at h2; exact absurd h2 h
        · exact ⟨i, by omega, h2, h3⟩
theorem bits_up (m : Nat) : ∀ n, List.Pairwise (· < ·) (bitsUpto m n)
  | 0 => List.Pairwise.nil
  | n + 1 => by
    simp only [bitsUpto]
    split
    · refine List.pairwise_append.2 ⟨bits_up m n, List.pairwise_singleton _ _, fun x hx y hy => ?_⟩
      obtain ⟨i, h1, _, rfl⟩ := (bits_mem m x n).1 hx
      obtain rfl := List.mem_singleton.1 hy
      omega
    · exact bits_up m n
theorem up_nodup {l : List Int} (h : List.Pairwise (· < ·) l) : l.Nodup := h.imp fun h => by omega
theorem up_ext {l m : List Int} (hl : List.Pairwise (· < ·) l) (hm : List.Pairwise (· < ·) m) (h : ∀ x, x ∈ l ↔ x ∈ m) : l = m :=
  List.Perm.eq_of_pairwise (fun a b _ _ h1 h2 => by omega) hl hm ((List.perm_ext_iff_of_nodup (up_nodup hl) (up_nodup hm)).2 h)
theorem listOf_eq {m : Nat} {l : List Int} (hl : List.Pairwise (· < ·) l) (hr : ∀ k ∈ l, 0 ≤ k ∧ k < 5) (hm : ∀ i : Nat, m.testBit i = l.contains (i : Int)) : listOf m = l := by
  refine up_ext (bits_up m 5) hl fun x => ?_
  unfold listOf
  rw [bits_mem]
  constructor
  · rintro ⟨i, _, h2, rfl⟩
    rw [hm] at h2; simpa using h2
  · intro hx
    obtain ⟨h1, h2⟩ := hr x hx
    refine ⟨x.toNat, by omega, ?_, by omega⟩
    rw [hm, show ((x.toNat : Nat) : Int) = x by omega]
    simpa using hx
end Go.Lg.B
namespace Go.Lg.B
open Go Go.Conc Go.Lg Go.Proofs Go.Proofs.Tryz
section
variable {main : Bool} {J : Goroutine → Mem → Prop} (hJ : Closed prog main J)
include hJ
theorem checkChartR_c {b : Bk} {v : Value} {ro : RO} (hv : BkV ro v b) (hs : b.short) : CallP prog J (fnv 25) [v] ro (.int .i64 (checkChart b)) := by
  have hvv := hv
  obtain ⟨vc, vw, rfl, hc, hw⟩ := hv
  obtain ⟨b1, c1, rfl⟩ := hc.form
  obtain ⟨b2, c2, rfl⟩ := hw.form
  have hs0 := hs
  obtain ⟨hs1, hs2⟩ := hs
  by_cases hch : b.chart = 0
  · have hch' : between b.w 2 7 = true ∧ between b.h 2 7 = true ∧ between b.f 0 2 = true := by
      simp only [Bk.chart] at hch
      cases h1 : between b.w 2 7 <;> cases h2 : between b.h 2 7 <;> cases h3 : between b.f 0 2 <;> simp [h1, h2, h3] at hch ⊢
    obtain ⟨g1, g2, g3⟩ := hch'
    refine CallP.intro hJ (by kernel_rfl) fun c cs tail hret => enter_X (n := 82) func25 rfl rfl (Nl rfl) ?_
    have C : Ctx prog main J (bf 25 .normal) := ⟨hJ, by decide⟩
    refine Xr C rfl rfl <| R.box C rfl rfl rfl rfl fun p1 => Ad C rfl rfl <| Xs C <| Xr C rfl rfl <| Rf C 0 rfl rfl runUnderlying25 rfl sizeOf3 <| R.loadOne C rfl rfl rfl isAgg3 (by repeat (first | exact Mh | apply Mt)) rfl <| R.callP C rfl rfl rfl rfl (betweenR_c hJ _ _ _ _) <| R.not C rfl rfl rfl <| R.fixv (t := 10) (v' := .bool false) rfl (by (rw [g1]; rfl)) <| Rm C rfl rfl <| Rf C 1 rfl rfl runUnderlying25 rfl sizeOf3 <| R.loadOne C rfl rfl rfl isAgg3 (by repeat (first | exact Mh | apply Mt)) rfl <| R.callP C rfl rfl rfl rfl (betweenR_c hJ _ _ _ _) <| R.not C rfl rfl rfl <| R.fixv (t := 15) (v' := .bool false) rfl (by (rw [g2]; rfl)) <| R.pickF C rfl rfl rfl rfl <| Rm C rfl rfl <| Rf C 2 rfl rfl runUnderlying25 rfl sizeOf3 <| R.loadOne C rfl rfl rfl isAgg3 (by repeat (first | exact Mh | apply Mt)) rfl <| R.callP C rfl rfl rfl rfl (betweenR_c hJ _ _ _ _) <| R.not C rfl rfl rfl <| R.fixv (t := 21) (v' := .bool false) rfl (by (rw [g3]; rfl)) <| R.pickF C rfl rfl rfl rfl <| R.done C <| X.cond C.1 rfl (fun h => nomatch h) (fun _ => ?_)
    refine X.skip C.1 <| Xs C <| Xr C rfl rfl <| Rf C 3 rfl rfl runUnderlying25 rfl sizeOf22 <| R.loadOne C rfl rfl rfl isAgg22 (by repeat (first | exact Mh | apply Mt)) rfl <| R.lenSlice C rfl rfl rfl runUnderlying22 <| R.callP C rfl rfl rfl rfl (betweenR_c hJ _ _ _ _) <| R.not C rfl rfl rfl <| R.done C <| X.cond C.1 rfl (fun hn => ?_) (fun hn => ?_)
    · have hn := hn
      refine Xr C rfl rfl <| Ad C rfl rfl <| Xt C func25 <| Hp hret ?_
      simp only [checkChart, hch, Bk.compassesH]
      simp_all [retVal]
    · have hn := hn
      have hn' : between (b.cs.length : Int) 1 3 = true := by simpa using hn
      refine X.skip C.1 <| Xs C <| Xr C rfl rfl <| Ad C rfl rfl <| X.block C.1 <| X.loopI (ι := Nat) C.1 (fun i => i ≤ b.cs.length ∧ csH (b.cs.drop i) = csH b.cs) (fun i => [(1, .pointer (some ⟨p1, 0, none⟩)), (3, .int .i64 (i : Int))])
        (fun _ => ⟨ro, (p1, .cells [.int .i64 b.w, .int .i64 b.h, .int .i64 b.f, .slice b1 b.cs.length c1, .slice b2 b.ws.length c2].toArray 25 (0, 0)) :: tail⟩) (fun i => b.cs.length - i) 0 ⟨Nat.zero_le _, rfl⟩ rfl ⟨rfl, rfl, trivial⟩ fun i hi hnext => ?_
      obtain ⟨hi, hr⟩ := hi
      refine Xs C <| Xr C rfl rfl <| Rm C rfl rfl <| Rf C 3 rfl rfl runUnderlying25 rfl sizeOf22 <| R.loadOne C rfl rfl rfl isAgg22 (by repeat (first | exact Mh | apply Mt)) rfl <| R.lenSlice C rfl rfl rfl runUnderlying22 <| R.int C rfl rfl rfl rfl b_lss <| R.done C <| X.cond C.1 rfl (fun hlt => ?_) (fun hlt => ?_)
      · have hlt := hlt
        simp only [decide_eq_true_eq] at hlt
        have hi' : i < b.cs.length := by omega
        obtain ⟨p, off, cap, l, t, fq, hsl, hrop, hsub⟩ := hc.at Rc.len (by omega)
        cases hsl
        rw [List.drop_eq_getElem_cons hi'] at hr
        simp only [csH] at hr
        refine X.skip C.1 <| Xs C <| X.block C.1 <| Xr C rfl rfl <| Rf C 3 rfl rfl runUnderlying25 rfl sizeOf22 <| R.loadOne C rfl rfl rfl isAgg22 (by repeat (first | exact Mh | apply Mt)) rfl <| Rm C rfl rfl <| Rx C rfl rfl rfl runUnderlying22 sizeOf46 <| R.loadAggRo C rfl rfl rfl isAgg46 sizeOf46 hrop (hsub i hi') <| R.alloc C rfl rfl zeroValue46 rfl fun p4 => R.store C rfl rfl rfl rfl sizeOf46 rfl rfl rfl (by repeat (first | exact Uh | apply Ut)) (.here (.here .nil)) <| R.done C <| Xr C rfl rfl <| R.loadAgg C rfl rfl rfl isAgg46 sizeOf46 (by repeat (first | exact Mh | apply Mt)) Tk2 <| R.callP C rfl rfl rfl rfl (insideR_c hJ b.cs[i] _ _ _) <| R.not C rfl rfl rfl <| Rm C rfl rfl <| R.fix (t := 43) rfl (fun hg => ?_) (fun hg => ?_)
        · have hg := hg
          have hf : (b.cs[i]).fine = false := by simp at hg; simp [Rc.fine, hg]
          simp [hf] at hr
          refine R.pass C rfl rfl <| R.pass C rfl rfl <| R.pass C rfl rfl <| R.pass C rfl rfl <| R.pass C rfl rfl <| R.pass C rfl rfl <| R.pickT C rfl rfl rfl rfl <| R.done C <| X.cond C.1 rfl (fun _ => ?_) (fun h => nomatch h)
          refine Xr C rfl rfl <| Ad C rfl rfl <| Xt C func25 <| Hp hret ?_
          simp [checkChart, hch, Bk.compassesH, hn', retVal, ← hr]
        · have hg := hg
          have hbd := isReach_bd (x := b.cs[i]) (by simpa using hg)
          refine Rf C 1 rfl rfl runUnderlying46 rfl sizeOf3 <| R.loadOne C rfl rfl rfl isAgg3 (by repeat (first | exact Mh | apply Mt)) rfl <| Rf C 0 rfl rfl runUnderlying46 rfl sizeOf3 <| R.loadOne C rfl rfl rfl isAgg3 (by repeat (first | exact Mh | apply Mt)) rfl <| R.int C rfl rfl rfl rfl (b_sub (by omega) (by omega)) <| R.int C rfl rfl rfl rfl b_geq <| R.pickF C rfl rfl rfl rfl <| R.done C <| X.cond C.1 rfl (fun hd => ?_) (fun hd => ?_)
          · have hd := hd
            have hf : (b.cs[i]).fine = false := by simp at hd; simp [Rc.fine]; intro _; omega
            simp [hf] at hr
            refine Xr C rfl rfl <| Ad C rfl rfl <| Xt C func25 <| Hp hret ?_
            simp [checkChart, hch, Bk.compassesH, hn', retVal, ← hr]
          · have hd := hd
            refine X.skip C.1 <| X.inBlock C.1 <| X.region C rfl rfl <| Rm C rfl rfl <| R.int C rfl rfl rfl rfl (b_add (by omega) (by omega)) <| Ad C rfl rfl ?_
            have hf : (b.cs[i]).fine = true := by simp at hd hg; simp [Rc.fine, hg]; omega
            simp [hf] at hr
            refine X.weak C.1 (Weak.sub (List.sublist_cons_self _ _)) (X.weaken ?_ (hnext (i + 1) ⟨by omega, hr⟩ (by omega)))
            exact ⟨rfl, by simp [look], trivial⟩
      · have hlt := hlt
        simp only [decide_eq_false_iff_not] at hlt
        obtain rfl : i = b.cs.length := by omega
        have hcs : b.compassesH = 0 := by simp [csH] at hr; simp [Bk.compassesH, hn', ← hr]
        have hcc : checkChart b = b.witnessesH := by simp [checkChart, hch, hcs]
        refine X.exit C.1 rfl <| Xs C <| Xr C rfl rfl <| Rf C 4 rfl rfl runUnderlying25 rfl sizeOf23 <| R.loadOne C rfl rfl rfl isAgg23 (by repeat (first | exact Mh | apply Mt)) rfl <| R.lenSlice C rfl rfl rfl runUnderlying23 <| R.int C rfl rfl rfl rfl b_gtr <| R.done C <| X.cond C.1 rfl (fun h5 => ?_) (fun h5 => ?_)
        · have h5 := h5
          refine Xr C rfl rfl <| Ad C rfl rfl <| Xt C func25 <| Hp hret ?_
          simp at h5
          rw [hcc]
          simp [Bk.witnessesH, retVal]; omega
        · have h5 := h5
          simp at h5
          refine X.skip C.1 <| Xs C <| Xr C rfl rfl <| Ad C rfl rfl <| X.block C.1 <| X.loopI (ι := Nat) C.1 (fun i => i ≤ b.ws.length ∧ wtsH b.cs.length (b.ws.drop i) = wtsH b.cs.length b.ws) (fun i => [(1, .pointer (some ⟨p1, 0, none⟩)), (5, .int .i64 (i : Int))])
            (fun _ => ⟨ro, (p1, .cells [.int .i64 b.w, .int .i64 b.h, .int .i64 b.f, .slice b1 b.cs.length c1, .slice b2 b.ws.length c2].toArray 25 (0, 0)) :: tail⟩) (fun i => b.ws.length - i) 0 ⟨Nat.zero_le _, rfl⟩ rfl ⟨rfl, rfl, trivial⟩ fun i hi hnext2 => ?_
          obtain ⟨hi, hr⟩ := hi
          refine Xs C <| Xr C rfl rfl <| Rm C rfl rfl <| Rf C 4 rfl rfl runUnderlying25 rfl sizeOf23 <| R.loadOne C rfl rfl rfl isAgg23 (by repeat (first | exact Mh | apply Mt)) rfl <| R.lenSlice C rfl rfl rfl runUnderlying23 <| R.int C rfl rfl rfl rfl b_lss <| R.done C <| X.cond C.1 rfl (fun hlt2 => ?_) (fun hlt2 => ?_)
          · have hlt2 := hlt2
            simp only [decide_eq_true_eq] at hlt2
            have hi' : i < b.ws.length := by omega
            obtain ⟨p, off, cap, l, t, fq, hsl, hrop, hsub⟩ := hw.at Wt.len (by omega)
            cases hsl
            rw [List.drop_eq_getElem_cons hi'] at hr
            simp only [wtsH] at hr
            refine X.skip C.1 <| Xs C <| X.block C.1 <| Xr C rfl rfl <| Rf C 4 rfl rfl runUnderlying25 rfl sizeOf23 <| R.loadOne C rfl rfl rfl isAgg23 (by repeat (first | exact Mh | apply Mt)) rfl <| Rm C rfl rfl <| Rx C rfl rfl rfl runUnderlying23 sizeOf58 <| R.loadAggRo C rfl rfl rfl isAgg58 sizeOf58 hrop (hsub i hi') <| R.alloc C rfl rfl zeroValue58 rfl fun p6 => R.store C rfl rfl rfl rfl sizeOf58 rfl rfl rfl (by repeat (first | exact Uh | apply Ut)) (.here (.here (.here (.here (.here .nil))))) <| R.done C <| Xs C <| Xr C rfl rfl <| Rf C 0 rfl rfl runUnderlying58 rfl sizeOf27 <| R.loadAgg C rfl rfl rfl isAgg27 sizeOf27 (by repeat (first | exact Mh | apply Mt)) Tk2 <| R.callP C rfl rfl rfl rfl (nearR_c hJ (b.ws[i]).s _) <| R.not C rfl rfl rfl <| Rm C rfl rfl <| R.fix (t := 71) rfl (fun hg2 => ?_) (fun hg2 => ?_)
            · have hg2 := hg2
              refine R.pass C rfl rfl <| R.pass C rfl rfl <| R.pass C rfl rfl <| R.pass C rfl rfl <| R.pickT C rfl rfl rfl rfl <| R.done C <| X.cond C.1 rfl (fun _ => ?_) (fun h => nomatch h)
              refine Xr C rfl rfl <| Ad C rfl rfl <| Xt C func25 <| Hp hret ?_
              simp at hg2
              simp [hg2] at hr
              rw [hcc]
              simp [Bk.witnessesH, retVal, ← hr]; omega
            · have hg2 := hg2
              refine Rf C 2 rfl rfl runUnderlying58 rfl sizeOf3 <| R.loadOne C rfl rfl rfl isAgg3 (by repeat (first | exact Mh | apply Mt)) rfl <| R.callP C rfl rfl rfl rfl (betweenR_c hJ _ _ _ _) <| R.not C rfl rfl rfl <| R.pickF C rfl rfl rfl rfl <| R.done C <| X.cond C.1 rfl (fun hd => ?_) (fun hd => ?_)
              · have hd := hd
                refine Xr C rfl rfl <| Ad C rfl rfl <| Xt C func25 <| Hp hret ?_
                simp at hg2 hd
                simp [hg2, hd] at hr
                rw [hcc]
                simp [Bk.witnessesH, retVal, ← hr]; omega
              · have hd := hd
                refine X.skip C.1 <| Xr C rfl rfl <| R.loadAgg C rfl rfl rfl isAgg25 sizeOf25 (by repeat (first | exact Mh | apply Mt)) Tk5 <| Rf C 3 rfl rfl runUnderlying58 rfl sizeOf3 <| R.loadOne C rfl rfl rfl isAgg3 (by repeat (first | exact Mh | apply Mt)) rfl <| R.callP C rfl rfl rfl rfl (isCompassR_c hJ hvv hs0 _) <| R.not C rfl rfl rfl <| R.done C <| X.cond C.1 rfl (fun hk => ?_) (fun hk => ?_)
                · have hk := hk
                  refine Xr C rfl rfl <| Ad C rfl rfl <| Xt C func25 <| Hp hret ?_
                  simp at hg2 hd hk
                  simp [hg2, hd, there, hk] at hr
                  rw [hcc]
                  simp [Bk.witnessesH, retVal, ← hr]; omega
                · have hk := hk
                  refine X.skip C.1 <| X.inBlock C.1 <| X.region C rfl rfl <| Rm C rfl rfl <| R.int C rfl rfl rfl rfl (b_add (by omega) (by omega)) <| Ad C rfl rfl ?_
                  simp at hg2 hd hk
                  simp [hg2, hd, there, hk] at hr
                  refine X.weak C.1 (Weak.sub (List.sublist_cons_self _ _)) (X.weaken ?_ (hnext2 (i + 1) ⟨by omega, hr⟩ (by omega)))
                  exact ⟨rfl, by simp [look], trivial⟩
          · have hlt2 := hlt2
            simp only [decide_eq_false_iff_not] at hlt2
            obtain rfl : i = b.ws.length := by omega
            simp [wtsH] at hr
            refine X.exit C.1 rfl <| Xr C rfl rfl <| Ad C rfl rfl <| Xt C func25 <| Hp hret ?_
            rw [hcc]
            simp [Bk.witnessesH, retVal, ← hr]; omega
  · have hone : b.chart = 1 := by
      simp only [Bk.chart] at hch ⊢
      split at hch
      · rename_i h; rw [if_pos h]
      · exact absurd rfl hch
    have hcc : checkChart b = 1 := by rw [checkChart, if_pos hch, hone]
    have hany : (!between b.w 2 7 || !between b.h 2 7 || !between b.f 0 2) = true := by
      simp only [Bk.chart] at hch
      split at hch
      · assumption
      · exact absurd rfl hch
    by_cases g1 : between b.w 2 7 = true
    · by_cases g2 : between b.h 2 7 = true
      · have g3 : between b.f 0 2 = false := by simpa [g1, g2] using hany
        refine CallP.intro hJ (by kernel_rfl) fun c cs tail hret => enter_X (n := 82) func25 rfl rfl (Nl rfl) ?_
        have C : Ctx prog main J (bf 25 .normal) := ⟨hJ, by decide⟩
        refine Xr C rfl rfl <| R.box C rfl rfl rfl rfl fun p1 => Ad C rfl rfl <| Xs C <| Xr C rfl rfl <| Rf C 0 rfl rfl runUnderlying25 rfl sizeOf3 <| R.loadOne C rfl rfl rfl isAgg3 (by repeat (first | exact Mh | apply Mt)) rfl <| R.callP C rfl rfl rfl rfl (betweenR_c hJ _ _ _ _) <| R.not C rfl rfl rfl <| R.fixv (t := 10) (v' := .bool false) rfl (by (rw [g1]; rfl)) <| Rm C rfl rfl <| Rf C 1 rfl rfl runUnderlying25 rfl sizeOf3 <| R.loadOne C rfl rfl rfl isAgg3 (by repeat (first | exact Mh | apply Mt)) rfl <| R.callP C rfl rfl rfl rfl (betweenR_c hJ _ _ _ _) <| R.not C rfl rfl rfl <| R.fixv (t := 15) (v' := .bool false) rfl (by (rw [g2]; rfl)) <| R.pickF C rfl rfl rfl rfl <| Rm C rfl rfl <| Rf C 2 rfl rfl runUnderlying25 rfl sizeOf3 <| R.loadOne C rfl rfl rfl isAgg3 (by repeat (first | exact Mh | apply Mt)) rfl <| R.callP C rfl rfl rfl rfl (betweenR_c hJ _ _ _ _) <| R.not C rfl rfl rfl <| R.fixv (t := 21) (v' := .bool true) rfl (by (rw [g3]; rfl)) <| R.pickF C rfl rfl rfl rfl <| R.done C <| X.cond C.1 rfl (fun _ => ?_) (fun h => nomatch h)
        refine Xr C rfl rfl <| Ad C rfl rfl <| Xt C func25 <| Hp hret ?_
        rw [hcc]; rfl
      · have g2 : between b.h 2 7 = false := by simpa using g2
        refine CallP.intro hJ (by kernel_rfl) fun c cs tail hret => enter_X (n := 82) func25 rfl rfl (Nl rfl) ?_
        have C : Ctx prog main J (bf 25 .normal) := ⟨hJ, by decide⟩
        refine Xr C rfl rfl <| R.box C rfl rfl rfl rfl fun p1 => Ad C rfl rfl <| Xs C <| Xr C rfl rfl <| Rf C 0 rfl rfl runUnderlying25 rfl sizeOf3 <| R.loadOne C rfl rfl rfl isAgg3 (by repeat (first | exact Mh | apply Mt)) rfl <| R.callP C rfl rfl rfl rfl (betweenR_c hJ _ _ _ _) <| R.not C rfl rfl rfl <| R.fixv (t := 10) (v' := .bool false) rfl (by (rw [g1]; rfl)) <| Rm C rfl rfl <| Rf C 1 rfl rfl runUnderlying25 rfl sizeOf3 <| R.loadOne C rfl rfl rfl isAgg3 (by repeat (first | exact Mh | apply Mt)) rfl <| R.callP C rfl rfl rfl rfl (betweenR_c hJ _ _ _ _) <| R.not C rfl rfl rfl <| R.fixv (t := 15) (v' := .bool true) rfl (by (rw [g2]; rfl)) <| R.pickF C rfl rfl rfl rfl <| Rm C rfl rfl <| R.pass C rfl rfl <| R.pass C rfl rfl <| R.pass C rfl rfl <| R.pass C rfl rfl <| R.pickT C rfl rfl rfl rfl <| R.done C <| X.cond C.1 rfl (fun _ => ?_) (fun h => nomatch h)
        refine Xr C rfl rfl <| Ad C rfl rfl <| Xt C func25 <| Hp hret ?_
        rw [hcc]; rfl
    · have g1 : between b.w 2 7 = false := by simpa using g1
      refine CallP.intro hJ (by kernel_rfl) fun c cs tail hret => enter_X (n := 82) func25 rfl rfl (Nl rfl) ?_
      have C : Ctx prog main J (bf 25 .normal) := ⟨hJ, by decide⟩
      refine Xr C rfl rfl <| R.box C rfl rfl rfl rfl fun p1 => Ad C rfl rfl <| Xs C <| Xr C rfl rfl <| Rf C 0 rfl rfl runUnderlying25 rfl sizeOf3 <| R.loadOne C rfl rfl rfl isAgg3 (by repeat (first | exact Mh | apply Mt)) rfl <| R.callP C rfl rfl rfl rfl (betweenR_c hJ _ _ _ _) <| R.not C rfl rfl rfl <| R.fixv (t := 10) (v' := .bool true) rfl (by (rw [g1]; rfl)) <| Rm C rfl rfl <| R.pass C rfl rfl <| R.pass C rfl rfl <| R.pass C rfl rfl <| R.pass C rfl rfl <| R.pickT C rfl rfl rfl rfl <| Rm C rfl rfl <| R.pass C rfl rfl <| R.pass C rfl rfl <| R.pass C rfl rfl <| R.pass C rfl rfl <| R.pickT C rfl rfl rfl rfl <| R.done C <| X.cond C.1 rfl (fun _ => ?_) (fun h => nomatch h)
      refine Xr C rfl rfl <| Ad C rfl rfl <| Xt C func25 <| Hp hret ?_
      rw [hcc]; rfl
end
end Go.Lg.B
namespace Go.Lg.B
open Go Go.Conc Go.Lg Go.Proofs Go.Proofs.Tryz
section
variable {main : Bool} {J : Goroutine → Mem → Prop} (hJ : Closed prog main J)
include hJ
theorem trustedR_c {b : Bk} {v : Value} {ro : RO} (hv : BkV ro v b) (hb : b.good) {k : Int} (hk0 : 0 ≤ k) (hk1 : k < b.ws.length) : CallR prog J (fnv 59) [v, .int .i64 k] ro (fun x ro' => BkV ro' x (trusted b k)) := by
  have hnw := hb.nw
  obtain ⟨vc, vw, rfl, hc, hw⟩ := hv
  obtain ⟨cb, cc, rfl⟩ := hc.form
  have hw0 := hw
  obtain ⟨wb, wc, rfl⟩ := hw.form
  have hki : k.toNat < b.ws.length := by omega
  have hwt := Bk.wt_get hki
  have hfl := flatMap_len Wt.len b.ws
  have hfl2 := flatMap_len Wt.len (b.ws.set k.toNat (sured (b.wt k.toNat)))
  rw [List.length_set] at hfl2
  refine CallR.intro hJ (by kernel_rfl) fun c cs tail hret => enter_X (n := 16) func59 rfl rfl (Nl rfl) ?_
  have C : Ctx prog main J (bf 59 .normal) := ⟨hJ, by decide⟩
  refine Xr C rfl rfl <| R.box C rfl rfl rfl rfl fun p2 => R.alloc C rfl rfl zeroValue25 rfl fun p4 => R.done C <| Xr C rfl rfl <| R.buildSlice C (vs := _) rfl rfl (show pvals _ _ = some (numbered 0 []) from rfl) rfl runUnderlying23 sizeOf58 zeroValue58 (by decide) (.nil) fun p5 => Rf C 4 rfl rfl runUnderlying25 rfl sizeOf23 <| R.loadOne C rfl rfl rfl isAgg23 (by repeat (first | exact Mh | apply Mt)) rfl <| R.append (kk := 5) C rfl rfl rfl rfl runUnderlying23 runUnderlying23 (fun _ => nofun) (show prog.info? 58 = some Tryz.t58 by kernel_rfl) rfl rfl rfl (by decide) (by decide) (Buf.blk (cells := []) (spare := []) (len := 0) (cap := 0) rfl rfl (Nat.le_refl _)) (hw0.rd Wt.len) (ones_W b.ws) (by simp only [List.length_nil]; omega) fun v' own' hb' => ?_
  obtain ⟨own0, rfl, hb0⟩ := Buf.unapp (tail := []) (H := (p4, .cells [.int .i64 0, .int .i64 0, .int .i64 0, .slice none 0 0, .slice none 0 0].toArray 25 (0, 0)) :: (p2, .cells [.int .i64 b.w, .int .i64 b.h, .int .i64 b.f, .slice cb b.cs.length cc, .slice wb b.ws.length wc].toArray 25 (0, 0)) :: tail) hb'
  obtain ⟨pW, len, capW, spare, rfl, hlen, rfl, hset⟩ := hb0.at (by simp only [List.nil_append]; omega)
  simp only [List.nil_append] at hlen
  obtain rfl : len = b.ws.length := by omega
  refine Rf C 4 rfl rfl runUnderlying25 rfl sizeOf23 <| R.store C rfl rfl rfl rfl sizeOf23 rfl rfl rfl (by repeat (first | exact Uh | apply Ut | apply Upd.app)) (.skip (.skip (.skip (.skip (.here .nil))))) <| R.done C <| Xr C rfl rfl <| Rf C 4 rfl rfl runUnderlying25 rfl sizeOf23 <| R.loadOne C rfl rfl rfl isAgg23 (by repeat (first | exact Mh | apply Mt | apply List.mem_append_right)) rfl <| Rm C rfl rfl <| R.indexAddr C rfl rfl rfl rfl runUnderlying23 sizeOf58 hk0 hk1 <| R.fieldAddr C rfl rfl rfl runUnderlying58 rfl sizeOf4 rfl <| R.store C rfl rfl rfl rfl sizeOf4 rfl rfl rfl (by repeat (first | exact Uh | apply Ut | apply Upd.app)) (by rw [Nat.zero_add]; exact Put.flat Wt.len b.ws k.toNat hki (sured (b.wt k.toNat)) spare (by rw [hwt]; exact .skip (.skip (.skip (.skip (.here .nil)))))) <| R.done C <| Xr C rfl rfl ?_
  have hb1 := hset ((b.ws.set k.toNat (sured (b.wt k.toNat))).flatMap Wt.cells) (by simp only [List.nil_append]; omega)
  refine R.finish C.1 Wt.len (by decide) (hb1.app _) fun ro3 hl3 hls3 => R.loadAgg C rfl rfl rfl isAgg25 sizeOf25 (by repeat (first | exact Mh | apply Mt)) Tk5 <| R.store C rfl rfl rfl rfl sizeOf25 rfl rfl rfl (by repeat (first | exact Uh | apply Ut)) (.here (.here (.here (.here (.here .nil))))) <| R.done C <| X.ret C rfl rfl func59 rfl (by exact (.agg rfl isAgg25 sizeOf25 (by repeat (first | exact Mh | apply Mt)) Tk5 .nil)) <| Hr hret hl3 ?_
  exact ⟨_, _, rfl, hc.mono hl3, hls3⟩
end
end Go.Lg.B
namespace Go.Lg.B
open Go Go.Conc Go.Lg Go.Proofs Go.Proofs.Tryz
theorem ic_at {l : List Int} {off : Nat} {ll : List Value} (hsub : ∀ i (hi : i < l.length), Sub (off + i * 1) 1 ll (ic l[i])) {i : Nat} (hi : i < l.length) : ll[off + i * 1]? = some (.int .i64 l[i]) := by
  have := (hsub i hi).get 0 (by decide)
  simpa [ic] using this
section
variable {main : Bool} {J : Goroutine → Mem → Prop} (hJ : Closed prog main J)
include hJ
theorem holdsR_c {v : Value} {ro : RO} {l : List Int} (hl : LsI ro v l) (hn : l.length ≤ 1000000) (n : Int) : CallP prog J (fnv 54) [v, .int .i64 n] ro (.bool (l.contains n)) := by
  obtain ⟨lb, lc, rfl⟩ := hl.form
  refine CallP.intro hJ (by kernel_rfl) fun c cs tail hret => enter_X (n := 18) func54 rfl rfl (Nl rfl) ?_
  have C : Ctx prog main J (bf 54 .normal) := ⟨hJ, by decide⟩
  refine Xr C rfl rfl <| Ad C rfl rfl <| Xs C <| Xr C rfl rfl <| Ad C rfl rfl <| X.block C.1 <| X.loopI (ι := Nat) C.1 (fun i => i ≤ l.length ∧ l.contains n = (l.drop i).contains n) (fun i => [(0, .slice lb l.length lc), (1, .int .i64 n), (5, .int .i64 (i : Int))])
    (fun _ => ⟨ro, tail⟩) (fun i => l.length - i) 0 ⟨Nat.zero_le _, rfl⟩ rfl ⟨rfl, rfl, rfl, trivial⟩ fun i hi hnext => ?_
  obtain ⟨hi, hr⟩ := hi
  refine Xs C <| Xr C rfl rfl <| Rm C rfl rfl <| Rm C rfl rfl <| R.lenSlice C rfl rfl rfl runUnderlying28 <| R.int C rfl rfl rfl rfl b_lss <| R.done C <| X.cond C.1 rfl (fun hlt => ?_) (fun hlt => ?_)
  · have hlt := hlt
    simp only [decide_eq_true_eq] at hlt
    have hi' : i < l.length := by omega
    obtain ⟨pp, off, cap, ll, t, fq, hsl, hrop, hsub⟩ := hl.at ic_len (by omega)
    cases hsl
    have hx := ic_at hsub hi'
    rw [List.drop_eq_getElem_cons hi', List.contains_cons] at hr
    refine X.skip C.1 <| Xs C <| X.block C.1 <| Xr C rfl rfl <| Rm C rfl rfl <| Rm C rfl rfl <| Rx C rfl rfl rfl runUnderlying28 sizeOf3 <| R.loadOneRo C rfl rfl rfl isAgg3 hrop hx <| Rm C rfl rfl <| R.int C rfl rfl rfl rfl b_eql <| R.done C <| X.cond C.1 rfl (fun he => ?_) (fun he => ?_)
    · have he := he
      have he2 : l[i] = n := by simpa using he
      rw [he2, beq_self_eq_true, Bool.true_or] at hr
      refine Xr C rfl rfl <| Ad C rfl rfl <| Xt C func54 <| Hp hret ?_
      rw [hr]; rfl
    · have he := he
      have he2 : l[i] ≠ n := by simpa using he
      rw [beq_eq_false_iff_ne.2 (Ne.symm he2), Bool.false_or] at hr
      refine X.skip C.1 <| X.inBlock C.1 <| X.region C rfl rfl <| Rm C rfl rfl <| R.int C rfl rfl rfl rfl (b_add (by omega) (by omega)) <| Ad C rfl rfl <| X.weaken ?_ (hnext (i + 1) ⟨hi', hr⟩ (by omega))
      exact ⟨rfl, rfl, by simp [look], trivial⟩
  · have hlt := hlt
    simp only [decide_eq_false_iff_not] at hlt
    obtain rfl : i = l.length := by omega
    rw [List.drop_length] at hr
    refine X.exit C.1 rfl <| Xr C rfl rfl <| Ad C rfl rfl <| Xt C func54 <| Hp hret ?_
    rw [hr]; rfl
end
end Go.Lg.B
namespace Go.Lg.B
open Go Go.Conc Go.Lg Go.Proofs Go.Proofs.Tryz
def ext (most : Int) (i : Nat) (l : List (List Int)) : List (List Int) := (l.filter fun x => decide ((x.length : Int) < most)).map fun x => x ++ [(i : Int)]
def sets (most : Int) : Nat → List (List Int)
  | 0 => [[]]
  | i + 1 => sets most i ++ ext most i (sets most i)
theorem ext_le (most : Int) (i : Nat) (l : List (List Int)) : (ext most i l).length ≤ l.length := by
  unfold ext; rw [List.length_map]; exact List.length_filter_le _ _
theorem sets_len (most : Int) : ∀ n, (sets most n).length ≤ 2 ^ n
  | 0 => by simp [sets]
  | n + 1 => by
    have h1 := sets_len most n
    have h2 := ext_le most n (sets most n)
    simp only [sets, List.length_append]
    have : 2 ^ (n + 1) = 2 ^ n + 2 ^ n := by rw [Nat.pow_succ]; omega
    omega
theorem sets_pos (most : Int) : ∀ n, 0 < (sets most n).length
  | 0 => by simp [sets]
  | n + 1 => by have := sets_pos most n; simp only [sets, List.length_append]; omega
theorem sets_each (most : Int) : ∀ n, ∀ l ∈ sets most n, l.length ≤ n
  | 0, l, h => by simp [sets] at h; simp [h]
  | n + 1, l, h => by
    rcases List.mem_append.1 h with h | h
    · have := sets_each most n l h; omega
    · obtain ⟨x, hx, rfl⟩ := List.mem_map.1 h
      have := sets_each most n x (List.mem_filter.1 hx).1
      simp; omega
theorem ext_take (most : Int) (i : Nat) (l : List (List Int)) {k : Nat} (h : k < l.length) : ext most i (l.take (k + 1)) = ext most i (l.take k) ++ (if (l[k].length : Int) < most then [l[k] ++ [(i : Int)]] else []) := by
  unfold ext
  rw [List.take_add_one, List.getElem?_eq_getElem h, List.filter_append, List.map_append]
  congr 1
  by_cases hm : (l[k].length : Int) < most <;> simp [hm]
abbrev LE := Value × List Int
def le (p : LE) : List Value := [p.1]
theorem le_len (p : LE) : (le p).length = 1 := rfl
def LL (ro : RO) (v : Value) (l : List (List Int)) : Prop := ∃ xs : List LE, Ls le 1 ro v xs ∧ xs.map (·.2) = l ∧ ∀ p ∈ xs, LsI ro p.1 p.2
theorem le_flat (xs : List LE) : (xs.flatMap le).length = xs.length := by rw [flatMap_len le_len, Nat.mul_one]
theorem le_get (xs : List LE) (sp : List Value) {k : Nat} (h : k < xs.length) : (xs.flatMap le ++ sp)[0 + k * 1]? = some xs[k].1 := by
  have hl := le_flat xs
  rw [Nat.zero_add, Nat.mul_one, List.getElem?_append_left (by omega)]
  clear hl
  induction xs generalizing k with
  | nil => simp at h
  | cons x xs ih =>
    cases k with
    | zero => rfl
    | succ k => exact ih (by simpa using h)
section
variable {main : Bool} {J : Goroutine → Mem → Prop} (hJ : Closed prog main J)
include hJ
theorem setsR_c {n : Nat} {most : Int} (hn : n ≤ 5) {ro : RO} : CallR prog J (fnv 133) [.int .i64 (n : Int), .int .i64 most] ro (fun x ro' => LL ro' x (sets most n)) := by
  refine CallR.intro hJ (by kernel_rfl) fun c cs tail hret => enter_X (n := 42) func133 rfl rfl (Nl rfl) ?_
  have C : Ctx prog main J (bf 133 .normal) := ⟨hJ, by decide⟩
  refine Xr C rfl rfl <| Ad C rfl rfl <| Xr C rfl rfl <| R.buildSlice C (vs := _) rfl rfl (show pvals _ _ = some (numbered 0 [_]) from rfl) rfl runUnderlying149 sizeOf28 zeroValue28 (by decide) (Cat.one rfl rfl) fun p9 => Ad C rfl rfl <| Xs C <| Xr C rfl rfl <| Ad C rfl rfl <| X.block C.1 <| X.loopI (ι := Nat × RO × Value × List LE × List (Nat × Obj)) C.1 (fun s => s.1 ≤ n ∧ ro.le s.2.1 ∧ Buf 28 1 tail s.2.2.1 (s.2.2.2.1.flatMap le) s.2.2.2.2 ∧ s.2.2.2.1.map (·.2) = sets most s.1 ∧ ∀ p ∈ s.2.2.2.1, LsI s.2.1 p.1 p.2) (fun s => [(0, .int .i64 (n : Int)), (1, .int .i64 most), (5, s.2.2.1), (6, .int .i64 (s.1 : Int))])
    (fun s => ⟨s.2.1, s.2.2.2.2⟩) (fun s => n - s.1) (0, ro, .slice (some ⟨p9, 0, none⟩) 1 1, [(.slice none 0 0, [])], (p9, .cells [.slice none 0 0].toArray 28 (0, 0)) :: tail) ⟨Nat.zero_le _, RO.le_refl _, Buf.blk (cells := [.slice none 0 0]) (spare := []) (len := 1) (cap := 1) rfl rfl (Nat.le_refl _), rfl, fun p hp => by simp at hp; subst hp; exact Ls.nil⟩ rfl ⟨rfl, rfl, rfl, rfl, trivial⟩ fun s hs hnext => ?_
  obtain ⟨i, ro1, v1, xs1, own1⟩ := s
  obtain ⟨hi, hle1, hb1, hxs1, hls1⟩ := hs
  simp only at hi hle1 hb1 hxs1 hls1 hnext ⊢
  have hlen1 : xs1.length = (sets most i).length := by rw [← hxs1, List.length_map]
  have hspos := sets_pos most i
  have hpow : (sets most i).length ≤ 2 ^ i := sets_len most i
  have hpow5 : 2 ^ i ≤ 2 ^ 5 := Nat.pow_le_pow_right (by decide) (by omega)
  have hff1 := le_flat xs1
  obtain ⟨b1, c1, hv1⟩ := hb1.form (by decide)
  rw [hff1, Nat.div_one] at hv1
  subst hv1
  refine Xs C <| Xr C rfl rfl <| Rm C rfl rfl <| Rm C rfl rfl <| R.int C rfl rfl rfl rfl b_lss <| R.done C <| X.cond C.1 rfl (fun hlt => ?_) (fun hlt => ?_)
  · have hlt := hlt
    simp only [decide_eq_true_eq] at hlt
    have hi' : i < n := by omega
    refine X.skip C.1 <| Xs C <| X.block C.1 <| Xr C rfl rfl <| Rm C rfl rfl <| R.lenSlice C rfl rfl rfl runUnderlying149 <| Ad C rfl rfl <| Xr C rfl rfl <| Ad C rfl rfl <| X.block C.1 <| X.loopI (ι := Nat × RO × Value × List LE × List (Nat × Obj)) C.1 (fun s => s.1 ≤ xs1.length ∧ ro1.le s.2.1 ∧ Buf 28 1 tail s.2.2.1 (s.2.2.2.1.flatMap le) s.2.2.2.2 ∧ s.2.2.2.1.map (·.2) = sets most i ++ ext most i ((sets most i).take s.1) ∧ ∀ p ∈ s.2.2.2.1, LsI s.2.1 p.1 p.2) (fun s => [(0, .int .i64 (n : Int)), (1, .int .i64 most), (5, s.2.2.1), (6, .int .i64 (i : Int)), (7, .int .i64 (xs1.length : Int)), (8, .int .i64 (s.1 : Int))])
      (fun s => ⟨s.2.1, s.2.2.2.2⟩) (fun s => xs1.length - s.1) (0, ro1, .slice b1 xs1.length c1, xs1, own1) ⟨Nat.zero_le _, RO.le_refl _, hb1, by simp [hxs1, ext], hls1⟩ rfl ⟨rfl, rfl, rfl, rfl, rfl, rfl, trivial⟩ fun s hs hnext2 => ?_
    obtain ⟨k, ro2, v2, xs2, own2⟩ := s
    obtain ⟨hk, hle2, hb2, hxs2, hls2⟩ := hs
    simp only at hk hle2 hb2 hxs2 hls2 hnext2 ⊢
    have hel := ext_le most i ((sets most i).take k)
    have htk : ((sets most i).take k).length ≤ (sets most i).length := by rw [List.length_take]; omega
    have hlen2 := congrArg List.length hxs2
    rw [List.length_map, List.length_append] at hlen2
    have hff2 := le_flat xs2
    obtain ⟨p2', len2, cap2, spare2, rfl, hc2, rfl, hset2⟩ := hb2.at (by omega)
    obtain rfl : len2 = xs2.length := by omega
    refine Xs C <| Xr C rfl rfl <| Rm C rfl rfl <| Rm C rfl rfl <| R.int C rfl rfl rfl rfl b_lss <| R.done C <| X.cond C.1 rfl (fun hlt2 => ?_) (fun hlt2 => ?_)
    · have hlt2 := hlt2
      simp only [decide_eq_true_eq] at hlt2
      have hk1 : k < (sets most i).length := by omega
      have hk2 : k < xs2.length := by omega
      have hxk : xs2[k].2 = (sets most i)[k] := by
        have h1 : (xs2.map (·.2))[k]? = some (sets most i)[k] := by rw [hxs2, List.getElem?_append_left hk1, List.getElem?_eq_getElem hk1]
        rw [List.getElem?_map, List.getElem?_eq_getElem hk2] at h1
        simpa using h1
      have hlk := hls2 _ (List.getElem_mem hk2)
      have hx := le_get xs2 spare2 hk2
      generalize hL : xs2[k].2 = l at hxk hlk
      generalize xs2[k].1 = vk at hx hlk
      have hll : l.length ≤ i := by rw [hxk]; exact sets_each most i _ (List.getElem_mem hk1)
      have hlk0 := hlk
      obtain ⟨bk, ck, rfl⟩ := hlk.form
      have hext := ext_take most i (sets most i) hk1
      rw [← hxk] at hext
      refine X.skip C.1 <| Xs C <| X.block C.1 <| Xr C rfl rfl <| Rm C rfl rfl <| Rm C rfl rfl <| Rx C rfl rfl rfl runUnderlying149 sizeOf28 <| R.loadOne C rfl rfl rfl isAgg28 (by repeat (first | exact Mh | apply Mt)) hx <| R.lenSlice C rfl rfl rfl runUnderlying28 <| Rm C rfl rfl <| R.int C rfl rfl rfl rfl b_lss <| R.done C <| X.cond C.1 rfl (fun hm => ?_) (fun hm => ?_)
      · have hm := hm
        simp only [decide_eq_true_eq] at hm
        rw [if_pos hm] at hext
        have hfl := flat_len l
        refine X.region C rfl rfl <| Rm C rfl rfl <| R.buildSlice C (vs := _) rfl rfl (show pvals _ _ = some (numbered 0 []) from rfl) rfl runUnderlying28 sizeOf3 zeroValue3 (by decide) (.nil) fun p30 => Rm C rfl rfl <| Rm C rfl rfl <| Rx C rfl rfl rfl runUnderlying149 sizeOf28 <| R.loadOne C rfl rfl rfl isAgg28 (by repeat (first | exact Mh | apply Mt)) hx <| R.append (kk := 1) C rfl rfl rfl rfl runUnderlying28 runUnderlying28 (fun _ => nofun) (show prog.info? 3 = some Tryz.t3 by kernel_rfl) rfl rfl rfl (by decide) (by decide) (Buf.blk (cells := []) (spare := []) (len := 0) (cap := 0) rfl rfl (Nat.le_refl _)) (hlk0.rd ic_len) (ones_ic l) (by simp only [List.length_nil]; omega) fun v' own' hb' => Rm C rfl rfl <| R.buildSlice C (vs := _) rfl rfl (show pvals _ _ = some (numbered 0 [_]) from rfl) rfl runUnderlying28 sizeOf3 zeroValue3 (by decide) (Cat.one rfl rfl) fun p37 => R.append1 (kk := 1) C rfl rfl rfl rfl runUnderlying28 runUnderlying28 (fun _ => nofun) (show prog.info? 3 = some Tryz.t3 by kernel_rfl) rfl rfl rfl (by decide) (by decide) hb' rfl rfl (by simp only [List.length_append, List.length_cons, List.length_nil]; omega) fun v' own' hb' => ?_
        have e3 : ([] ++ l.flatMap ic) ++ [Value.int .i64 (i : Int)] = (l ++ [(i : Int)]).flatMap ic := by simp [List.flatMap_append, ic]
        rw [e3] at hb'
        refine R.finish C.1 ic_len (by decide) hb' fun ro3 hl3 hls3 => ?_
        obtain ⟨b3, c3, rfl⟩ := hls3.form
        refine R.buildSlice C (vs := _) rfl rfl (show pvals _ _ = some (numbered 0 [_]) from rfl) rfl runUnderlying149 sizeOf28 zeroValue28 (by decide) (Cat.one rfl rfl) fun p39 => R.append1 (kk := 1) C rfl rfl rfl rfl runUnderlying149 runUnderlying149 (fun _ => nofun) (show prog.info? 28 = some Tryz.t28 by kernel_rfl) rfl rfl rfl (by decide) (by decide) hb2 rfl rfl (by simp only [List.length_append, List.length_cons, List.length_nil]; omega) fun v' own' hb' => Ad C rfl rfl <| X.inBlock C.1 <| X.region C rfl rfl <| Rm C rfl rfl <| R.int C rfl rfl rfl rfl (b_add (by omega) (by omega)) <| Ad C rfl rfl <| X.weaken ?_ (hnext2 (k + 1, ro3, _, xs2 ++ [(.slice b3 (l ++ [(i : Int)]).length c3, l ++ [(i : Int)])], _) ⟨by omega, RO.le_trans hle2 hl3, by simpa [List.flatMap_append, le] using hb', ?_, fun p hp => ?_⟩ (by omega))
        · exact ⟨rfl, rfl, rfl, rfl, rfl, by simp [look], trivial⟩
        · rw [List.map_append, hxs2, hext, List.append_assoc]; rfl
        · rcases List.mem_append.1 hp with hp | hp
          · exact (hls2 p hp).mono hl3
          · rw [List.mem_singleton.1 hp]; exact hls3
      · have hm := hm
        simp only [decide_eq_false_iff_not] at hm
        rw [if_neg hm, List.append_nil] at hext
        refine X.skip C.1 <| X.inBlock C.1 <| X.region C rfl rfl <| Rm C rfl rfl <| R.int C rfl rfl rfl rfl (b_add (by omega) (by omega)) <| Ad C rfl rfl <| X.weaken ?_ (hnext2 (k + 1, ro2, _, xs2, _) ⟨by omega, hle2, hb2, by rw [hxs2, hext], hls2⟩ (by omega))
        exact ⟨rfl, rfl, rfl, rfl, rfl, by simp [look], trivial⟩
    · have hlt2 := hlt2
      simp only [decide_eq_false_iff_not] at hlt2
      obtain rfl : k = xs1.length := by omega
      rw [List.take_of_length_le (by omega)] at hxs2
      refine X.exit C.1 rfl <| X.inBlock C.1 <| X.region C rfl rfl <| Rm C rfl rfl <| R.int C rfl rfl rfl rfl (b_add (by omega) (by omega)) <| Ad C rfl rfl <| X.weaken ?_ (hnext (i + 1, ro2, _, xs2, _) ⟨hi', RO.le_trans hle1 hle2, hb2, hxs2, hls2⟩ (by omega))
      exact ⟨rfl, rfl, rfl, by simp [look], trivial⟩
  · have hlt := hlt
    simp only [decide_eq_false_iff_not] at hlt
    obtain rfl : i = n := by omega
    refine X.exit C.1 rfl <| Xr C rfl rfl <| R.finish C.1 le_len (by decide) hb1 fun ro3 hl3 hls3 => Rm C rfl rfl <| Ad C rfl rfl <| Xt C func133 <| Hr hret (RO.le_trans hle1 hl3) ?_
    exact ⟨xs1, hls3, hxs1, fun p hp => (hls1 p hp).mono hl3⟩
end
end Go.Lg.B
namespace Go.Lg.B
open Go Go.Conc Go.Lg Go.Proofs Go.Proofs.Tryz
def sqAt (w : Int) (n : Nat) : Sq := ⟨(n : Int) % w, (n : Int) / w⟩
def squares (b : Bk) : List Sq := (List.range (b.w * b.h).toNat).map (sqAt b.w)
section
variable {main : Bool} {J : Goroutine → Mem → Prop} (hJ : Closed prog main J)
include hJ
theorem squaresR_c {b : Bk} {v : Value} {ro : RO} (hv : BkV ro v b) (hb : b.good) : CallR prog J (fnv 96) [v] ro (fun x ro' => LsS ro' x (squares b)) := by
  obtain ⟨vc, vw, rfl, hc, hw⟩ := hv
  have hw7 := hb.w
  have hh7 := hb.h
  have hmul : 4 ≤ b.w * b.h ∧ b.w * b.h ≤ 49 := by
    constructor
    · have : 2 * 2 ≤ b.w * b.h := Int.mul_le_mul hw7.1 hh7.1 (by decide) (by omega)
      omega
    · have : b.w * b.h ≤ 7 * 7 := Int.mul_le_mul hw7.2 hh7.2 (by omega) (by decide)
      omega
  obtain ⟨N, hN⟩ : ∃ N, N = b.w * b.h := ⟨_, rfl⟩
  rw [← hN] at hmul
  refine CallR.intro hJ (by kernel_rfl) fun c cs tail hret => enter_X (n := 27) func96 rfl rfl (Nl rfl) ?_
  have C : Ctx prog main J (bf 96 .normal) := ⟨hJ, by decide⟩
  refine Xr C rfl rfl <| R.box C rfl rfl rfl rfl fun p1 => Ad C rfl rfl <| Xr C rfl rfl <| Ad C rfl rfl <| Xs C <| Xr C rfl rfl <| Ad C rfl rfl <| X.block C.1 <| X.loopI (ι := Nat × Value × List (Nat × Obj)) C.1 (fun s => s.1 ≤ N.toNat ∧ Buf 27 2 [] s.2.1 (((List.range s.1).map (sqAt b.w)).flatMap Sq.cells) s.2.2) (fun s => [(1, .pointer (some ⟨p1, 0, none⟩)), (3, s.2.1), (4, .int .i64 (s.1 : Int))])
    (fun s => ⟨ro, s.2.2 ++ (p1, .cells [.int .i64 b.w, .int .i64 b.h, .int .i64 b.f, vc, vw].toArray 25 (0, 0)) :: tail⟩) (fun s => N.toNat - s.1) (0, .slice none 0 0, []) ⟨Nat.zero_le _, .nil⟩ rfl ⟨rfl, rfl, rfl, trivial⟩ fun s hs hnext => ?_
  obtain ⟨i, vb, own0⟩ := s
  obtain ⟨hi, hbuf⟩ := hs
  simp only at hi hbuf hnext ⊢
  have hfl : (((List.range i).map (sqAt b.w)).flatMap Sq.cells).length = i * 2 := by rw [flatMap_len Sq.len]; simp
  refine Xs C <| Xr C rfl rfl <| Rm C rfl rfl <| Rf C 0 rfl rfl runUnderlying25 rfl sizeOf3 <| R.loadOne C rfl rfl rfl isAgg3 (by repeat (first | exact Mh | apply Mt | apply List.mem_append_right)) rfl <| Rf C 1 rfl rfl runUnderlying25 rfl sizeOf3 <| R.loadOne C rfl rfl rfl isAgg3 (by repeat (first | exact Mh | apply Mt | apply List.mem_append_right)) rfl <| R.int C rfl rfl rfl rfl (b_mul (by omega) (by omega)) <| R.int C rfl rfl rfl rfl b_lss <| R.done C <| X.cond C.1 rfl (fun hlt => ?_) (fun hlt => ?_)
  · have hlt := hlt
    simp only [decide_eq_true_eq] at hlt
    refine X.skip C.1 <| Xs C <| X.block C.1 <| Xd C fun hok => Dm C 0 hok rfl rfl rfl <| Dm C 1 hok rfl rfl rfl <| Df (off' := 0) C 2 hok rfl rfl rfl runUnderlying25 rfl sizeOf3 rfl <| Dl 3 hok (fun _ _ A h => R.loadOne C rfl (A.w rfl rfl) (A.x rfl rfl) isAgg3 (by repeat (first | exact Mh | apply Mt | apply List.mem_append_right)) rfl h) <| Di C 4 hok rfl rfl rfl rfl rfl (b_remP (by omega) (by omega)) <| Dm C 5 hok rfl rfl rfl <| Df (off' := 0) C 6 hok rfl rfl rfl runUnderlying25 rfl sizeOf3 rfl <| Dl 7 hok (fun _ _ A h => R.loadOne C rfl (A.w rfl rfl) (A.x rfl rfl) isAgg3 (by repeat (first | exact Mh | apply Mt | apply List.mem_append_right)) rfl h) <| Di C 8 hok rfl rfl rfl rfl rfl (b_quoP (by omega) (by omega) (by omega)) <| Dp 9 hok (fun _ _ _ A h => R.build C rfl (A.w rfl rfl) (A.p rfl rfl) zeroValue27 rfl runUnderlying27 (by kernel_rfl) (Fills.part rfl rfl sizeOf3 rfl (.here .nil) (Fills.part rfl rfl sizeOf3 rfl (.skip (.here .nil)) .nil)) h) <| De 10 (some 24) [false, false] hok (fun σr rest A hk => ?_)
    refine R.buildSlice C (vs := _) rfl (A.w rfl rfl) (show pvals _ _ = some (numbered 0 [_]) from (A.p rfl rfl)) rfl runUnderlying41 sizeOf27 zeroValue27 (by decide) (Cat.one rfl rfl) fun p24 => hk _ _ ⟨QFs.nil, ?_⟩
    refine De 11 (some 25) [] hok (fun σr rest A hk => ?_)
    refine R.append1 (kk := 2) C rfl (A.w rfl rfl) (A.x rfl rfl) (A.x rfl rfl) runUnderlying41 runUnderlying41 (fun _ => nofun) (show prog.info? 27 = some Tryz.t27 by kernel_rfl) rfl rfl rfl (by decide) (by decide) (hbuf.app _) rfl rfl (by simp only [List.length_append, List.length_cons, List.length_nil]; omega) fun v' own' hb' => hk _ _ ⟨QFs.nil, ?_⟩
    refine Dp 12 hok (fun _ _ _ A h => R.asg C rfl (A.w rfl rfl) (A.x rfl rfl) h) <| D.done C hok (by kernel_rfl) <| X.inBlock C.1 <| X.region C rfl rfl <| Rm C rfl rfl <| R.int C rfl rfl rfl rfl (b_add (by omega) (by omega)) <| Ad C rfl rfl ?_
    obtain ⟨own2, rfl, hb2⟩ := Buf.unapp (tail := []) hb'
    refine X.weaken ?_ (hnext (i + 1, _, own2) ⟨by omega, by simpa [List.range_succ, List.flatMap_append, Sq.cells, sqAt] using hb2⟩ (by omega))
    exact ⟨rfl, rfl, by simp [look], trivial⟩
  · have hlt := hlt
    simp only [decide_eq_false_iff_not] at hlt
    obtain rfl : i = N.toNat := by omega
    refine X.exit C.1 rfl <| Xr C rfl rfl <| R.finish C.1 Sq.len (by decide) (hbuf.app _) fun ro3 hl3 hls3 => Rm C rfl rfl <| Ad C rfl rfl <| Xt C func96 <| Hr hret hl3 ?_
    rw [squares, ← hN]; exact hls3
end
end Go.Lg.B
namespace Go.Lg.B
open Go Go.Conc Go.Lg Go.Proofs Go.Proofs.Tryz
def wideRc (x : Rc) : Nat := (x.hi + 1 - x.lo).toNat
def offsStep (x : Rc) (l : List (List Int)) : List (List Int) := l.flatMap fun o => (rz x.lo (wideRc x)).map fun n => o ++ [n]
def offsAll (l : List Rc) : List (List Int) := l.foldl (fun a x => offsStep x a) [[]]
theorem offsStep_len (x : Rc) : ∀ l, (offsStep x l).length = l.length * wideRc x
  | [] => by simp [offsStep]
  | o :: l => by
    have := offsStep_len x l
    simp only [offsStep, List.flatMap_cons, List.length_append, List.length_map, rz_len, List.length_cons] at this ⊢
    rw [this, Nat.succ_mul, Nat.add_comm]
theorem offsAll_succ (l : List Rc) {i : Nat} (h : i < l.length) : offsAll (l.take (i + 1)) = offsStep l[i] (offsAll (l.take i)) := by
  unfold offsAll
  rw [List.take_add_one, List.getElem?_eq_getElem h, List.foldl_append]
  rfl
theorem offsAll_len {l : List Rc} (h : ∀ x ∈ l, x.fine = true) : ∀ i, i ≤ l.length → (offsAll (l.take i)).length ≤ 3 ^ i
  | 0, _ => by simp [offsAll]
  | i + 1, hi => by
    have ih := offsAll_len h i (by omega)
    rw [offsAll_succ l (by omega), offsStep_len]
    have hf := h _ (List.getElem_mem (show i < l.length by omega))
    simp only [Rc.fine, Bool.and_eq_true, decide_eq_true_eq] at hf
    have : wideRc l[i] ≤ 3 := by unfold wideRc; omega
    calc _ ≤ 3 ^ i * 3 := Nat.mul_le_mul ih this
      _ = 3 ^ (i + 1) := by rw [Nat.pow_succ]
theorem offsAll_each (l : List Rc) : ∀ i, i ≤ l.length → ∀ o ∈ offsAll (l.take i), o.length = i
  | 0, _, o, ho => by simp [offsAll] at ho; simp [ho]
  | i + 1, hi, o, ho => by
    rw [offsAll_succ l (by omega)] at ho
    obtain ⟨o', h1, h2⟩ := List.mem_flatMap.1 ho
    obtain ⟨n, _, rfl⟩ := List.mem_map.1 h2
    have := offsAll_each l i (by omega) o' h1
    simp [this]
theorem rz_take (lo : Int) : ∀ m, rz lo (m + 1) = rz lo m ++ [lo + m]
  | 0 => by simp [rz]
  | m + 1 => by
    have := rz_take (lo + 1) m
    rw [rz, this, rz]
    simp only [List.cons_append]
    congr 2
    rw [show lo + 1 + (m : Int) = lo + ((m + 1 : Nat) : Int) by omega]
theorem offsStep_take (x : Rc) (l : List (List Int)) {k : Nat} (h : k < l.length) : offsStep x (l.take (k + 1)) = offsStep x (l.take k) ++ (rz x.lo (wideRc x)).map fun n => l[k] ++ [n] := by
  unfold offsStep
  rw [List.take_add_one, List.getElem?_eq_getElem h, List.flatMap_append]
  simp
theorem le_at {xs : List LE} {off : Nat} {ll : List Value} (hsub : ∀ i (hi : i < xs.length), Sub (off + i * 1) 1 ll (le xs[i])) {i : Nat} (hi : i < xs.length) : ll[off + i * 1]? = some xs[i].1 := by
  have := (hsub i hi).get 0 (by decide)
  simpa [le] using this
section
variable {main : Bool} {J : Goroutine → Mem → Prop} (hJ : Closed prog main J)
include hJ
theorem offsR_c {b : Bk} {v : Value} {ro : RO} (hv : BkV ro v b) (hb : b.good) : CallR prog J (fnv 183) [v] ro (fun x ro' => LL ro' x (offsAll b.cs)) := by
  obtain ⟨vc, vw, rfl, hc, hw⟩ := hv
  have hnc := hb.nc
  have hfine := hb.cs
  obtain ⟨cb, cc, rfl⟩ := hc.form
  refine CallR.intro hJ (by kernel_rfl) fun c cs tail hret => enter_X (n := 52) func183 rfl rfl (Nl rfl) ?_
  have C : Ctx prog main J (bf 183 .normal) := ⟨hJ, by decide⟩
  refine Xr C rfl rfl <| R.box C rfl rfl rfl rfl fun p1 => Ad C rfl rfl <| Xr C rfl rfl <| R.buildSlice C (vs := _) rfl rfl (show pvals _ _ = some (numbered 0 [_]) from rfl) rfl runUnderlying149 sizeOf28 zeroValue28 (by decide) (Cat.one rfl rfl) fun p8 => Ad C rfl rfl <| Xs C <| Xr C rfl rfl <| Ad C rfl rfl <| X.block C.1 <| X.persist C.1 fun ro8 hl8 h8 => X.loopI (ι := Nat × RO × Value × List LE) C.1 (fun s => s.1 ≤ b.cs.length ∧ ro.le s.2.1 ∧ Ls le 1 s.2.1 s.2.2.1 s.2.2.2 ∧ s.2.2.2.map (·.2) = offsAll (b.cs.take s.1) ∧ ∀ p ∈ s.2.2.2, LsI s.2.1 p.1 p.2) (fun s => [(1, .pointer (some ⟨p1, 0, none⟩)), (3, s.2.2.1), (4, .int .i64 (s.1 : Int))])
    (fun s => ⟨s.2.1, (p1, .cells [.int .i64 b.w, .int .i64 b.h, .int .i64 b.f, .slice cb b.cs.length cc, vw].toArray 25 (0, 0)) :: tail⟩) (fun s => b.cs.length - s.1) (0, ro8, .slice (some ⟨p8, 0, none⟩) 1 1, [(.slice none 0 0, [])]) ⟨Nat.zero_le _, hl8, Ls.lit (xs := [((.slice none 0 0, []) : LE)]) le_len h8, rfl, fun p hp => by simp at hp; subst hp; exact Ls.nil⟩ rfl ⟨rfl, rfl, rfl, trivial⟩ fun s hs hnext => ?_
  obtain ⟨i, ro1, v1, xs1⟩ := s
  obtain ⟨hi, hle1, hL1, hxs1, hls1⟩ := hs
  simp only at hi hle1 hL1 hxs1 hls1 hnext ⊢
  have hL10 := hL1
  obtain ⟨b1, c1, rfl⟩ := hL1.form
  have hlen1 := congrArg List.length hxs1
  rw [List.length_map] at hlen1
  have hb3 := offsAll_len hfine i hi
  have hpow : 3 ^ i ≤ 3 ^ 3 := Nat.pow_le_pow_right (by decide) (by omega)
  have hc1 := hc.mono hle1
  refine Xs C <| Xr C rfl rfl <| Rm C rfl rfl <| Rf C 3 rfl rfl runUnderlying25 rfl sizeOf22 <| R.loadOne C rfl rfl rfl isAgg22 (by repeat (first | exact Mh | apply Mt)) rfl <| R.lenSlice C rfl rfl rfl runUnderlying22 <| R.int C rfl rfl rfl rfl b_lss <| R.done C <| X.cond C.1 rfl (fun hlt => ?_) (fun hlt => ?_)
  · have hlt := hlt
    simp only [decide_eq_true_eq] at hlt
    have hi' : i < b.cs.length := by omega
    obtain ⟨pc, offc, capc, llc, tc, fqc, hslc, hropc, hsubc⟩ := hc1.at Rc.len (by omega)
    cases hslc
    have hlo : llc[offc + i * 2 + 0]? = some (.int .i64 (b.cs[i]).lo) := by simpa [Rc.cells] using (hsubc i hi').get 0 (by decide)
    have hhi : llc[offc + i * 2 + 1]? = some (.int .i64 (b.cs[i]).hi) := by simpa [Rc.cells] using (hsubc i hi').get 1 (by decide)
    have hfx := hfine _ (List.getElem_mem hi')
    simp only [Rc.fine, isReach, Bool.and_eq_true, decide_eq_true_eq] at hfx
    have hsucc := offsAll_succ b.cs hi'
    generalize hX : b.cs[i] = x at hlo hhi hfx hsucc
    have hwd : wideRc x ≤ 3 := by unfold wideRc; omega
    have hwd2 : (wideRc x : Int) = x.hi + 1 - x.lo := by unfold wideRc; omega
    refine X.skip C.1 <| Xs C <| X.block C.1 <| Xr C rfl rfl <| Ad C rfl rfl <| Xs C <| Xr C rfl rfl <| Ad C rfl rfl <| X.block C.1 <| X.loopI (ι := Nat × RO × Value × List LE × List (Nat × Obj)) C.1 (fun s => s.1 ≤ xs1.length ∧ ro1.le s.2.1 ∧ Buf 28 1 [] s.2.2.1 (s.2.2.2.1.flatMap le) s.2.2.2.2 ∧ s.2.2.2.1.map (·.2) = offsStep x ((offsAll (b.cs.take i)).take s.1) ∧ ∀ p ∈ s.2.2.2.1, LsI s.2.1 p.1 p.2) (fun s => [(1, .pointer (some ⟨p1, 0, none⟩)), (3, .slice b1 xs1.length c1), (4, .int .i64 (i : Int)), (5, s.2.2.1), (6, .int .i64 (s.1 : Int))])
      (fun s => ⟨s.2.1, s.2.2.2.2 ++ (p1, .cells [.int .i64 b.w, .int .i64 b.h, .int .i64 b.f, .slice (some ⟨pc, offc, none⟩) b.cs.length cc, vw].toArray 25 (0, 0)) :: tail⟩) (fun s => xs1.length - s.1) (0, ro1, .slice none 0 0, [], []) ⟨Nat.zero_le _, RO.le_refl _, .nil, by simp [offsStep], fun p hp => nomatch hp⟩ rfl ⟨rfl, rfl, rfl, rfl, rfl, trivial⟩ fun s hs hnext2 => ?_
    obtain ⟨k, ro2, v2, xs2, own2⟩ := s
    obtain ⟨hk, hle2, hb2, hxs2, hls2⟩ := hs
    simp only at hk hle2 hb2 hxs2 hls2 hnext2 ⊢
    refine Xs C <| Xr C rfl rfl <| Rm C rfl rfl <| Rm C rfl rfl <| R.lenSlice C rfl rfl rfl runUnderlying149 <| R.int C rfl rfl rfl rfl b_lss <| R.done C <| X.cond C.1 rfl (fun hlt2 => ?_) (fun hlt2 => ?_)
    · have hlt2 := hlt2
      simp only [decide_eq_true_eq] at hlt2
      have hk' : k < xs1.length := by omega
      have hk1 : k < (offsAll (b.cs.take i)).length := by omega
      have hstep := offsStep_take x (offsAll (b.cs.take i)) hk1
      have hxk : xs1[k].2 = (offsAll (b.cs.take i))[k] := by
        have h1 : (xs1.map (·.2))[k]? = some (offsAll (b.cs.take i))[k] := by rw [hxs1, List.getElem?_eq_getElem hk1]
        rw [List.getElem?_map, List.getElem?_eq_getElem hk'] at h1
        simpa using h1
      have hlk := hls1 _ (List.getElem_mem hk')
      have hol := offsAll_each b.cs i hi _ (List.getElem_mem hk1)
      rw [← hxk] at hstep hol
      obtain ⟨pa, offa, capa, lla, ta, fqa, hsla, hropa, hsuba⟩ := hL10.at le_len (by omega)
      cases hsla
      have hx := le_at hsuba hk'
      generalize hL : xs1[k].2 = l at hlk hstep hol
      generalize xs1[k].1 = vk at hx hlk
      have hlk0 := hlk
      obtain ⟨bk, ck, rfl⟩ := hlk.form
      have hfl := flat_len l
      refine X.skip C.1 <| Xs C <| X.block C.1 <| Xr C rfl rfl <| Rf C 3 rfl rfl runUnderlying25 rfl sizeOf22 <| R.loadOne C rfl rfl rfl isAgg22 (by repeat (first | exact Mh | apply Mt | apply List.mem_append_right)) rfl <| Rm C rfl rfl <| Rx C rfl rfl rfl runUnderlying22 sizeOf46 <| R.fieldAddr C rfl rfl rfl runUnderlying46 rfl sizeOf3 rfl <| R.loadOneRo C rfl rfl rfl isAgg3 (hle2 _ _ hropc) hlo <| Ad C rfl rfl <| X.block C.1 <| X.loopI (ι := Nat × RO × Value × List LE × List (Nat × Obj)) C.1 (fun s => s.1 ≤ wideRc x ∧ ro2.le s.2.1 ∧ Buf 28 1 [] s.2.2.1 (s.2.2.2.1.flatMap le) s.2.2.2.2 ∧ s.2.2.2.1.map (·.2) = offsStep x ((offsAll (b.cs.take i)).take k) ++ (rz x.lo s.1).map (fun n => l ++ [n]) ∧ ∀ p ∈ s.2.2.2.1, LsI s.2.1 p.1 p.2) (fun s => [(1, .pointer (some ⟨p1, 0, none⟩)), (3, .slice (some ⟨pa, offa, none⟩) xs1.length c1), (4, .int .i64 (i : Int)), (5, s.2.2.1), (6, .int .i64 (k : Int)), (7, .int .i64 (x.lo + (s.1 : Int)))])
        (fun s => ⟨s.2.1, s.2.2.2.2 ++ (p1, .cells [.int .i64 b.w, .int .i64 b.h, .int .i64 b.f, .slice (some ⟨pc, offc, none⟩) b.cs.length cc, vw].toArray 25 (0, 0)) :: tail⟩) (fun s => wideRc x - s.1) (0, ro2, v2, xs2, own2) ⟨Nat.zero_le _, RO.le_refl _, hb2, by simp [hxs2, rz], hls2⟩ rfl ⟨rfl, rfl, rfl, rfl, rfl, by simp [look], trivial⟩ fun s hs hnext3 => ?_
      obtain ⟨m, ro3, v3, xs3, own3⟩ := s
      obtain ⟨hm, hle3, hb3', hxs3, hls3⟩ := hs
      simp only at hm hle3 hb3' hxs3 hls3 hnext3 ⊢
      have hlen3 := congrArg List.length hxs3
      rw [List.length_map, List.length_append, offsStep_len, List.length_map, rz_len, List.length_take] at hlen3
      have hff3 := le_flat xs3
      have hkw : min k (offsAll (b.cs.take i)).length * wideRc x ≤ 27 * 3 := Nat.mul_le_mul (by omega) hwd
      refine Xs C <| Xr C rfl rfl <| Rm C rfl rfl <| Rf C 3 rfl rfl runUnderlying25 rfl sizeOf22 <| R.loadOne C rfl rfl rfl isAgg22 (by repeat (first | exact Mh | apply Mt | apply List.mem_append_right)) rfl <| Rm C rfl rfl <| Rx C rfl rfl rfl runUnderlying22 sizeOf46 <| R.fieldAddr C rfl rfl rfl runUnderlying46 rfl sizeOf3 rfl <| R.loadOneRo C rfl rfl rfl isAgg3 (hle3 _ _ (hle2 _ _ hropc)) hhi <| R.int C rfl rfl rfl rfl b_leq <| R.done C <| X.cond C.1 rfl (fun hle => ?_) (fun hle => ?_)
      · have hle := hle
        simp only [decide_eq_true_eq] at hle
        refine X.skip C.1 <| Xs C <| X.block C.1 <| X.region C rfl rfl <| Rm C rfl rfl <| R.buildSlice C (vs := _) rfl rfl (show pvals _ _ = some (numbered 0 []) from rfl) rfl runUnderlying28 sizeOf3 zeroValue3 (by decide) (.nil) fun p39 => Rm C rfl rfl <| Rm C rfl rfl <| Rx C rfl rfl rfl runUnderlying149 sizeOf28 <| R.loadOneRo C rfl rfl rfl isAgg28 (hle3 _ _ (hle2 _ _ hropa)) hx <| R.append (kk := 1) C rfl rfl rfl rfl runUnderlying28 runUnderlying28 (fun _ => nofun) (show prog.info? 3 = some Tryz.t3 by kernel_rfl) rfl rfl rfl (by decide) (by decide) (Buf.blk (cells := []) (spare := []) (len := 0) (cap := 0) rfl rfl (Nat.le_refl _)) (((hlk0.mono hle2).mono hle3).rd ic_len) (ones_ic l) (by simp only [List.length_nil]; omega) fun v' own' hb' => Rm C rfl rfl <| R.buildSlice C (vs := _) rfl rfl (show pvals _ _ = some (numbered 0 [_]) from rfl) rfl runUnderlying28 sizeOf3 zeroValue3 (by decide) (Cat.one rfl rfl) fun p46 => R.append1 (kk := 1) C rfl rfl rfl rfl runUnderlying28 runUnderlying28 (fun _ => nofun) (show prog.info? 3 = some Tryz.t3 by kernel_rfl) rfl rfl rfl (by decide) (by decide) hb' rfl rfl (by simp only [List.length_append, List.length_cons, List.length_nil]; omega) fun v' own' hb' => ?_
        have e3 : ([] ++ l.flatMap ic) ++ [Value.int .i64 (x.lo + (m : Int))] = (l ++ [x.lo + (m : Int)]).flatMap ic := by simp [List.flatMap_append, ic]
        rw [e3] at hb'
        refine R.finish C.1 ic_len (by decide) hb' fun ro4 hl4 hls4 => ?_
        obtain ⟨b4, c4, rfl⟩ := hls4.form
        refine R.buildSlice C (vs := _) rfl rfl (show pvals _ _ = some (numbered 0 [_]) from rfl) rfl runUnderlying149 sizeOf28 zeroValue28 (by decide) (Cat.one rfl rfl) fun p48 => R.append1 (kk := 1) C rfl rfl rfl rfl runUnderlying149 runUnderlying149 (fun _ => nofun) (show prog.info? 28 = some Tryz.t28 by kernel_rfl) rfl rfl rfl (by decide) (by decide) (hb3'.app _) rfl rfl (by simp only [List.length_append, List.length_cons, List.length_nil]; omega) fun v' own' hb' => Ad C rfl rfl <| X.inBlock C.1 <| X.region C rfl rfl <| Rm C rfl rfl <| R.int C rfl rfl rfl rfl (b_add (by omega) (by omega)) <| Ad C rfl rfl ?_
        obtain ⟨own5, rfl, hb5⟩ := Buf.unapp (tail := []) hb'
        refine X.weaken ?_ (hnext3 (m + 1, ro4, _, xs3 ++ [(.slice b4 (l ++ [x.lo + (m : Int)]).length c4, l ++ [x.lo + (m : Int)])], own5) ⟨by omega, RO.le_trans hle3 hl4, by simpa [List.flatMap_append, le] using hb5, ?_, fun p hp => ?_⟩ (by omega))
        · exact ⟨rfl, rfl, rfl, rfl, rfl, by simp [look]; omega, trivial⟩
        · rw [List.map_append, hxs3, rz_take, List.map_append, List.append_assoc]; rfl
        · rcases List.mem_append.1 hp with hp | hp
          · exact (hls3 p hp).mono hl4
          · rw [List.mem_singleton.1 hp]; exact hls4
      · have hle := hle
        simp only [decide_eq_false_iff_not] at hle
        obtain rfl : m = wideRc x := by omega
        rw [← hstep] at hxs3
        refine X.exit C.1 rfl <| X.inBlock C.1 <| X.region C rfl rfl <| Rm C rfl rfl <| R.int C rfl rfl rfl rfl (b_add (by omega) (by omega)) <| Ad C rfl rfl <| X.weaken ?_ (hnext2 (k + 1, ro3, _, xs3, own3) ⟨by omega, RO.le_trans hle2 hle3, hb3', hxs3, hls3⟩ (by omega))
        exact ⟨rfl, rfl, rfl, rfl, by simp [look], trivial⟩
    · have hlt2 := hlt2
      simp only [decide_eq_false_iff_not] at hlt2
      obtain rfl : k = xs1.length := by omega
      rw [List.take_of_length_le (by omega), ← hsucc] at hxs2
      refine X.exit C.1 rfl <| X.region C rfl rfl <| R.finish C.1 le_len (by decide) (hb2.app _) fun ro4 hl4 hls4 => Rm C rfl rfl <| Ad C rfl rfl <| X.inBlock C.1 <| X.region C rfl rfl <| Rm C rfl rfl <| R.int C rfl rfl rfl rfl (b_add (by omega) (by omega)) <| Ad C rfl rfl <| X.weaken ?_ (hnext (i + 1, ro4, _, xs2) ⟨by omega, RO.le_trans hle1 (RO.le_trans hle2 hl4), hls4, hxs2, fun p hp => (hls2 p hp).mono hl4⟩ (by omega))
      exact ⟨rfl, rfl, by simp [look], trivial⟩
  · have hlt := hlt
    simp only [decide_eq_false_iff_not] at hlt
    obtain rfl : i = b.cs.length := by omega
    rw [List.take_length] at hxs1
    refine X.exit C.1 rfl <| Xr C rfl rfl <| Rm C rfl rfl <| Ad C rfl rfl <| Xt C func183 <| Hr hret hle1 ?_
    exact ⟨xs1, hL10, hxs1, hls1⟩
end
end Go.Lg.B
namespace Go.Lg.B
open Go Go.Conc Go.Lg Go.Proofs Go.Proofs.Tryz
section
variable {main : Bool} {J : Goroutine → Mem → Prop} (hJ : Closed prog main J)
include hJ
theorem rightOfR_c (w : Wt) (s : Sq) (o : Int) (hw : w.s.ok) (hs : s.ok) (ho : -3 ≤ o ∧ o ≤ 3) (ro : RO) : CallP prog J (fnv 155) [w.val, s.val, .int .i64 o] ro (.bool (decide (w.s = s) || ((bearing w.s s + o + 8) % 8 == w.b))) := by
  have hr := bearing_range w.s s
  unfold Sq.ok at hw hs
  refine CallP.intro hJ (by kernel_rfl) fun c cs tail hret => enter_X (n := 31) func155 rfl rfl (Nl rfl) ?_
  have C : Ctx prog main J (bf 155 .normal) := ⟨hJ, by decide⟩
  refine Xr C rfl rfl <| R.box C rfl rfl rfl rfl fun p3 => R.box C rfl rfl rfl rfl fun p4 => Ad C rfl rfl <| Xs C <| Xr C rfl rfl <| Rf C 0 rfl rfl runUnderlying58 rfl sizeOf27 <| R.loadAgg C rfl rfl rfl isAgg27 sizeOf27 (by repeat (first | exact Mh | apply Mt)) Tk2 <| R.loadAgg C rfl rfl rfl isAgg27 sizeOf27 (by repeat (first | exact Mh | apply Mt)) Tk2 <| R.eqAgg (p := [w.s.e, w.s.n]) (q := [s.e, s.n]) C rfl rfl rfl rfl eqT27 rfl rfl (by kernel_rfl) <| R.done C <| X.cond C.1 rfl (fun heq => ?_) (fun heq => ?_)
  · have heq := heq
    refine Xr C rfl rfl <| Ad C rfl rfl <| Xt C func155 <| Hp hret ?_
    obtain ⟨se, sn⟩ := s; obtain ⟨⟨we, wn⟩, wb, wk, wsu⟩ := w
    simp_all [retVal]
  · have heq := heq
    refine X.skip C.1 <| Xs C <| Xd C fun hok => Df (off' := 0) C 0 hok rfl rfl rfl runUnderlying27 rfl sizeOf3 rfl <| D1 C 1 hok rfl rfl isAgg3 (by repeat (first | exact Mh | apply Mt)) rfl <| Df (off' := 0) C 2 hok rfl rfl rfl runUnderlying58 rfl sizeOf27 rfl <| Df (off' := 0) C 3 hok rfl rfl rfl runUnderlying27 rfl sizeOf3 rfl <| D1 C 4 hok rfl rfl isAgg3 (by repeat (first | exact Mh | apply Mt)) rfl <| Di C 5 hok rfl rfl rfl rfl rfl (b_sub (by omega) (by omega)) <| Df (off' := 1) C 6 hok rfl rfl rfl runUnderlying27 rfl sizeOf3 rfl <| D1 C 7 hok rfl rfl isAgg3 (by repeat (first | exact Mh | apply Mt)) rfl <| Df (off' := 0) C 8 hok rfl rfl rfl runUnderlying58 rfl sizeOf27 rfl <| Df (off' := 1) C 9 hok rfl rfl rfl runUnderlying27 rfl sizeOf3 rfl <| D1 C 10 hok rfl rfl isAgg3 (by repeat (first | exact Mh | apply Mt)) rfl <| Di C 11 hok rfl rfl rfl rfl rfl (b_sub (by omega) (by omega)) <| Dm C 13 hok rfl rfl rfl <| Df (off' := 2) C 17 hok rfl rfl rfl runUnderlying58 rfl sizeOf3 rfl <| D1 C 18 hok rfl rfl isAgg3 (by repeat (first | exact Mh | apply Mt)) rfl <| De 12 (some 23) [true, false, false, false, false] hok (fun σr rest A hk => ?_)
    refine R.callP C rfl (A.w rfl rfl) (A.x rfl rfl) (A.s rfl rfl) (trueOfR_c hJ _ _ (by omega) (by omega) _) (hk _ _ ⟨(QFs.cons (QF.of rfl (fun _ _ A h => R.loadOne C rfl (A.w rfl rfl) (A.x rfl rfl) isAgg3 (by repeat (first | exact Mh | apply Mt)) rfl h)) QFs.nil), ?_⟩)
    refine D.fixv (t := 23) (v' := .int .i64 (bearing w.s s)) rfl (by (exact congrArg (Value.int .i64) (trueOf_bearing w.s s))) <| Di C 14 hok rfl rfl rfl rfl rfl (b_add (by omega) (by omega)) <| Di C 15 hok rfl rfl rfl rfl rfl (b_add (by omega) (by omega)) <| Di C 16 hok rfl rfl rfl rfl rfl (b_remP (by omega) (by omega)) <| Di C 19 hok rfl rfl rfl rfl rfl b_eql <| Dp 20 hok (fun _ _ _ A h => R.asg C rfl (A.w rfl rfl) (A.x rfl rfl) h) <| D.done C hok (by kernel_rfl) <| Xt C func155 <| Hp hret ?_
    obtain ⟨se, sn⟩ := s; obtain ⟨⟨we, wn⟩, wb, wk, wsu⟩ := w
    simp_all [retVal]
theorem sureOnesR_c {b : Bk} {v vl : Value} {ro : RO} {l : List Int} (hv : BkV ro v b) (hl : LsI ro vl l) (hn : l.length ≤ 1000000) (hr0 : ∀ k ∈ l, 0 ≤ k ∧ k < b.ws.length) : CallP prog J (fnv 88) [v, vl] ro (.bool (l.any fun k => (b.wt k.toNat).sure)) := by
  obtain ⟨vc, vw, rfl, hc, hw⟩ := hv
  obtain ⟨wb, wc, rfl⟩ := hw.form
  obtain ⟨lb, lc, rfl⟩ := hl.form
  refine CallP.intro hJ (by kernel_rfl) fun c cs tail hret => enter_X (n := 21) func88 rfl rfl (Nl rfl) ?_
  have C : Ctx prog main J (bf 88 .normal) := ⟨hJ, by decide⟩
  refine Xr C rfl rfl <| R.box C rfl rfl rfl rfl fun p2 => Ad C rfl rfl <| Xs C <| Xr C rfl rfl <| Ad C rfl rfl <| X.block C.1 <| X.loopI (ι := Nat) C.1 (fun i => i ≤ l.length ∧ (l.any fun k => (b.wt k.toNat).sure) = ((l.drop i).any fun k => (b.wt k.toNat).sure)) (fun i => [(1, .slice lb l.length lc), (2, .pointer (some ⟨p2, 0, none⟩)), (5, .int .i64 (i : Int))])
    (fun _ => ⟨ro, (p2, .cells [.int .i64 b.w, .int .i64 b.h, .int .i64 b.f, vc, .slice wb b.ws.length wc].toArray 25 (0, 0)) :: tail⟩) (fun i => l.length - i) 0 ⟨Nat.zero_le _, rfl⟩ rfl ⟨rfl, rfl, rfl, trivial⟩ fun i hi hnext => ?_
  obtain ⟨hi, hr⟩ := hi
  refine Xs C <| Xr C rfl rfl <| Rm C rfl rfl <| Rm C rfl rfl <| R.lenSlice C rfl rfl rfl runUnderlying28 <| R.int C rfl rfl rfl rfl b_lss <| R.done C <| X.cond C.1 rfl (fun hlt => ?_) (fun hlt => ?_)
  · have hlt := hlt
    simp only [decide_eq_true_eq] at hlt
    have hi' : i < l.length := by omega
    obtain ⟨pp, off, cap, ll, t, fq, hsl, hrop, hsub⟩ := hl.at ic_len (by omega)
    cases hsl
    have hx := ic_at hsub hi'
    rw [List.drop_eq_getElem_cons hi', List.any_cons] at hr
    obtain ⟨hk1, hk2⟩ := hr0 l[i] (List.getElem_mem hi')
    obtain ⟨pw, offw, capw, llw, tw, fqw, hslw, hropw, hsubw⟩ := hw.at Wt.len (by omega)
    cases hslw
    have hxw : llw[offw + (l[i]).toNat * 5 + 4]? = some (.bool (b.wt (l[i]).toNat).sure) := by
      have h1 : (l[i]).toNat < b.ws.length := by omega
      have := (hsubw _ h1).get 4 (by decide)
      rw [Bk.wt_get h1] at this
      simpa [Wt.cells] using this
    refine X.skip C.1 <| Xs C <| X.block C.1 <| Xs C <| Xd C fun hok => Df (off' := 4) C 0 hok rfl rfl rfl runUnderlying25 rfl sizeOf23 rfl <| D1 C 1 hok rfl rfl isAgg23 (by repeat (first | exact Mh | apply Mt)) rfl <| Dm C 2 hok rfl rfl rfl <| Dm C 3 hok rfl rfl rfl <| Dx C 4 hok rfl rfl rfl runUnderlying28 sizeOf3 <| Dl 5 hok (fun _ _ A h => R.loadOneRo C rfl (A.w rfl rfl) (A.x rfl rfl) isAgg3 hrop hx h) <| Dp 6 hok (fun _ _ _ A h => R.indexAddr C rfl (A.w rfl rfl) (A.x rfl rfl) (A.x rfl rfl) runUnderlying23 sizeOf58 hk1 hk2 h) <| Df C 7 hok rfl rfl rfl runUnderlying58 rfl sizeOf4 rfl <| Dl 8 hok (fun _ _ A h => R.loadOneRo C rfl (A.w rfl rfl) (A.x rfl rfl) isAgg4 hropw hxw h) <| D.done C hok (by kernel_rfl) <| X.cond C.1 rfl (fun hs => ?_) (fun hs => ?_)
    · have hs := hs
      rw [hs, Bool.true_or] at hr
      refine Xr C rfl rfl <| Ad C rfl rfl <| Xt C func88 <| Hp hret ?_
      rw [hr]; rfl
    · have hs := hs
      rw [hs, Bool.false_or] at hr
      refine X.skip C.1 <| X.inBlock C.1 <| X.region C rfl rfl <| Rm C rfl rfl <| R.int C rfl rfl rfl rfl (b_add (by omega) (by omega)) <| Ad C rfl rfl <| X.weaken ?_ (hnext (i + 1) ⟨hi', hr⟩ (by omega))
      exact ⟨rfl, rfl, by simp [look], trivial⟩
  · have hlt := hlt
    simp only [decide_eq_false_iff_not] at hlt
    obtain rfl : i = l.length := by omega
    rw [List.drop_length] at hr
    refine X.exit C.1 rfl <| Xr C rfl rfl <| Ad C rfl rfl <| Xt C func88 <| Hp hret ?_
    rw [hr]; rfl
end
end Go.Lg.B
namespace Go.Lg.B
open Go Go.Conc Go.Lg Go.Proofs Go.Proofs.Tryz
theorem all_range_succ (p : Nat → Bool) (n i : Nat) (h : i < n) : ((List.range n).drop i).all p = (p i && ((List.range n).drop (i + 1)).all p) := by
  rw [List.drop_eq_getElem_cons (by simpa using h), List.all_cons]
  simp
def rightIn (b : Bk) (c : Cs) (i : Nat) : Bool := c.f.contains (i : Int) || right (b.wt i) c.aim
section
variable {main : Bool} {J : Goroutine → Mem → Prop} (hJ : Closed prog main J)
include hJ
theorem allRightR_c {b : Bk} {c0 : Cs} {v vk : Value} {ro : RO} (hv : BkV ro v b) (hb : b.good) (hk : CsV ro vk c0) (hk2 : c0.short) (hs : c0.s.ok) (hlen : c0.o.length = b.cs.length) (hof : ∀ n ∈ c0.o, -3 ≤ n ∧ n ≤ 3) : CallP prog J (fnv 89) [v, vk] ro (.bool ((List.range b.ws.length).all fun i => c0.f.contains (i : Int) || right (b.wt i) c0.aim)) := by
  have hnc := hb.nc
  have hnw := hb.nw
  have hws := hb.ws
  obtain ⟨vc, vw, rfl, hc, hw⟩ := hv
  obtain ⟨wb, wc, rfl⟩ := hw.form
  obtain ⟨vo, vf, rfl, ho, hf⟩ := hk
  obtain ⟨ob, oc, rfl⟩ := ho.form
  obtain ⟨fb, fc, rfl⟩ := hf.form
  obtain ⟨hk1, hk2⟩ := hk2
  refine CallP.intro hJ (by kernel_rfl) fun c cs tail hret => enter_X (n := 37) func89 rfl rfl (Nl rfl) ?_
  have C : Ctx prog main J (bf 89 .normal) := ⟨hJ, by decide⟩
  refine Xr C rfl rfl <| R.box C rfl rfl rfl rfl fun p2 => R.box C rfl rfl rfl rfl fun p3 => Ad C rfl rfl <| Xs C <| Xr C rfl rfl <| Ad C rfl rfl <| X.block C.1 <| X.loopI (ι := Nat) C.1 (fun i => i ≤ b.ws.length ∧ (List.range b.ws.length).all (rightIn b c0) = ((List.range b.ws.length).drop i).all (rightIn b c0)) (fun i => [(2, .pointer (some ⟨p2, 0, none⟩)), (3, .pointer (some ⟨p3, 0, none⟩)), (5, .int .i64 (i : Int))])
    (fun _ => ⟨ro, (p3, .cells [.int .i64 c0.s.e, .int .i64 c0.s.n, .slice ob c0.o.length oc, .slice fb c0.f.length fc].toArray 30 (0, 0)) :: (p2, .cells [.int .i64 b.w, .int .i64 b.h, .int .i64 b.f, vc, .slice wb b.ws.length wc].toArray 25 (0, 0)) :: tail⟩) (fun i => b.ws.length - i) 0 ⟨Nat.zero_le _, rfl⟩ rfl ⟨rfl, rfl, rfl, trivial⟩ fun i hi hnext => ?_
  obtain ⟨hi, hr⟩ := hi
  refine Xs C <| Xr C rfl rfl <| Rm C rfl rfl <| Rf C 4 rfl rfl runUnderlying25 rfl sizeOf23 <| R.loadOne C rfl rfl rfl isAgg23 (by repeat (first | exact Mh | apply Mt)) rfl <| R.lenSlice C rfl rfl rfl runUnderlying23 <| R.int C rfl rfl rfl rfl b_lss <| R.done C <| X.cond C.1 rfl (fun hlt => ?_) (fun hlt => ?_)
  · have hlt := hlt
    simp only [decide_eq_true_eq] at hlt
    have hi' : i < b.ws.length := by omega
    rw [all_range_succ _ _ _ hi'] at hr
    obtain ⟨pw, offw, capw, llw, tw, fqw, hslw, hropw, hsubw⟩ := hw.at Wt.len (by omega)
    cases hslw
    have hwi := hsubw i hi'
    obtain ⟨hwok, _, hk0, hk3⟩ := Wt.fine.ok (hws _ (List.getElem_mem hi'))
    rw [Bk.wt_get hi'] at hwi hwok hk0 hk3
    generalize hW : b.wt i = W at hwi hwok hk0 hk3
    have hkl : W.k.toNat < c0.o.length := by omega
    obtain ⟨po, offo, capo, llo, to, fqo, hslo, hropo, hsubo⟩ := ho.at ic_len (by omega)
    cases hslo
    have hxo : llo[offo + W.k.toNat * 1]? = some (.int .i64 (c0.o[W.k.toNat])) := ic_at hsubo hkl
    have hoff : c0.aim.off W.k = c0.o[W.k.toNat] := by
      have h3 : W.k = 0 ∨ W.k = 1 ∨ W.k = 2 := by omega
      rcases h3 with h | h | h <;> simp only [h, Aim.off, Cs.aim] <;> simp [List.getD_eq_getElem?_getD] <;> (rw [h] at hkl; simp at hkl; simp [hkl])
    have hoff3 := hof _ (List.getElem_mem hkl)
    by_cases hh : c0.f.contains (i : Int) = true
    · have hri : rightIn b c0 i = true := by rw [rightIn, hh]; rfl
      refine X.skip C.1 <| Xs C <| X.block C.1 <| Xr C rfl rfl <| Rf C 4 rfl rfl runUnderlying25 rfl sizeOf23 <| R.loadOne C rfl rfl rfl isAgg23 (by repeat (first | exact Mh | apply Mt)) rfl <| Rm C rfl rfl <| Rx C rfl rfl rfl runUnderlying23 sizeOf58 <| R.loadAggRo C rfl rfl rfl isAgg58 sizeOf58 hropw hwi <| R.alloc C rfl rfl zeroValue58 rfl fun p6 => R.store C rfl rfl rfl rfl sizeOf58 rfl rfl rfl (by repeat (first | exact Uh | apply Ut)) (.here (.here (.here (.here (.here .nil))))) <| R.done C <| Xs C <| Xd C fun hok => Df (off' := 3) C 0 hok rfl rfl rfl runUnderlying30 rfl sizeOf28 rfl <| D1 C 1 hok rfl rfl isAgg28 (by repeat (first | exact Mh | apply Mt)) rfl <| Dm C 2 hok rfl rfl rfl <| De 3 (some 22) [false] hok (fun σr rest A hk => ?_)
      refine R.callP C rfl (A.w rfl rfl) (A.x rfl rfl) (A.s rfl rfl) (holdsR_c hJ hf (by omega) _) (hk _ _ ⟨QFs.nil, ?_⟩)
      refine Dp 4 hok (fun _ _ _ A h => R.not C rfl (A.w rfl rfl) (A.x rfl rfl) h) <| D.fixv (t := 23) (v' := .bool false) rfl (by (rw [hh]; rfl)) <| Dm C 5 hok rfl rfl rfl <| Du C 6 hok rfl <| Du C 7 hok rfl <| Du C 8 hok rfl <| Du C 9 hok rfl <| Du C 10 hok rfl <| Du C 11 hok rfl <| Du C 12 hok rfl <| Du C 13 hok rfl <| Du C 14 hok rfl <| Du C 15 hok rfl <| Du C 16 hok rfl <| Dp 17 hok (fun _ _ _ A h => R.pickF C rfl (A.w rfl rfl) (A.x rfl rfl) (A.x rfl rfl) h) <| D.done C hok (by kernel_rfl) <| X.cond C.1 rfl (fun h => nomatch h) (fun _ => ?_)
      refine X.skip C.1 <| X.inBlock C.1 <| X.region C rfl rfl <| Rm C rfl rfl <| R.int C rfl rfl rfl rfl (b_add (by omega) (by omega)) <| Ad C rfl rfl ?_
      rw [hri, Bool.true_and] at hr
      refine X.weak C.1 (Weak.sub (List.sublist_cons_self _ _)) (X.weaken ?_ (hnext (i + 1) ⟨hi', hr⟩ (by omega)))
      exact ⟨rfl, rfl, by simp [look], trivial⟩
    · have hh2 : c0.f.contains (i : Int) = false := by simpa using hh
      refine X.skip C.1 <| Xs C <| X.block C.1 <| Xr C rfl rfl <| Rf C 4 rfl rfl runUnderlying25 rfl sizeOf23 <| R.loadOne C rfl rfl rfl isAgg23 (by repeat (first | exact Mh | apply Mt)) rfl <| Rm C rfl rfl <| Rx C rfl rfl rfl runUnderlying23 sizeOf58 <| R.loadAggRo C rfl rfl rfl isAgg58 sizeOf58 hropw hwi <| R.alloc C rfl rfl zeroValue58 rfl fun p6 => R.store C rfl rfl rfl rfl sizeOf58 rfl rfl rfl (by repeat (first | exact Uh | apply Ut)) (.here (.here (.here (.here (.here .nil))))) <| R.done C <| Xs C <| Xd C fun hok => Df (off' := 3) C 0 hok rfl rfl rfl runUnderlying30 rfl sizeOf28 rfl <| D1 C 1 hok rfl rfl isAgg28 (by repeat (first | exact Mh | apply Mt)) rfl <| Dm C 2 hok rfl rfl rfl <| De 3 (some 22) [false] hok (fun σr rest A hk => ?_)
      refine R.callP C rfl (A.w rfl rfl) (A.x rfl rfl) (A.s rfl rfl) (holdsR_c hJ hf (by omega) _) (hk _ _ ⟨QFs.nil, ?_⟩)
      refine Dp 4 hok (fun _ _ _ A h => R.not C rfl (A.w rfl rfl) (A.x rfl rfl) h) <| D.fixv (t := 23) (v' := .bool true) rfl (by (rw [hh2]; rfl)) <| Dm C 5 hok rfl rfl rfl <| D5 C 6 hok rfl rfl isAgg58 sizeOf58 (by repeat (first | exact Mh | apply Mt)) Tk5 <| Df (off' := 0) C 7 hok rfl rfl rfl runUnderlying30 rfl sizeOf27 rfl <| D5 C 8 hok rfl rfl isAgg27 sizeOf27 (by repeat (first | exact Mh | apply Mt)) Tk2 <| Df (off' := 2) C 9 hok rfl rfl rfl runUnderlying30 rfl sizeOf28 rfl <| D1 C 10 hok rfl rfl isAgg28 (by repeat (first | exact Mh | apply Mt)) rfl <| Df (off' := 3) C 11 hok rfl rfl rfl runUnderlying58 rfl sizeOf3 rfl <| D1 C 12 hok rfl rfl isAgg3 (by repeat (first | exact Mh | apply Mt)) rfl <| Dp 13 hok (fun _ _ _ A h => R.indexAddr C rfl (A.w rfl rfl) (A.x rfl rfl) (A.x rfl rfl) runUnderlying28 sizeOf3 hk0 (by omega) h) <| Dl 14 hok (fun _ _ A h => R.loadOneRo C rfl (A.w rfl rfl) (A.x rfl rfl) isAgg3 hropo hxo h) <| De 15 (some 34) [false, false, false, false, false] hok (fun σr rest A hk => ?_)
      refine R.callP C rfl (A.w rfl rfl) (A.x rfl rfl) (A.s rfl rfl) (rightOfR_c hJ W c0.s _ hwok hs hoff3 _) (hk _ _ ⟨QFs.nil, ?_⟩)
      refine Dp 16 hok (fun _ _ _ A h => R.not C rfl (A.w rfl rfl) (A.x rfl rfl) h) <| Dp 17 hok (fun _ _ _ A h => R.pickT C rfl (A.w rfl rfl) (A.x rfl rfl) (A.x rfl rfl) h) <| D.done C hok (by kernel_rfl) ?_
      have hri : rightIn b c0 i = right W c0.aim := by rw [rightIn, hh2, hW]; rfl
      have hrr : right W c0.aim = (decide (W.s = c0.s) || ((bearing W.s c0.s + c0.o[W.k.toNat] + 8) % 8 == W.b)) := by rw [right, hoff]; rfl
      refine X.cond C.1 rfl (fun hq => ?_) (fun hq => ?_)
      · have hq := hq
        rw [← hrr] at hq
        simp only [Bool.not_eq_true'] at hq
        rw [hri, hq, Bool.false_and] at hr
        refine Xr C rfl rfl <| Ad C rfl rfl <| Xt C func89 <| Hp hret ?_
        exact congrArg Value.bool hr.symm
      · have hq := hq
        rw [← hrr] at hq
        simp only [Bool.not_eq_false'] at hq
        rw [hri, hq, Bool.true_and] at hr
        refine X.skip C.1 <| X.inBlock C.1 <| X.region C rfl rfl <| Rm C rfl rfl <| R.int C rfl rfl rfl rfl (b_add (by omega) (by omega)) <| Ad C rfl rfl <| X.weak C.1 (Weak.sub (List.sublist_cons_self _ _)) (X.weaken ?_ (hnext (i + 1) ⟨hi', hr⟩ (by omega)))
        exact ⟨rfl, rfl, by simp [look], trivial⟩
  · have hlt := hlt
    simp only [decide_eq_false_iff_not] at hlt
    obtain rfl : i = b.ws.length := by omega
    rw [List.drop_eq_nil_of_le (by simp)] at hr
    refine X.exit C.1 rfl <| Xr C rfl rfl <| Ad C rfl rfl <| Xt C func89 <| Hp hret ?_
    exact congrArg Value.bool hr.symm
end
end Go.Lg.B
namespace Go.Lg.B
open Go Go.Conc Go.Lg Go.Proofs Go.Proofs.Tryz
abbrev CE := (Value × Value) × Cs
def ce (p : CE) : List Value := [.int .i64 p.2.s.e, .int .i64 p.2.s.n, p.1.1, p.1.2]
theorem ce_len (p : CE) : (ce p).length = 4 := rfl
def LC (ro : RO) (v : Value) (l : List Cs) : Prop := ∃ xs : List CE, Ls ce 4 ro v xs ∧ xs.map (·.2) = l ∧ ∀ p ∈ xs, LsI ro p.1.1 p.2.o ∧ LsI ro p.1.2 p.2.f
def allR (b : Bk) (c : Cs) : Bool := (List.range b.ws.length).all fun i => c.f.contains (i : Int) || right (b.wt i) c.aim
def withAt (b : Bk) (l : List Int) (s : Sq) (os : List (List Int)) : List Cs := (os.filter fun o => allR b ⟨s, o, l⟩).map fun o => ⟨s, o, l⟩
def withFalse (b : Bk) (l : List Int) : List Cs := (squares b).flatMap fun s => withAt b l s (offsAll b.cs)
theorem withAt_take (b : Bk) (l : List Int) (s : Sq) (os : List (List Int)) {k : Nat} (h : k < os.length) : withAt b l s (os.take (k + 1)) = withAt b l s (os.take k) ++ (if allR b ⟨s, os[k], l⟩ = true then [⟨s, os[k], l⟩] else []) := by
  unfold withAt
  rw [List.take_add_one, List.getElem?_eq_getElem h, List.filter_append, List.map_append]
  congr 1
  by_cases hm : allR b ⟨s, os[k], l⟩ = true <;> simp [hm]
theorem withAt_len (b : Bk) (l : List Int) (s : Sq) (os : List (List Int)) : (withAt b l s os).length ≤ os.length := by
  unfold withAt; rw [List.length_map]; exact List.length_filter_le _ _
theorem flat_take {α β : Type} (f : α → List β) (l : List α) {i : Nat} (h : i < l.length) : (l.take (i + 1)).flatMap f = (l.take i).flatMap f ++ f l[i] := by
  rw [List.take_add_one, List.getElem?_eq_getElem h, List.flatMap_append]; simp
theorem flat_bound {α β : Type} (f : α → List β) (m : Nat) (h : ∀ x, (f x).length ≤ m) : ∀ l : List α, (l.flatMap f).length ≤ l.length * m
  | [] => by simp
  | x :: l => by
    have := flat_bound f m h l
    have := h x
    simp only [List.flatMap_cons, List.length_append, List.length_cons, Nat.succ_mul]; omega
theorem offsAll_in {l : List Rc} (hf : ∀ x ∈ l, x.fine = true) : ∀ i, i ≤ l.length → ∀ o ∈ offsAll (l.take i), ∀ n ∈ o, -3 ≤ n ∧ n ≤ 3
  | 0, _, o, ho => by simp [offsAll] at ho; simp [ho]
  | i + 1, hi, o, ho => by
    rw [offsAll_succ l (by omega)] at ho
    obtain ⟨o', h1, h2⟩ := List.mem_flatMap.1 ho
    obtain ⟨n, hn, rfl⟩ := List.mem_map.1 h2
    have hfx := hf _ (List.getElem_mem (show i < l.length by omega))
    simp only [Rc.fine, isReach, Bool.and_eq_true, decide_eq_true_eq] at hfx
    rw [rz_iff] at hn
    intro m hm
    rcases List.mem_append.1 hm with hm | hm
    · exact offsAll_in hf i (by omega) o' h1 m hm
    · rw [List.mem_singleton.1 hm]; unfold wideRc at hn; omega
theorem ce_flat (xs : List CE) : (xs.flatMap ce).length = xs.length * 4 := flatMap_len ce_len xs
theorem squares_ok {b : Bk} (hb : b.good) : ∀ s ∈ squares b, s.ok := by
  intro s hs
  obtain ⟨n, hn, rfl⟩ := List.mem_map.1 hs
  have hn := List.mem_range.1 hn
  have hw := hb.w
  have hh := hb.h
  have h49 : b.w * b.h ≤ 49 := by
    have : b.w * b.h ≤ 7 * 7 := Int.mul_le_mul hw.2 hh.2 (by omega) (by decide)
    omega
  have h1 := Int.emod_nonneg (n : Int) (show b.w ≠ 0 by omega)
  have h2 := Int.emod_lt_of_pos (n : Int) (show 0 < b.w by omega)
  have h3 : 0 ≤ (n : Int) / b.w := Int.ediv_nonneg (by omega) (by omega)
  have h4 : (n : Int) / b.w ≤ n := Int.ediv_le_self _ (by omega)
  unfold Sq.ok sqAt
  simp only
  omega
theorem squares_len {b : Bk} (hb : b.good) : (squares b).length ≤ 49 := by
  have hw := hb.w
  have hh := hb.h
  have h49 : b.w * b.h ≤ 49 := by
    have : b.w * b.h ≤ 7 * 7 := Int.mul_le_mul hw.2 hh.2 (by omega) (by decide)
    omega
  simp [squares]; omega
section
variable {main : Bool} {J : Goroutine → Mem → Prop} (hJ : Closed prog main J)
include hJ
theorem withFalseR_c {b : Bk} {v vl : Value} {ro : RO} {l : List Int} (hv : BkV ro v b) (hb : b.good) (hl : LsI ro vl l) (hn : l.length ≤ 1000) : CallR prog J (fnv 156) [v, vl] ro (fun x ro' => LC ro' x (withFalse b l)) := by
  have hvv := hv
  obtain ⟨vc, vw, rfl, hc, hw⟩ := hv
  have hnc := hb.nc
  have hfine := hb.cs
  have hsql := squares_len hb
  have hofl := offsAll_len hfine b.cs.length (Nat.le_refl _)
  have hofe := offsAll_each b.cs b.cs.length (Nat.le_refl _)
  have hofi := offsAll_in hfine b.cs.length (Nat.le_refl _)
  rw [List.take_length] at hofl hofe hofi
  have hpow : 3 ^ b.cs.length ≤ 3 ^ 3 := Nat.pow_le_pow_right (by decide) (by omega)
  obtain ⟨lb, lc, rfl⟩ := hl.form
  refine CallR.intro hJ (by kernel_rfl) fun c cs tail hret => enter_X (n := 45) func156 rfl rfl (Nl rfl) ?_
  have C : Ctx prog main J (bf 156 .normal) := ⟨hJ, by decide⟩
  refine Xr C rfl rfl <| R.box C rfl rfl rfl rfl fun p2 => Ad C rfl rfl <| Xs C <| Xd C fun hok => D5 C 0 hok rfl rfl isAgg25 sizeOf25 (by repeat (first | exact Mh | apply Mt)) Tk5 <| D5 C 2 hok rfl rfl isAgg25 sizeOf25 (by repeat (first | exact Mh | apply Mt)) Tk5 <| De 1 (some 12) [true, false] hok (fun σr rest A hk => ?_)
  refine R.callR C rfl (A.w rfl rfl) (A.x rfl rfl) (A.s rfl rfl) ((squaresR_c hJ hvv hb)) fun vS roS hlS hS => hk _ _ ⟨(QFs.cons (QF.of rfl (fun _ _ A h => R.loadAgg C rfl (A.w rfl rfl) (A.x rfl rfl) isAgg25 sizeOf25 (by repeat (first | exact Mh | apply Mt)) Tk5 h)) QFs.nil), ?_⟩
  refine De 3 (some 14) [false] hok (fun σr rest A hk => ?_)
  refine R.callR C rfl (A.w rfl rfl) (A.x rfl rfl) (A.s rfl rfl) ((offsR_c hJ (hvv.mono hlS) hb)) fun vO roO hlO hO => hk _ _ ⟨QFs.nil, ?_⟩
  refine Dp 4 hok (fun _ _ _ A h => R.asg C rfl (A.w rfl rfl) (A.x rfl rfl) h) <| Dp 5 hok (fun _ _ _ A h => R.asg C rfl (A.w rfl rfl) (A.x rfl rfl) h) <| D.done C hok (by kernel_rfl) <| Xr C rfl rfl <| Ad C rfl rfl <| Xs C <| Xr C rfl rfl <| Ad C rfl rfl <| X.block C.1 ?_
  obtain ⟨sb, sc, rfl⟩ := hS.form
  obtain ⟨xO, hOL, hxO, hlO2⟩ := hO
  have hOL0 := hOL
  obtain ⟨ob, oc, rfl⟩ := hOL.form
  have hxOl := congrArg List.length hxO
  rw [List.length_map] at hxOl
  have hvO := (hvv.mono hlS).mono hlO
  have hlOO := (hl.mono hlS).mono hlO
  refine X.loopI (ι := Nat × Value × List CE × List (Nat × Obj)) C.1 (fun s => s.1 ≤ (squares b).length ∧ Buf 30 4 [] s.2.1 (s.2.2.1.flatMap ce) s.2.2.2 ∧ s.2.2.1.map (·.2) = ((squares b).take s.1).flatMap (fun q => withAt b l q (offsAll b.cs)) ∧ ∀ p ∈ s.2.2.1, LsI roO p.1.1 p.2.o ∧ LsI roO p.1.2 p.2.f) (fun s => [(1, .slice lb l.length lc), (2, .pointer (some ⟨p2, 0, none⟩)), (5, .slice sb (squares b).length sc), (6, .slice ob xO.length oc), (7, s.2.1), (8, .int .i64 (s.1 : Int))])
    (fun s => ⟨roO, s.2.2.2 ++ (p2, .cells [.int .i64 b.w, .int .i64 b.h, .int .i64 b.f, vc, vw].toArray 25 (0, 0)) :: tail⟩) (fun s => (squares b).length - s.1) (0, .slice none 0 0, [], []) ⟨Nat.zero_le _, .nil, by simp, fun p hp => nomatch hp⟩ rfl ⟨rfl, rfl, rfl, rfl, rfl, rfl, trivial⟩ fun s hs hnext => ?_
  obtain ⟨i, v1, xs1, own1⟩ := s
  obtain ⟨hi, hb1, hxs1, hls1⟩ := hs
  simp only at hi hb1 hxs1 hls1 hnext ⊢
  refine Xs C <| Xr C rfl rfl <| Rm C rfl rfl <| Rm C rfl rfl <| R.lenSlice C rfl rfl rfl runUnderlying41 <| R.int C rfl rfl rfl rfl b_lss <| R.done C <| X.cond C.1 rfl (fun hlt => ?_) (fun hlt => ?_)
  · have hlt := hlt
    simp only [decide_eq_true_eq] at hlt
    have hi' : i < (squares b).length := by omega
    have hsok := squares_ok hb _ (List.getElem_mem hi')
    have hsucc := flat_take (fun q => withAt b l q (offsAll b.cs)) (squares b) hi'
    obtain ⟨ps, offs', caps, lls, ts, fqs, hsls, hrops, hsubs⟩ := (hS.mono hlO).at Sq.len (by omega)
    cases hsls
    have hsi := hsubs i hi'
    generalize hQ : (squares b)[i] = q at hsok hsucc hsi
    refine X.skip C.1 <| Xs C <| X.block C.1 <| Xr C rfl rfl <| Ad C rfl rfl <| X.block C.1 <| X.loopI (ι := Nat × Value × List CE × List (Nat × Obj)) C.1 (fun s => s.1 ≤ xO.length ∧ Buf 30 4 [] s.2.1 (s.2.2.1.flatMap ce) s.2.2.2 ∧ s.2.2.1.map (·.2) = ((squares b).take i).flatMap (fun q => withAt b l q (offsAll b.cs)) ++ withAt b l q ((offsAll b.cs).take s.1) ∧ ∀ p ∈ s.2.2.1, LsI roO p.1.1 p.2.o ∧ LsI roO p.1.2 p.2.f) (fun s => [(1, .slice lb l.length lc), (2, .pointer (some ⟨p2, 0, none⟩)), (5, .slice (some ⟨ps, offs', none⟩) (squares b).length sc), (6, .slice ob xO.length oc), (7, s.2.1), (8, .int .i64 (i : Int)), (9, .int .i64 (s.1 : Int))])
      (fun s => ⟨roO, s.2.2.2 ++ (p2, .cells [.int .i64 b.w, .int .i64 b.h, .int .i64 b.f, vc, vw].toArray 25 (0, 0)) :: tail⟩) (fun s => xO.length - s.1) (0, v1, xs1, own1) ⟨Nat.zero_le _, hb1, by simp [hxs1, withAt], hls1⟩ rfl ⟨rfl, rfl, rfl, rfl, rfl, rfl, rfl, trivial⟩ fun s hs hnext2 => ?_
    obtain ⟨k, v2, xs2, own2⟩ := s
    obtain ⟨hk, hb2, hxs2, hls2⟩ := hs
    simp only at hk hb2 hxs2 hls2 hnext2 ⊢
    have hlen2 := congrArg List.length hxs2
    rw [List.length_map, List.length_append] at hlen2
    have hbd1 := flat_bound (fun q => withAt b l q (offsAll b.cs)) 27 (fun q => Nat.le_trans (withAt_len b l q _) (by omega)) ((squares b).take i)
    have hbd2 := withAt_len b l q ((offsAll b.cs).take k)
    rw [List.length_take] at hbd1 hbd2
    have hff2 := ce_flat xs2
    refine Xs C <| Xr C rfl rfl <| Rm C rfl rfl <| Rm C rfl rfl <| R.lenSlice C rfl rfl rfl runUnderlying149 <| R.int C rfl rfl rfl rfl b_lss <| R.done C <| X.cond C.1 rfl (fun hlt2 => ?_) (fun hlt2 => ?_)
    · have hlt2 := hlt2
      simp only [decide_eq_true_eq] at hlt2
      have hk' : k < xO.length := by omega
      have hk1 : k < (offsAll b.cs).length := by omega
      have hstep := withAt_take b l q (offsAll b.cs) hk1
      have hxk : xO[k].2 = (offsAll b.cs)[k] := by
        have h1 : (xO.map (·.2))[k]? = some (offsAll b.cs)[k] := by rw [hxO, List.getElem?_eq_getElem hk1]
        rw [List.getElem?_map, List.getElem?_eq_getElem hk'] at h1
        simpa using h1
      have hlk := hlO2 _ (List.getElem_mem hk')
      have hol := hofe _ (List.getElem_mem hk1)
      have hoi := hofi _ (List.getElem_mem hk1)
      rw [← hxk] at hstep hol hoi
      obtain ⟨pa, offa, capa, lla, ta, fqa, hsla, hropa, hsuba⟩ := hOL0.at le_len (by omega)
      cases hsla
      have hx := le_at hsuba hk'
      generalize hL : xO[k].2 = o at hlk hstep hol hoi
      generalize xO[k].1 = vk at hx hlk
      have hlk0 := hlk
      obtain ⟨bk, ck, rfl⟩ := hlk.form
      refine X.skip C.1 <| Xs C <| X.block C.1 <| Xs C <| Xd C fun hok => Dm C 0 hok rfl rfl rfl <| Dm C 1 hok rfl rfl rfl <| Dx C 2 hok rfl rfl rfl runUnderlying41 sizeOf27 <| Dl 3 hok (fun _ _ A h => R.loadAggRo C rfl (A.w rfl rfl) (A.x rfl rfl) isAgg27 sizeOf27 hrops hsi h) <| Dm C 4 hok rfl rfl rfl <| Dm C 5 hok rfl rfl rfl <| Dx C 6 hok rfl rfl rfl runUnderlying149 sizeOf28 <| Dl 7 hok (fun _ _ A h => R.loadOneRo C rfl (A.w rfl rfl) (A.x rfl rfl) isAgg28 hropa hx h) <| Dm C 8 hok rfl rfl rfl <| Dp 9 hok (fun _ _ _ A h => R.build C rfl (A.w rfl rfl) (A.p rfl rfl) zeroValue30 rfl runUnderlying30 (by kernel_rfl) (Fills.part rfl rfl sizeOf27 rfl (.here (.here .nil)) (Fills.part rfl rfl sizeOf28 rfl (.skip (.skip (.here .nil))) (Fills.part rfl rfl sizeOf28 rfl (.skip (.skip (.skip (.here .nil)))) .nil))) h) <| De 10 (some 10) [true, true] hok (fun σr rest A hk => ?_)
      refine R.alloc C rfl (A.w rfl rfl) zeroValue30 rfl fun p10 => hk _ _ ⟨(QFs.cons (QF.of rfl (fun _ _ A h => R.loadOneRo C rfl (A.w rfl rfl) (A.x rfl rfl) isAgg28 hropa hx h)) (QFs.cons (QF.of rfl (fun _ _ A h => R.loadAggRo C rfl (A.w rfl rfl) (A.x rfl rfl) isAgg27 sizeOf27 hrops hsi h)) QFs.nil)), ?_⟩
      refine De 11 none [false, false] hok (fun σr rest A hk => ?_)
      refine R.store C rfl (A.w rfl rfl) (A.x rfl rfl) (A.x rfl rfl) sizeOf30 rfl rfl rfl (by repeat (first | exact Uh | apply Ut | apply Upd.app)) (.here (.here (.here (.here .nil)))) (hk undef _ ⟨QFs.nil, ?_⟩)
      refine D.done C hok (by kernel_rfl) <| Xr C rfl rfl <| R.loadAgg C rfl rfl rfl isAgg25 sizeOf25 (by repeat (first | exact Mh | apply Mt | apply List.mem_append_right)) Tk5 <| R.loadAgg C rfl rfl rfl isAgg30 sizeOf30 (by repeat (first | exact Mh | apply Mt | apply List.mem_append_right)) Tk4 ?_
      have hkc : CsV roO (.agg [.int .i64 q.e, .int .i64 q.n, .slice bk o.length ck, .slice lb l.length lc].toArray) ⟨q, o, l⟩ := ⟨_, _, rfl, hlk0, hlOO⟩
      refine R.callP C rfl rfl rfl rfl (allRightR_c hJ hvO hb hkc ⟨by simp only; omega, by simp only; omega⟩ hsok hol hoi) <| R.done C <| X.cond C.1 rfl (fun hr => ?_) (fun hr => ?_)
      · have hr := hr
        have hr2 : allR b ⟨q, o, l⟩ = true := hr
        rw [if_pos hr2] at hstep
        refine X.region C rfl rfl <| Rm C rfl rfl <| R.loadAgg C rfl rfl rfl isAgg30 sizeOf30 (by repeat (first | exact Mh | apply Mt | apply List.mem_append_right)) Tk4 <| R.buildSlice C (vs := _) rfl rfl (show pvals _ _ = some (numbered 0 [_]) from rfl) rfl runUnderlying122 sizeOf30 zeroValue30 (by decide) (Cat.one rfl rfl) fun p42 => R.append2 (kk := 4) C [(p10, .cells [.int .i64 q.e, .int .i64 q.n, .slice bk o.length ck, .slice lb l.length lc].toArray 30 (0, 0))] rfl rfl rfl rfl runUnderlying122 runUnderlying122 (fun _ => nofun) (show prog.info? 30 = some Tryz.t30 by kernel_rfl) rfl rfl rfl (by decide) (by decide) (hb2.app _) rfl rfl (by simp only [List.length_append, List.length_cons, List.length_nil]; omega) fun v' own' hb' => Ad C rfl rfl <| X.inBlock C.1 <| X.region C rfl rfl <| Rm C rfl rfl <| R.int C rfl rfl rfl rfl (b_add (by omega) (by omega)) <| Ad C rfl rfl ?_
        obtain ⟨own3, rfl, hb3⟩ := Buf.unapp (tail := []) hb'
        refine X.weak C.1 (Weak.sub (List.sublist_cons_self _ _)) (X.weaken ?_ (hnext2 (k + 1, _, xs2 ++ [((.slice bk o.length ck, .slice lb l.length lc), ⟨q, o, l⟩)], own3) ⟨by omega, by simpa [List.flatMap_append, ce] using hb3, by rw [List.map_append, hxs2, hstep, List.append_assoc]; rfl, fun p hp => ?_⟩ (by omega)))
        · exact ⟨rfl, rfl, rfl, rfl, rfl, rfl, by simp [look], trivial⟩
        · rcases List.mem_append.1 hp with hp | hp
          · exact hls2 p hp
          · rw [List.mem_singleton.1 hp]; exact ⟨hlk0, hlOO⟩
      · have hr := hr
        have hr2 : ¬ allR b ⟨q, o, l⟩ = true := by rw [show allR b ⟨q, o, l⟩ = false from hr]; simp
        rw [if_neg hr2, List.append_nil] at hstep
        refine X.skip C.1 <| X.inBlock C.1 <| X.region C rfl rfl <| Rm C rfl rfl <| R.int C rfl rfl rfl rfl (b_add (by omega) (by omega)) <| Ad C rfl rfl <| X.weak C.1 (Weak.sub (List.sublist_cons_self _ _)) (X.weaken ?_ (hnext2 (k + 1, v2, xs2, own2) ⟨by omega, hb2, by rw [hxs2, hstep], hls2⟩ (by omega)))
        exact ⟨rfl, rfl, rfl, rfl, rfl, rfl, by simp [look], trivial⟩
    · have hlt2 := hlt2
      simp only [decide_eq_false_iff_not] at hlt2
      obtain rfl : k = xO.length := by omega
      rw [List.take_of_length_le (show (offsAll b.cs).length ≤ xO.length by omega), ← hsucc] at hxs2
      refine X.exit C.1 rfl <| X.inBlock C.1 <| X.region C rfl rfl <| Rm C rfl rfl <| R.int C rfl rfl rfl rfl (b_add (by omega) (by omega)) <| Ad C rfl rfl <| X.weaken ?_ (hnext (i + 1, v2, xs2, own2) ⟨by omega, hb2, hxs2, hls2⟩ (by omega))
      exact ⟨rfl, rfl, rfl, rfl, rfl, by simp [look], trivial⟩
  · have hlt := hlt
    simp only [decide_eq_false_iff_not] at hlt
    obtain rfl : i = (squares b).length := by omega
    rw [List.take_length] at hxs1
    refine X.exit C.1 rfl <| Xr C rfl rfl <| R.finish C.1 ce_len (by decide) (hb1.app _) fun ro3 hl3 hls3 => Rm C rfl rfl <| Ad C rfl rfl <| Xt C func156 <| Hr hret (RO.le_trans hlS (RO.le_trans hlO hl3)) ?_
    exact ⟨xs1, hls3, hxs1, fun p hp => ⟨(hls1 p hp).1.mono hl3, (hls1 p hp).2.mono hl3⟩⟩
end
end Go.Lg.B
namespace Go.Lg.B
open Go Go.Conc Go.Lg Go.Proofs Go.Proofs.Tryz
theorem sets_range (most : Int) : ∀ n, ∀ l ∈ sets most n, ∀ k ∈ l, 0 ≤ k ∧ k < (n : Int)
  | 0, l, h => by simp [sets] at h; simp [h]
  | n + 1, l, h => by
    rcases List.mem_append.1 h with h | h
    · intro k hk
      have := sets_range most n l h k hk; omega
    · obtain ⟨x, hx, rfl⟩ := List.mem_map.1 h
      intro k hk
      rcases List.mem_append.1 hk with hk | hk
      · have := sets_range most n x (List.mem_filter.1 hx).1 k hk; omega
      · rw [List.mem_singleton.1 hk]; omega
def noSure (b : Bk) (l : List Int) : Bool := !(l.any fun k => (b.wt k.toNat).sure)
def casesL (b : Bk) : List Cs := ((sets b.f b.ws.length).filter (noSure b)).flatMap (withFalse b)
theorem filt_take {α β : Type} (p : α → Bool) (f : α → List β) (l : List α) {i : Nat} (h : i < l.length) : ((l.take (i + 1)).filter p).flatMap f = ((l.take i).filter p).flatMap f ++ (if p l[i] = true then f l[i] else []) := by
  rw [List.take_add_one, List.getElem?_eq_getElem h, List.filter_append, List.flatMap_append]
  congr 1
  by_cases hp : p l[i] = true <;> simp [hp]
theorem withFalse_len {b : Bk} (hb : b.good) (l : List Int) : (withFalse b l).length ≤ 49 * 27 := by
  have hofl := offsAll_len hb.cs b.cs.length (Nat.le_refl _)
  rw [List.take_length] at hofl
  have hpow : 3 ^ b.cs.length ≤ 3 ^ 3 := Nat.pow_le_pow_right (by decide) hb.nc.2
  have := flat_bound (fun q => withAt b l q (offsAll b.cs)) 27 (fun q => Nat.le_trans (withAt_len b l q _) (by omega)) (squares b)
  exact Nat.le_trans this (Nat.mul_le_mul_right _ (squares_len hb))
theorem ones_ce {ro : RO} : ∀ {xs : List CE}, (∀ p ∈ xs, LsI ro p.1.1 p.2.o ∧ LsI ro p.1.2 p.2.f) → ones (xs.flatMap ce) = true
  | [], _ => rfl
  | p :: xs, h => by
    have ih := ones_ce (xs := xs) fun q hq => h q (List.mem_cons_of_mem _ hq)
    obtain ⟨h1, h2⟩ := h p List.mem_cons_self
    obtain ⟨⟨v1, v2⟩, c⟩ := p
    simp only at h1 h2
    obtain ⟨b1, c1, rfl⟩ := h1.form
    obtain ⟨b2, c2, rfl⟩ := h2.form
    simp only [List.flatMap_cons, ce, List.cons_append, List.nil_append, ones, oneCell, ih, Bool.and_self, Bool.true_and]
theorem LC.mono {ro ro' : RO} {v : Value} {l : List Cs} (h : LC ro v l) (hl : ro.le ro') : LC ro' v l := by
  obtain ⟨xs, h1, h2, h3⟩ := h
  exact ⟨xs, h1.mono hl, h2, fun p hp => ⟨(h3 p hp).1.mono hl, (h3 p hp).2.mono hl⟩⟩
def knownH (b : Bk) (there : Bool) : Int := if checkChart b ≠ 0 then checkChart b else if there = false then 6 else if casesL b = [] then 9 else 0
def KnownV (ro : RO) (b : Bk) (there : Bool) (x : Value) : Prop := ∃ vl, x = .tuple [vl, .int .i64 (knownH b there)].toArray ∧ (knownH b there = 0 → LC ro vl (casesL b)) ∧ (knownH b there ≠ 0 → vl = .slice none 0 0)
section
variable {main : Bool} {J : Goroutine → Mem → Prop} (hJ : Closed prog main J)
include hJ
theorem casesOfR_c {b : Bk} {v : Value} {ro : RO} (hv : BkV ro v b) (hb : b.good) : CallR prog J (fnv 92) [v] ro (fun x ro' => LC ro' x (casesL b)) := by
  have hvv := hv
  obtain ⟨vc, vw, rfl, hc, hw⟩ := hv
  have hnw := hb.nw
  obtain ⟨wb, wc, rfl⟩ := hw.form
  have hsl := sets_len b.f b.ws.length
  have hse := sets_each b.f b.ws.length
  have hsr := sets_range b.f b.ws.length
  have hpow : 2 ^ b.ws.length ≤ 2 ^ 5 := Nat.pow_le_pow_right (by decide) hnw
  refine CallR.intro hJ (by kernel_rfl) fun c cs tail hret => enter_X (n := 34) func92 rfl rfl (Nl rfl) ?_
  have C : Ctx prog main J (bf 92 .normal) := ⟨hJ, by decide⟩
  refine Xr C rfl rfl <| R.box C rfl rfl rfl rfl fun p1 => Ad C rfl rfl <| Xr C rfl rfl <| Rf C 4 rfl rfl runUnderlying25 rfl sizeOf23 <| R.loadOne C rfl rfl rfl isAgg23 (by repeat (first | exact Mh | apply Mt)) rfl <| R.lenSlice C rfl rfl rfl runUnderlying23 <| Rf C 2 rfl rfl runUnderlying25 rfl sizeOf3 <| R.loadOne C rfl rfl rfl isAgg3 (by repeat (first | exact Mh | apply Mt)) rfl <| R.callR C rfl rfl rfl rfl ((setsR_c hJ (n := b.ws.length) (most := b.f) hnw)) fun vT roT hlT hT => Ad C rfl rfl <| Xr C rfl rfl <| Ad C rfl rfl <| Xs C <| Xr C rfl rfl <| Ad C rfl rfl <| X.block C.1 ?_
  obtain ⟨xT, hTL, hxT, hlT2⟩ := hT
  have hTL0 := hTL
  obtain ⟨tb, tc, rfl⟩ := hTL.form
  have hxTl := congrArg List.length hxT
  rw [List.length_map] at hxTl
  refine X.loopI (ι := Nat × RO × Value × List CE × List (Nat × Obj)) C.1 (fun s => s.1 ≤ xT.length ∧ roT.le s.2.1 ∧ Buf 30 4 [] s.2.2.1 (s.2.2.2.1.flatMap ce) s.2.2.2.2 ∧ s.2.2.2.1.map (·.2) = (((sets b.f b.ws.length).take s.1).filter (noSure b)).flatMap (withFalse b) ∧ ∀ p ∈ s.2.2.2.1, LsI s.2.1 p.1.1 p.2.o ∧ LsI s.2.1 p.1.2 p.2.f) (fun s => [(1, .pointer (some ⟨p1, 0, none⟩)), (3, .slice tb xT.length tc), (4, s.2.2.1), (5, .int .i64 (s.1 : Int))])
    (fun s => ⟨s.2.1, s.2.2.2.2 ++ (p1, .cells [.int .i64 b.w, .int .i64 b.h, .int .i64 b.f, vc, .slice wb b.ws.length wc].toArray 25 (0, 0)) :: tail⟩) (fun s => xT.length - s.1) (0, roT, .slice none 0 0, [], []) ⟨Nat.zero_le _, RO.le_refl _, .nil, by simp, fun p hp => nomatch hp⟩ rfl ⟨rfl, rfl, rfl, rfl, trivial⟩ fun s hs hnext => ?_
  obtain ⟨i, ro1, v1, xs1, own1⟩ := s
  obtain ⟨hi, hle1, hb1, hxs1, hls1⟩ := hs
  simp only at hi hle1 hb1 hxs1 hls1 hnext ⊢
  have hlen1 := congrArg List.length hxs1
  rw [List.length_map] at hlen1
  have hbd1 := flat_bound (withFalse b) (49 * 27) (withFalse_len hb) (((sets b.f b.ws.length).take i).filter (noSure b))
  have hbd2 : (((sets b.f b.ws.length).take i).filter (noSure b)).length ≤ 32 := by
    refine Nat.le_trans (List.length_filter_le _ _) ?_
    rw [List.length_take]; omega
  have hbd3 := Nat.mul_le_mul_right (49 * 27) hbd2
  have hff1 := ce_flat xs1
  refine Xs C <| Xr C rfl rfl <| Rm C rfl rfl <| Rm C rfl rfl <| R.lenSlice C rfl rfl rfl runUnderlying149 <| R.int C rfl rfl rfl rfl b_lss <| R.done C <| X.cond C.1 rfl (fun hlt => ?_) (fun hlt => ?_)
  · have hlt := hlt
    simp only [decide_eq_true_eq] at hlt
    have hi' : i < xT.length := by omega
    have hi1 : i < (sets b.f b.ws.length).length := by omega
    have hstep := filt_take (noSure b) (withFalse b) (sets b.f b.ws.length) hi1
    have hxi : xT[i].2 = (sets b.f b.ws.length)[i] := by
      have h1 : (xT.map (·.2))[i]? = some (sets b.f b.ws.length)[i] := by rw [hxT, List.getElem?_eq_getElem hi1]
      rw [List.getElem?_map, List.getElem?_eq_getElem hi'] at h1
      simpa using h1
    have hli := hlT2 _ (List.getElem_mem hi')
    have hle5 := hse _ (List.getElem_mem hi1)
    have hrng := hsr _ (List.getElem_mem hi1)
    rw [← hxi] at hstep hle5 hrng
    obtain ⟨pa, offa, capa, lla, ta, fqa, hsla, hropa, hsuba⟩ := hTL0.at le_len (by omega)
    cases hsla
    have hx := le_at hsuba hi'
    generalize hL : xT[i].2 = l at hli hstep hle5 hrng
    generalize xT[i].1 = vk at hx hli
    have hli1 := hli.mono hle1
    obtain ⟨bk, ck, rfl⟩ := hli.form
    have hv1 := (hvv.mono hlT).mono hle1
    refine X.skip C.1 <| Xs C <| X.block C.1 <| Xs C <| Xd C fun hok => Dl 0 hok (fun _ _ A h => R.loadAgg C rfl (A.w rfl rfl) (A.x rfl rfl) isAgg25 sizeOf25 (by repeat (first | exact Mh | apply Mt | apply List.mem_append_right)) Tk5 h) <| Dm C 1 hok rfl rfl rfl <| Dm C 2 hok rfl rfl rfl <| Dx C 3 hok rfl rfl rfl runUnderlying149 sizeOf28 <| Dl 4 hok (fun _ _ A h => R.loadOneRo C rfl (A.w rfl rfl) (A.x rfl rfl) isAgg28 (hle1 _ _ hropa) hx h) <| De 5 (some 23) [false, false] hok (fun σr rest A hk => ?_)
    refine R.callP C rfl (A.w rfl rfl) (A.x rfl rfl) (A.s rfl rfl) (sureOnesR_c hJ hv1 hli1 (by omega) hrng) (hk _ _ ⟨QFs.nil, ?_⟩)
    refine Dp 6 hok (fun _ _ _ A h => R.not C rfl (A.w rfl rfl) (A.x rfl rfl) h) <| D.done C hok (by kernel_rfl) <| X.cond C.1 rfl (fun hq => ?_) (fun hq => ?_)
    · have hq := hq
      have hq2 : noSure b l = true := hq
      rw [if_pos hq2] at hstep
      refine Xd C fun hok => Dm C 0 hok rfl rfl rfl <| Dl 1 hok (fun _ _ A h => R.loadAgg C rfl (A.w rfl rfl) (A.x rfl rfl) isAgg25 sizeOf25 (by repeat (first | exact Mh | apply Mt | apply List.mem_append_right)) Tk5 h) <| Dm C 2 hok rfl rfl rfl <| Dm C 3 hok rfl rfl rfl <| Dx C 4 hok rfl rfl rfl runUnderlying149 sizeOf28 <| Dl 5 hok (fun _ _ A h => R.loadOneRo C rfl (A.w rfl rfl) (A.x rfl rfl) isAgg28 (hle1 _ _ hropa) hx h) <| De 6 (some 31) [false, false] hok (fun σr rest A hk => ?_)
      refine R.callR C rfl (A.w rfl rfl) (A.x rfl rfl) (A.s rfl rfl) ((withFalseR_c hJ hv1 hb hli1 (by omega))) fun vW roW hlW hW => hk _ _ ⟨QFs.nil, ?_⟩
      refine De 7 (some 32) [] hok (fun σr rest A hk => ?_)
      obtain ⟨xW, hWL, hxW, hlW2⟩ := hW
      have hxWl := congrArg List.length hxW
      rw [List.length_map] at hxWl
      have hwl := withFalse_len hb l
      have hffW := ce_flat xW
      refine R.append (kk := 4) C rfl (A.w rfl rfl) (A.x rfl rfl) (A.x rfl rfl) runUnderlying122 runUnderlying122 (fun _ => nofun) (show prog.info? 30 = some Tryz.t30 by kernel_rfl) rfl rfl rfl (by decide) (by decide) (hb1.app _) (hWL.rd ce_len) (ones_ce hlW2) (by omega) fun v' own' hb' => hk _ _ ⟨QFs.nil, ?_⟩
      refine Dp 8 hok (fun _ _ _ A h => R.asg C rfl (A.w rfl rfl) (A.x rfl rfl) h) <| D.done C hok (by kernel_rfl) <| X.inBlock C.1 <| X.region C rfl rfl <| Rm C rfl rfl <| R.int C rfl rfl rfl rfl (b_add (by omega) (by omega)) <| Ad C rfl rfl ?_
      obtain ⟨own3, rfl, hb3⟩ := Buf.unapp (tail := []) hb'
      refine X.weaken ?_ (hnext (i + 1, roW, _, xs1 ++ xW, own3) ⟨by omega, RO.le_trans hle1 hlW, by simpa [List.flatMap_append] using hb3, by rw [List.map_append, hxs1, hxW, hstep], fun p hp => ?_⟩ (by omega))
      · exact ⟨rfl, rfl, rfl, by simp [look], trivial⟩
      · rcases List.mem_append.1 hp with hp | hp
        · exact ⟨(hls1 p hp).1.mono hlW, (hls1 p hp).2.mono hlW⟩
        · exact hlW2 p hp
    · have hq := hq
      have hq2 : ¬ noSure b l = true := by rw [show noSure b l = false from hq]; simp
      rw [if_neg hq2, List.append_nil] at hstep
      refine X.skip C.1 <| X.inBlock C.1 <| X.region C rfl rfl <| Rm C rfl rfl <| R.int C rfl rfl rfl rfl (b_add (by omega) (by omega)) <| Ad C rfl rfl <| X.weaken ?_ (hnext (i + 1, ro1, v1, xs1, own1) ⟨by omega, hle1, hb1, by rw [hxs1, hstep], hls1⟩ (by omega))
      exact ⟨rfl, rfl, rfl, by simp [look], trivial⟩
  · have hlt := hlt
    simp only [decide_eq_false_iff_not] at hlt
    obtain rfl : i = xT.length := by omega
    rw [List.take_of_length_le (by omega)] at hxs1
    refine X.exit C.1 rfl <| Xr C rfl rfl <| R.finish C.1 ce_len (by decide) (hb1.app _) fun ro3 hl3 hls3 => Rm C rfl rfl <| Ad C rfl rfl <| Xt C func92 <| Hr hret (RO.le_trans hlT (RO.le_trans hle1 hl3)) ?_
    exact ⟨xs1, hls3, hxs1, fun p hp => ⟨(hls1 p hp).1.mono hl3, (hls1 p hp).2.mono hl3⟩⟩
theorem knownR_c {b : Bk} {v : Value} {ro : RO} (hv : BkV ro v b) (hs : b.short) (th : Bool) : CallR prog J (fnv 95) [v, .bool th] ro (fun x ro' => KnownV ro' b th x) := by
  have hvv := hv
  obtain ⟨vc, vw, rfl, hc, hw⟩ := hv
  refine CallR.intro hJ (by kernel_rfl) fun c cs tail hret => enter_X (n := 21) func95 rfl rfl (Nl rfl) ?_
  have C : Ctx prog main J (bf 95 .normal) := ⟨hJ, by decide⟩
  refine Xr C rfl rfl <| R.box C rfl rfl rfl rfl fun p2 => R.asg C rfl rfl rfl <| Ad C rfl rfl <| Xs C <| Xr C rfl rfl <| R.loadAgg C rfl rfl rfl isAgg25 sizeOf25 (by repeat (first | exact Mh | apply Mt)) Tk5 <| R.callP C rfl rfl rfl rfl (checkChartR_c hJ hvv hs) <| Ad C rfl rfl <| Xr C rfl rfl <| Rm C rfl rfl <| R.int C rfl rfl rfl rfl b_neq <| R.done C <| X.cond C.1 rfl (fun hh => ?_) (fun hh => ?_)
  · have hh := hh
    simp at hh
    have hk : knownH b th = checkChart b := by rw [knownH, if_pos hh]
    refine Xr C rfl rfl <| Rm C rfl rfl <| R.asg C rfl rfl rfl <| Ad C rfl rfl <| X.ret C rfl rfl func95 rfl (by exact (.tmp rfl (.tmp rfl .nil))) <| Hr hret (RO.le_refl _) ?_
    exact ⟨_, by rw [hk]; rfl, fun h => absurd (hk ▸ h) hh, fun _ => rfl⟩
  · have hh := hh
    simp at hh
    have hg := good_iff.1 hh
    cases th
    · have hk : knownH b false = 6 := by rw [knownH, if_neg (by simp [hh]), if_pos rfl]
      refine X.skip C.1 <| Xs C <| Xr C rfl rfl <| Rm C rfl rfl <| R.not C rfl rfl rfl <| R.fixv (t := 14) (v' := .bool true) rfl (by rfl) <| R.done C <| X.cond C.1 rfl (fun _ => ?_) (fun h => nomatch h)
      refine Xr C rfl rfl <| R.asg C rfl rfl rfl <| Ad C rfl rfl <| X.ret C rfl rfl func95 rfl (by exact (.tmp rfl (.tmp rfl .nil))) <| Hr hret (RO.le_refl _) ?_
      exact ⟨_, by rw [hk]; rfl, fun h => (by rw [hk] at h; cases h), fun _ => rfl⟩
    · have hk : knownH b true = if casesL b = [] then 9 else 0 := by rw [knownH, if_neg (by simp [hh]), if_neg (by simp)]
      refine X.skip C.1 <| Xs C <| Xr C rfl rfl <| Rm C rfl rfl <| R.not C rfl rfl rfl <| R.fixv (t := 14) (v' := .bool false) rfl (by rfl) <| R.done C <| X.cond C.1 rfl (fun h => nomatch h) (fun _ => ?_)
      refine X.skip C.1 <| Xr C rfl rfl <| R.loadAgg C rfl rfl rfl isAgg25 sizeOf25 (by repeat (first | exact Mh | apply Mt)) Tk5 <| R.callR C rfl rfl rfl rfl ((casesOfR_c hJ hvv hg)) fun v1 ro2 hl2 hp => Ad C rfl rfl <| Xs C <| Xr C rfl rfl ?_
      have hp0 := hp
      obtain ⟨xs, hL, hx, hls⟩ := hp
      obtain ⟨lb, lc, rfl⟩ := hL.form
      have hxl := congrArg List.length hx
      rw [List.length_map] at hxl
      refine Rm C rfl rfl <| R.lenSlice C rfl rfl rfl runUnderlying122 <| R.int C rfl rfl rfl rfl b_eql <| R.done C <| X.cond C.1 rfl (fun hz => ?_) (fun hz => ?_)
      · have hz := hz
        have hz2 : casesL b = [] := List.eq_nil_of_length_eq_zero (by simp at hz; rw [← hxl]; simp [hz])
        rw [if_pos hz2] at hk
        refine Xr C rfl rfl <| R.asg C rfl rfl rfl <| Ad C rfl rfl <| X.ret C rfl rfl func95 rfl (by exact (.tmp rfl (.tmp rfl .nil))) <| Hr hret hl2 ?_
        exact ⟨_, by rw [hk]; rfl, fun h => (by rw [hk] at h; cases h), fun _ => rfl⟩
      · have hz := hz
        have hz2 : casesL b ≠ [] := fun h => by
          rw [h] at hxl
          have : xs = [] := List.eq_nil_of_length_eq_zero hxl
          simp [this] at hz
        rw [if_neg hz2] at hk
        refine X.skip C.1 <| Xr C rfl rfl <| Rm C rfl rfl <| R.asg C rfl rfl rfl <| Ad C rfl rfl <| X.ret C rfl rfl func95 rfl (by exact (.tmp rfl (.tmp rfl .nil))) <| Hr hret hl2 ?_
        exact ⟨_, by rw [hk]; rfl, fun _ => hp0, fun h => absurd hk h⟩
end
end Go.Lg.B
namespace Go.Lg.B
open Go Go.Conc Go.Lg Go.Proofs Go.Proofs.Tryz
theorem flatMap_two {α β : Type} (g h : α → List β) : ∀ l : List α, (l.flatMap g ++ l.flatMap h).Perm (l.flatMap fun x => g x ++ h x)
  | [] => .refl _
  | x :: l => by
    have ih := flatMap_two g h l
    simp only [List.flatMap_cons]
    have e1 : (g x ++ l.flatMap g ++ (h x ++ l.flatMap h)).Perm (g x ++ (h x ++ (l.flatMap g ++ l.flatMap h))) := by
      rw [List.append_assoc]
      refine List.Perm.append_left _ ?_
      rw [← List.append_assoc, ← List.append_assoc]
      exact List.Perm.append_right _ List.perm_append_comm
    refine e1.trans ?_
    rw [List.append_assoc (g x) (h x)]
    exact List.Perm.append_left _ (List.Perm.append_left _ ih)
theorem flatMap_swap {α β γ : Type} (f : α → β → List γ) (m : List β) : ∀ l : List α, (l.flatMap fun x => m.flatMap fun y => f x y).Perm (m.flatMap fun y => l.flatMap fun x => f x y)
  | [] => by
    have : (m.flatMap fun y => ([] : List α).flatMap fun x => f x y) = [] := by simp
    rw [this]; exact .refl _
  | x :: l => by
    simp only [List.flatMap_cons]
    exact (List.Perm.append_left _ (flatMap_swap f m l)).trans (flatMap_two _ _ m)
theorem filter_as_flat {α β : Type} (p : α → Bool) (f : α → β) : ∀ l : List α, (l.filter p).map f = l.flatMap fun x => if p x = true then [f x] else []
  | [] => rfl
  | x :: l => by
    have ih := filter_as_flat p f l
    by_cases h : p x = true
    · simp [h, ih]
    · simp [h, ih]
theorem flat_filter {α β : Type} (p : α → Bool) (f : α → List β) : ∀ l : List α, (l.filter p).flatMap f = l.flatMap fun x => if p x = true then f x else []
  | [] => rfl
  | x :: l => by
    have ih := flat_filter p f l
    by_cases h : p x = true
    · simp [h, ih]
    · simp [h, ih]
theorem flat_congr {α β : Type} {f g : α → List β} : ∀ {l : List α}, (∀ x ∈ l, f x = g x) → l.flatMap f = l.flatMap g
  | [], _ => rfl
  | x :: l, h => by simp only [List.flatMap_cons, h x List.mem_cons_self, flat_congr fun y hy => h y (List.mem_cons_of_mem _ hy)]
theorem perm_flat {α β : Type} (f : α → List β) {l m : List α} (h : l.Perm m) : (l.flatMap f).Perm (m.flatMap f) := by
  induction h with
  | nil => exact .refl _
  | cons x _ ih => simp only [List.flatMap_cons]; exact List.Perm.append_left _ ih
  | swap x y l =>
    simp only [List.flatMap_cons, ← List.append_assoc]
    exact List.Perm.append_right _ List.perm_append_comm
  | trans _ _ h1 h2 => exact h1.trans h2
theorem sets_iff {most : Int} (hm : 0 ≤ most) : ∀ (n : Nat) (l : List Int), l ∈ sets most n ↔ List.Pairwise (· < ·) l ∧ (∀ k ∈ l, 0 ≤ k ∧ k < (n : Int)) ∧ (l.length : Int) ≤ most
  | 0, l => by
    simp only [sets, List.mem_singleton]
    constructor
    · rintro rfl; simp [hm]
    · rintro ⟨_, h2, _⟩
      cases l with
      | nil => rfl
      | cons x l => have := h2 x List.mem_cons_self; omega
  | n + 1, l => by
    simp only [sets, List.mem_append, ext, List.mem_map, List.mem_filter, decide_eq_true_eq]
    constructor
    · rintro (h | ⟨x, ⟨hx, hlt⟩, rfl⟩)
      · obtain ⟨h1, h2, h3⟩ := (sets_iff hm n l).1 h
        exact ⟨h1, fun k hk => by have := h2 k hk; omega, h3⟩
      · obtain ⟨h1, h2, h3⟩ := (sets_iff hm n x).1 hx
        refine ⟨List.pairwise_append.2 ⟨h1, List.pairwise_singleton _ _, fun a ha c hc => ?_⟩, fun k hk => ?_, ?_⟩
        · rw [List.mem_singleton.1 hc]; exact (h2 a ha).2
        · rcases List.mem_append.1 hk with hk | hk
          · have := h2 k hk; omega
          · rw [List.mem_singleton.1 hk]; omega
        · simp; omega
    · rintro ⟨h1, h2, h3⟩
      rcases List.eq_nil_or_concat l with rfl | ⟨x, k, rfl⟩
      · exact .inl ((sets_iff hm n []).2 ⟨.nil, by simp, by simpa using hm⟩)
      · rw [List.concat_eq_append] at h1 h2 h3 ⊢
        obtain ⟨p1, _, p3⟩ := List.pairwise_append.1 h1
        have hk := h2 k (by simp)
        have hx : ∀ a ∈ x, a < k := fun a ha => p3 a ha k (by simp)
        simp only [List.length_append, List.length_cons, List.length_nil] at h3
        by_cases e : k = n
        · subst e
          exact .inr ⟨x, ⟨(sets_iff hm n x).2 ⟨p1, fun a ha => ⟨(h2 a (by simp [ha])).1, hx a ha⟩, by omega⟩, by omega⟩, rfl⟩
        · refine .inl ((sets_iff hm n _).2 ⟨h1, fun a ha => ⟨(h2 a ha).1, ?_⟩, by simp; omega⟩)
          rcases List.mem_append.1 ha with ha | ha
          · have := hx a ha; omega
          · rw [List.mem_singleton.1 ha]; omega
theorem sets_nodup {most : Int} (hm : 0 ≤ most) : ∀ n, (sets most n).Nodup
  | 0 => by simp [sets]
  | n + 1 => by
    have ih := sets_nodup hm n
    refine List.nodup_append.2 ⟨ih, ?_, fun a ha c hc => ?_⟩
    · unfold ext
      refine List.pairwise_map.2 ((ih.filter _).imp fun h e => h (List.append_cancel_right e))
    · obtain ⟨x, _, rfl⟩ := List.mem_map.1 hc
      rintro rfl
      have := ((sets_iff hm n _).1 ha).2.1 (n : Int) (by simp)
      omega
def maskL (n : Nat) (l : List Int) : Nat := maskOf (fun i => l.contains (i : Int)) n
theorem maskL_bit {n : Nat} {l : List Int} (h : ∀ k ∈ l, 0 ≤ k ∧ k < (n : Int)) (i : Nat) : (maskL n l).testBit i = l.contains (i : Int) := by
  rw [maskL, maskOf_bit]
  by_cases hi : i < n
  · simp [hi]
  · have : l.contains (i : Int) = false := by
      rw [Bool.eq_false_iff]; intro hc
      have := h _ (by simpa using hc); omega
    rw [this]; simp
def okM (b : Bk) (m : Nat) : Bool := m &&& sureM b == 0 && decide (((listOf m).length : Int) ≤ b.f)
theorem ups_nodup : ∀ (m n : Nat), (ups n m).Nodup
  | 0, _ => by simp [ups]
  | m + 1, n => by
    simp only [ups, List.nodup_cons]
    exact ⟨fun h => by rw [ups_iff] at h; omega, ups_nodup m (n + 1)⟩
theorem listOf_maskL {n : Nat} (hn : n ≤ 5) {l : List Int} (h1 : List.Pairwise (· < ·) l) (h2 : ∀ k ∈ l, 0 ≤ k ∧ k < (n : Int)) : listOf (maskL n l) = l :=
  listOf_eq h1 (fun k hk => by have := h2 k hk; omega) (maskL_bit h2)
theorem noSure_mask {b : Bk} {l : List Int} (h : ∀ k ∈ l, 0 ≤ k ∧ k < (b.ws.length : Int)) : (maskL b.ws.length l &&& sureM b == 0) = noSure b l := by
  rw [Bool.eq_iff_iff, and_zero]
  simp only [maskL_bit h, sureM, maskOf_bit, noSure, Bool.not_eq_true', List.any_eq_false, Bool.not_eq_true]
  constructor
  · intro hh k hk
    obtain ⟨g1, g2⟩ := h k hk
    have := hh k.toNat (by rw [show ((k.toNat : Nat) : Int) = k by omega]; simpa using hk)
    rwa [decide_eq_true (by omega), Bool.true_and] at this
  · intro hh i hi
    have hm : (i : Int) ∈ l := by simpa using hi
    have := hh _ hm
    rw [show ((i : Int)).toNat = i by omega] at this
    rw [this]; simp
theorem masks_perm {b : Bk} (hb : b.good) : ((ups 0 (2 ^ b.ws.length)).filter (okM b)).Perm (((sets b.f b.ws.length).filter (noSure b)).map (maskL b.ws.length)) := by
  have hf := hb.f
  have hn := hb.nw
  refine (List.perm_ext_iff_of_nodup ((ups_nodup _ _).filter _) ?_).2 fun m => ?_
  · refine List.pairwise_map.2 (List.Pairwise.imp_of_mem (fun {a c} ha hc hne e => hne ?_) ((sets_nodup hf.1 b.ws.length).filter (noSure b)))
    obtain ⟨a1, a2, _⟩ := (sets_iff hf.1 _ _).1 (List.mem_filter.1 ha).1
    obtain ⟨c1, c2, _⟩ := (sets_iff hf.1 _ _).1 (List.mem_filter.1 hc).1
    rw [← listOf_maskL hn a1 a2, e, listOf_maskL hn c1 c2]
  · simp only [List.mem_filter, List.mem_map, ups_iff, okM, Bool.and_eq_true, decide_eq_true_eq]
    constructor
    · rintro ⟨⟨_, h1⟩, h2, h3⟩
      have hr : ∀ k ∈ listOf m, 0 ≤ k ∧ k < (b.ws.length : Int) := fun k hk => by
        obtain ⟨i, _, hi, rfl⟩ := (bits_mem m k 5).1 hk
        refine ⟨by omega, ?_⟩
        by_cases hlt : i < b.ws.length
        · omega
        · have : m.testBit i = false := Nat.testBit_lt_two_pow (Nat.lt_of_lt_of_le (by simpa using h1) (Nat.pow_le_pow_right (by decide) (by omega)))
          rw [this] at hi; cases hi
      have hm : maskL b.ws.length (listOf m) = m := by
        refine Nat.eq_of_testBit_eq fun i => ?_
        rw [maskL_bit hr, Bool.eq_iff_iff]
        simp only [List.contains_eq_mem, decide_eq_true_eq]
        constructor
        · intro h
          obtain ⟨j, _, hj, e⟩ := (bits_mem m _ 5).1 h
          have : i = j := by omega
          rw [this]; exact hj
        · intro h
          refine (bits_mem m _ 5).2 ⟨i, ?_, h, rfl⟩
          by_cases hlt : i < 5
          · exact hlt
          · have : m.testBit i = false := Nat.testBit_lt_two_pow (Nat.lt_of_lt_of_le (by simpa using h1) (Nat.pow_le_pow_right (by decide) (by omega)))
            rw [this] at h; cases h
      refine ⟨listOf m, ⟨(sets_iff hf.1 _ _).2 ⟨bits_up m 5, hr, h3⟩, ?_⟩, hm⟩
      rw [← noSure_mask hr, hm]; exact h2
    · rintro ⟨l, ⟨h1, h2⟩, rfl⟩
      obtain ⟨a1, a2, a3⟩ := (sets_iff hf.1 _ _).1 h1
      refine ⟨⟨Nat.zero_le _, by simpa [maskL] using maskOf_lt _ _⟩, by rw [noSure_mask a2]; exact h2, by rw [listOf_maskL hn a1 a2]; exact a3⟩
theorem aims_eq {b : Bk} (hb : b.good) : aims b = (squares b).flatMap fun s => (offsAll b.cs).map fun o => Cs.aim ⟨s, o, []⟩ := by
  have hnc := hb.nc
  have hu : ∀ m, ups 0 m = List.range m := by
    have key : ∀ m n, ups n m = (List.range m).map (· + n) := by
      intro m
      induction m with
      | zero => intro n; rfl
      | succ m ih =>
        intro n
        rw [ups, ih, List.range_succ_eq_map, List.map_cons, List.map_map]
        simp only [Nat.zero_add, List.cons.injEq, true_and]
        refine List.map_congr_left fun x _ => ?_
        simp only [Function.comp]; omega
    intro m; rw [key]; simp
  obtain ⟨w, h, f, cs, ws⟩ := b
  unfold aims squares
  rw [hu, List.flatMap_map]
  refine flat_congr fun n _ => ?_
  have s0 : ∀ (a : Aim) (n : Int), a.set ((0 : Nat) : Int) n = { a with x := n } := fun _ _ => rfl
  have s1 : ∀ (a : Aim) (n : Int), a.set ((0 + 1 : Nat) : Int) n = { a with y := n } := fun _ _ => rfl
  have s2 : ∀ (a : Aim) (n : Int), a.set ((0 + 1 + 1 : Nat) : Int) n = { a with z := n } := fun _ _ => rfl
  simp only at hnc ⊢
  match cs, hnc with
  | [x], _ => simp [offs, offsAll, offsStep, s0, aimAt, Cs.aim, sqAt, wideRc, List.map_eq_flatMap, List.flatMap_assoc]; rfl
  | [x, y], _ => simp [offs, offsAll, offsStep, s0, s1, aimAt, Cs.aim, sqAt, wideRc, List.map_eq_flatMap, List.flatMap_assoc]; rfl
  | [x, y, z], _ => simp [offs, offsAll, offsStep, s0, s1, s2, aimAt, Cs.aim, sqAt, wideRc, List.map_eq_flatMap, List.flatMap_assoc]; rfl
def lotOf (b : Bk) (c : Cs) : Lot := ⟨c.aim, maskL b.ws.length c.f⟩
theorem okA_mask {b : Bk} {l : List Int} (h : ∀ k ∈ l, 0 ≤ k ∧ k < (b.ws.length : Int)) (s : Sq) (o : List Int) : (andNot (odd b (Cs.aim ⟨s, o, l⟩)) (maskL b.ws.length l) == 0) = allR b ⟨s, o, l⟩ := by
  rw [Bool.eq_iff_iff, andNot_zero]
  simp only [odd, maskOf_bit, maskL_bit h, Bool.and_eq_true, decide_eq_true_eq, allR, List.all_eq_true, List.mem_range, Bool.or_eq_true, Bool.not_eq_true']
  constructor
  · intro hh i hi
    cases hr : right (b.wt i) (Cs.aim ⟨s, o, l⟩)
    · exact .inl (hh i ⟨hi, hr⟩)
    · exact .inr rfl
  · rintro hh i ⟨hi, hr⟩
    rcases hh i hi with h1 | h1
    · exact h1
    · rw [hr] at h1; cases h1
theorem cases_perm {b : Bk} (hb : b.good) : ((casesL b).map (lotOf b)).Perm (cases b) := by
  have e1 : cases b = (aims b).flatMap fun a => (ups 0 (2 ^ b.ws.length)).flatMap fun m => if okMask b a m = true then [⟨a, m⟩] else [] := by
    unfold cases lots
    refine flat_congr fun a _ => ?_
    exact filter_as_flat _ _ _
  rw [e1]
  refine List.Perm.trans ?_ (flatMap_swap (fun a m => if okMask b a m = true then [(⟨a, m⟩ : Lot)] else []) (ups 0 (2 ^ b.ws.length)) (aims b)).symm
  have e2 : ((ups 0 (2 ^ b.ws.length)).flatMap fun m => (aims b).flatMap fun a => if okMask b a m = true then [(⟨a, m⟩ : Lot)] else []) = ((ups 0 (2 ^ b.ws.length)).filter (okM b)).flatMap fun m => (aims b).flatMap fun a => if (andNot (odd b a) m == 0) = true then [(⟨a, m⟩ : Lot)] else [] := by
    rw [flat_filter]
    refine flat_congr fun m _ => ?_
    by_cases h : okM b m = true
    · rw [if_pos h]
      refine flat_congr fun a _ => ?_
      have : okMask b a m = (andNot (odd b a) m == 0) := by
        have h' : (m &&& sureM b == 0 && decide (((listOf m).length : Int) ≤ b.f)) = true := h
        rw [okMask, h', Bool.and_true]
      rw [this]
    · rw [if_neg h]
      have : ∀ a, okMask b a m = false := fun a => by
        have h' : (m &&& sureM b == 0 && decide (((listOf m).length : Int) ≤ b.f)) = false := by simpa [okM] using h
        rw [okMask, h', Bool.and_false]
      simp [this]
  rw [e2]
  refine List.Perm.trans ?_ (perm_flat _ (masks_perm hb)).symm
  rw [List.flatMap_map, casesL, List.map_flatMap]
  refine List.Perm.of_eq (flat_congr fun l hl => ?_)
  obtain ⟨_, a2, _⟩ := (sets_iff hb.f.1 _ _).1 (List.mem_filter.1 hl).1
  rw [aims_eq hb, List.flatMap_assoc, withFalse, List.map_flatMap]
  refine flat_congr fun s _ => ?_
  rw [withAt, List.map_map, filter_as_flat, List.flatMap_map]
  refine flat_congr fun o _ => ?_
  have e3 : Cs.aim ⟨s, o, []⟩ = Cs.aim ⟨s, o, l⟩ := rfl
  rw [e3, okA_mask a2]
  rfl
end Go.Lg.B
namespace Go.Lg.B
open Go Go.Conc Go.Lg Go.Proofs Go.Proofs.Tryz
theorem cases_len_eq {b : Bk} (hb : b.good) : (casesL b).length = (cases b).length := by
  have := (cases_perm hb).length_eq
  rwa [List.length_map] at this
theorem cases_nil_iff {b : Bk} (hb : b.good) : casesL b = [] ↔ cases b = [] := by
  have := cases_len_eq hb
  constructor
  · intro h; rw [h] at this; exact List.eq_nil_of_length_eq_zero this.symm
  · intro h; rw [h] at this; exact List.eq_nil_of_length_eq_zero this
theorem known_open (b : Bk) (th : Bool) : knownH b th = openH b (there th) := by
  unfold knownH openH
  by_cases h1 : checkChart b ≠ 0
  · rw [if_pos h1, if_pos h1]
  · rw [if_neg h1, if_neg h1]
    have hg := good_iff.1 (show checkChart b = 0 by simpa using h1)
    cases th
    · rfl
    · simp only [there, if_true]
      by_cases h : cases b = []
      · simp [h, (cases_nil_iff hg).2 h]
      · simp [h, mt (cases_nil_iff hg).1 h]
theorem known_open0 (b : Bk) : knownH b true = openH b 0 := known_open b true
end Go.Lg.B
namespace Go.Lg.B
open Go Go.Conc Go.Lg Go.Proofs Go.Proofs.Tryz
section
variable {main : Bool} {J : Goroutine → Mem → Prop} (hJ : Closed prog main J)
include hJ
theorem sameR_c {b1 b2 : Bk} {v1 v2 : Value} {ro : RO} (hv1 : BkV ro v1 b1) (hv2 : BkV ro v2 b2) (he : b1 = b2) (hs : b1.short) : CallP prog J (fnv 42) [v1, v2] ro (.bool true) := by
  subst he
  obtain ⟨vc, vw, rfl, hc, hw⟩ := hv1
  obtain ⟨vc2, vw2, rfl, hc2, hw2⟩ := hv2
  obtain ⟨cb, cc, rfl⟩ := hc.form
  obtain ⟨wb, wc, rfl⟩ := hw.form
  obtain ⟨cb2, cc2, rfl⟩ := hc2.form
  obtain ⟨wb2, wc2, rfl⟩ := hw2.form
  obtain ⟨hs1, hs2⟩ := hs
  refine CallP.intro hJ (by kernel_rfl) fun c cs tail hret => enter_X (n := 80) func42 rfl rfl (Nl rfl) ?_
  have C : Ctx prog main J (bf 42 .normal) := ⟨hJ, by decide⟩
  refine Xr C rfl rfl <| R.box C rfl rfl rfl rfl fun p2 => R.box C rfl rfl rfl rfl fun p3 => Ad C rfl rfl <| Xs C <| Xr C rfl rfl <| Rf C 0 rfl rfl runUnderlying25 rfl sizeOf3 <| R.loadOne C rfl rfl rfl isAgg3 (by repeat (first | exact Mh | apply Mt)) rfl <| Rf C 0 rfl rfl runUnderlying25 rfl sizeOf3 <| R.loadOne C rfl rfl rfl isAgg3 (by repeat (first | exact Mh | apply Mt)) rfl <| R.int C rfl rfl rfl rfl b_neq <| R.fixv (t := 11) (v' := .bool false) rfl (by (exact congrArg Value.bool (by simp))) <| Rm C rfl rfl <| Rf C 1 rfl rfl runUnderlying25 rfl sizeOf3 <| R.loadOne C rfl rfl rfl isAgg3 (by repeat (first | exact Mh | apply Mt)) rfl <| Rf C 1 rfl rfl runUnderlying25 rfl sizeOf3 <| R.loadOne C rfl rfl rfl isAgg3 (by repeat (first | exact Mh | apply Mt)) rfl <| R.int C rfl rfl rfl rfl b_neq <| R.fixv (t := 17) (v' := .bool false) rfl (by (exact congrArg Value.bool (by simp))) <| R.pickF C rfl rfl rfl rfl <| Rm C rfl rfl <| Rf C 2 rfl rfl runUnderlying25 rfl sizeOf3 <| R.loadOne C rfl rfl rfl isAgg3 (by repeat (first | exact Mh | apply Mt)) rfl <| Rf C 2 rfl rfl runUnderlying25 rfl sizeOf3 <| R.loadOne C rfl rfl rfl isAgg3 (by repeat (first | exact Mh | apply Mt)) rfl <| R.int C rfl rfl rfl rfl b_neq <| R.fixv (t := 24) (v' := .bool false) rfl (by (exact congrArg Value.bool (by simp))) <| R.pickF C rfl rfl rfl rfl <| Rm C rfl rfl <| Rf C 3 rfl rfl runUnderlying25 rfl sizeOf22 <| R.loadOne C rfl rfl rfl isAgg22 (by repeat (first | exact Mh | apply Mt)) rfl <| R.lenSlice C rfl rfl rfl runUnderlying22 <| Rf C 3 rfl rfl runUnderlying25 rfl sizeOf22 <| R.loadOne C rfl rfl rfl isAgg22 (by repeat (first | exact Mh | apply Mt)) rfl <| R.lenSlice C rfl rfl rfl runUnderlying22 <| R.int C rfl rfl rfl rfl b_neq <| R.fixv (t := 33) (v' := .bool false) rfl (by (exact congrArg Value.bool (by simp))) <| R.pickF C rfl rfl rfl rfl <| Rm C rfl rfl <| Rf C 4 rfl rfl runUnderlying25 rfl sizeOf23 ?_; refine R.loadOne C rfl rfl rfl isAgg23 (by repeat (first | exact Mh | apply Mt)) rfl <| R.lenSlice C rfl rfl rfl runUnderlying23 <| Rf C 4 rfl rfl runUnderlying25 rfl sizeOf23 <| R.loadOne C rfl rfl rfl isAgg23 (by repeat (first | exact Mh | apply Mt)) rfl <| R.lenSlice C rfl rfl rfl runUnderlying23 <| R.int C rfl rfl rfl rfl b_neq <| R.fixv (t := 42) (v' := .bool false) rfl (by (exact congrArg Value.bool (by simp))) <| R.pickF C rfl rfl rfl rfl <| R.done C <| X.cond C.1 rfl (fun h => nomatch h) (fun _ => ?_)
  refine X.skip C.1 <| Xs C <| Xr C rfl rfl <| Ad C rfl rfl <| X.block C.1 <| X.loopI (ι := Nat) C.1 (fun i => i ≤ b1.cs.length) (fun i => [(2, .pointer (some ⟨p2, 0, none⟩)), (3, .pointer (some ⟨p3, 0, none⟩)), (5, .int .i64 (i : Int))])
    (fun _ => ⟨ro, (p3, .cells [.int .i64 b1.w, .int .i64 b1.h, .int .i64 b1.f, .slice cb2 b1.cs.length cc2, .slice wb2 b1.ws.length wc2].toArray 25 (0, 0)) :: (p2, .cells [.int .i64 b1.w, .int .i64 b1.h, .int .i64 b1.f, .slice cb b1.cs.length cc, .slice wb b1.ws.length wc].toArray 25 (0, 0)) :: tail⟩) (fun i => b1.cs.length - i) 0 (Nat.zero_le _) rfl ⟨rfl, rfl, rfl, trivial⟩ fun i hi hnext => ?_
  refine Xs C <| Xr C rfl rfl <| Rm C rfl rfl <| Rf C 3 rfl rfl runUnderlying25 rfl sizeOf22 <| R.loadOne C rfl rfl rfl isAgg22 (by repeat (first | exact Mh | apply Mt)) rfl <| R.lenSlice C rfl rfl rfl runUnderlying22 <| R.int C rfl rfl rfl rfl b_lss <| R.done C <| X.cond C.1 rfl (fun hlt => ?_) (fun hlt => ?_)
  · have hlt := hlt
    simp only [decide_eq_true_eq] at hlt
    have hi' : i < b1.cs.length := by omega
    obtain ⟨p, off, cap, l, t, fq, hsl, hrop, hsub⟩ := hc.at Rc.len (by omega)
    cases hsl
    obtain ⟨p', off', cap', l', t', fq', hsl', hrop', hsub'⟩ := hc2.at Rc.len (by omega)
    cases hsl'
    refine X.skip C.1 <| Xs C <| X.block C.1 <| Xs C <| Xd C fun hok => Df (off' := 3) C 0 hok rfl rfl rfl runUnderlying25 rfl sizeOf22 rfl <| D1 C 1 hok rfl rfl isAgg22 (by repeat (first | exact Mh | apply Mt)) rfl <| Dm C 2 hok rfl rfl rfl <| Dx C 3 hok rfl rfl rfl runUnderlying22 sizeOf46 <| Dl 4 hok (fun _ _ A h => R.loadAggRo C rfl (A.w rfl rfl) (A.x rfl rfl) isAgg46 sizeOf46 hrop (hsub i hi') h) <| Df (off' := 3) C 5 hok rfl rfl rfl runUnderlying25 rfl sizeOf22 rfl <| D1 C 6 hok rfl rfl isAgg22 (by repeat (first | exact Mh | apply Mt)) rfl <| Dm C 7 hok rfl rfl rfl <| Dx C 8 hok rfl rfl rfl runUnderlying22 sizeOf46 <| Dl 9 hok (fun _ _ A h => R.loadAggRo C rfl (A.w rfl rfl) (A.x rfl rfl) isAgg46 sizeOf46 hrop' (hsub' i hi') h) <| Dp 10 hok (fun _ _ _ A h => R.neAgg (p := [b1.cs[i].lo, b1.cs[i].hi]) (q := [b1.cs[i].lo, b1.cs[i].hi]) C rfl (A.w rfl rfl) (A.x rfl rfl) (A.x rfl rfl) eqT46 rfl rfl (by kernel_rfl) h) <| D.fixv (t := 61) (v' := .bool false) rfl (by (exact congrArg Value.bool (by simp))) <| D.done C hok (by kernel_rfl) <| X.cond C.1 rfl (fun h => nomatch h) (fun _ => ?_)
    refine X.skip C.1 <| X.inBlock C.1 <| X.region C rfl rfl <| Rm C rfl rfl <| R.int C rfl rfl rfl rfl (b_add (by omega) (by omega)) <| Ad C rfl rfl <| X.weaken ?_ (hnext (i + 1) hi' (by omega))
    exact ⟨rfl, rfl, by simp [look], trivial⟩
  · have hlt := hlt
    simp only [decide_eq_false_iff_not] at hlt
    refine X.exit C.1 rfl <| Xs C <| Xr C rfl rfl <| Ad C rfl rfl <| X.block C.1 <| X.loopI (ι := Nat) C.1 (fun i => i ≤ b1.ws.length) (fun i => [(2, .pointer (some ⟨p2, 0, none⟩)), (3, .pointer (some ⟨p3, 0, none⟩)), (6, .int .i64 (i : Int))])
      (fun _ => ⟨ro, (p3, .cells [.int .i64 b1.w, .int .i64 b1.h, .int .i64 b1.f, .slice cb2 b1.cs.length cc2, .slice wb2 b1.ws.length wc2].toArray 25 (0, 0)) :: (p2, .cells [.int .i64 b1.w, .int .i64 b1.h, .int .i64 b1.f, .slice cb b1.cs.length cc, .slice wb b1.ws.length wc].toArray 25 (0, 0)) :: tail⟩) (fun i => b1.ws.length - i) 0 (Nat.zero_le _) rfl ⟨rfl, rfl, rfl, trivial⟩ fun i hi hnext2 => ?_
    refine Xs C <| Xr C rfl rfl <| Rm C rfl rfl <| Rf C 4 rfl rfl runUnderlying25 rfl sizeOf23 <| R.loadOne C rfl rfl rfl isAgg23 (by repeat (first | exact Mh | apply Mt)) rfl <| R.lenSlice C rfl rfl rfl runUnderlying23 <| R.int C rfl rfl rfl rfl b_lss <| R.done C <| X.cond C.1 rfl (fun hlt2 => ?_) (fun hlt2 => ?_)
    · have hlt2 := hlt2
      simp only [decide_eq_true_eq] at hlt2
      have hi' : i < b1.ws.length := by omega
      obtain ⟨p, off, cap, l, t, fq, hsl, hrop, hsub⟩ := hw.at Wt.len (by omega)
      cases hsl
      obtain ⟨p', off', cap', l', t', fq', hsl', hrop', hsub'⟩ := hw2.at Wt.len (by omega)
      cases hsl'
      refine X.skip C.1 <| Xs C <| X.block C.1 <| Xs C <| Xd C fun hok => Df (off' := 4) C 0 hok rfl rfl rfl runUnderlying25 rfl sizeOf23 rfl <| D1 C 1 hok rfl rfl isAgg23 (by repeat (first | exact Mh | apply Mt)) rfl <| Dm C 2 hok rfl rfl rfl <| Dx C 3 hok rfl rfl rfl runUnderlying23 sizeOf58 <| Dl 4 hok (fun _ _ A h => R.loadAggRo C rfl (A.w rfl rfl) (A.x rfl rfl) isAgg58 sizeOf58 hrop (hsub i hi') h) <| Df (off' := 4) C 5 hok rfl rfl rfl runUnderlying25 rfl sizeOf23 rfl <| D1 C 6 hok rfl rfl isAgg23 (by repeat (first | exact Mh | apply Mt)) rfl <| Dm C 7 hok rfl rfl rfl <| Dx C 8 hok rfl rfl rfl runUnderlying23 sizeOf58 <| Dl 9 hok (fun _ _ A h => R.loadAggRo C rfl (A.w rfl rfl) (A.x rfl rfl) isAgg58 sizeOf58 hrop' (hsub' i hi') h) <| Dp 10 hok (fun _ _ _ A h => R.neEq C rfl (A.w rfl rfl) (A.x rfl rfl) (A.x rfl rfl) (eq58 b1.ws[i] b1.ws[i]) (by kernel_rfl) h) <| D.fixv (t := 79) (v' := .bool false) rfl (by (exact congrArg Value.bool (by simp))) <| D.done C hok (by kernel_rfl) <| X.cond C.1 rfl (fun h => nomatch h) (fun _ => ?_)
      refine X.skip C.1 <| X.inBlock C.1 <| X.region C rfl rfl <| Rm C rfl rfl <| R.int C rfl rfl rfl rfl (b_add (by omega) (by omega)) <| Ad C rfl rfl <| X.weaken ?_ (hnext2 (i + 1) hi' (by omega))
      exact ⟨rfl, rfl, by simp [look], trivial⟩
    · have hlt2 := hlt2
      refine X.exit C.1 rfl <| Xr C rfl rfl <| Ad C rfl rfl <| Xt C func42 <| Hp hret ?_
      rfl
theorem overlapR_c (x y : Rc) (ro : RO) : CallP prog J (fnv 62) [x.val, y.val] ro ((cut x y).val) := by
  refine CallP.intro hJ (by kernel_rfl) fun c cs tail hret => enter_X (n := 16) func62 rfl rfl (Nl rfl) ?_
  have C : Ctx prog main J (bf 62 .normal) := ⟨hJ, by decide⟩
  refine Xr C rfl rfl <| R.box C rfl rfl rfl rfl fun p2 => R.box C rfl rfl rfl rfl fun p3 => R.alloc C rfl rfl zeroValue46 rfl fun p4 => R.done C <| Xr C rfl rfl <| Rf C 0 rfl rfl runUnderlying46 rfl sizeOf3 <| R.loadOne C rfl rfl rfl isAgg3 (by repeat (first | exact Mh | apply Mt)) rfl <| Rf C 0 rfl rfl runUnderlying46 rfl sizeOf3 <| R.loadOne C rfl rfl rfl isAgg3 (by repeat (first | exact Mh | apply Mt)) rfl <| R.max2 C rfl rfl rfl rfl <| Rf C 1 rfl rfl runUnderlying46 rfl sizeOf3 <| R.loadOne C rfl rfl rfl isAgg3 (by repeat (first | exact Mh | apply Mt)) rfl <| Rf C 1 rfl rfl runUnderlying46 rfl sizeOf3 <| R.loadOne C rfl rfl rfl isAgg3 (by repeat (first | exact Mh | apply Mt)) rfl <| R.min2 C rfl rfl rfl rfl <| R.build C rfl rfl rfl zeroValue46 rfl runUnderlying46 (by kernel_rfl) (Fills.part rfl rfl sizeOf3 rfl (.here .nil) (Fills.part rfl rfl sizeOf3 rfl (.skip (.here .nil)) .nil)) <| R.store C rfl rfl rfl rfl sizeOf46 rfl rfl rfl (by repeat (first | exact Uh | apply Ut)) (.here (.here .nil)) <| R.done C <| X.ret C rfl rfl func62 rfl (by exact (.agg rfl isAgg46 sizeOf46 (by repeat (first | exact Mh | apply Mt)) Tk2 .nil)) <| Hp hret ?_
  rfl
theorem agreedR_c {b : Bk} {v : Value} {ro : RO} (hv : BkV ro v b) (hs : b.short) : CallR prog J (fnv 117) [v] ro (fun w ro' => NewV ro' b (openH b 0) w) := by
  have hvv := hv
  obtain ⟨vc, vw, rfl, hc, hw⟩ := hv
  obtain ⟨cb, cc, rfl⟩ := hc.form
  obtain ⟨wb, wc, rfl⟩ := hw.form
  refine CallR.intro hJ (by kernel_rfl) fun c cs tail hret => enter_X (n := 16) func117 rfl rfl (Nl rfl) ?_
  have C : Ctx prog main J (bf 117 .normal) := ⟨hJ, by decide⟩
  refine Xr C rfl rfl <| R.box C rfl rfl rfl rfl fun p1 => R.alloc C rfl rfl zeroValue25 rfl fun p2 => Ad C rfl rfl <| Xs C <| Xr C rfl rfl <| R.loadAgg C rfl rfl rfl isAgg25 sizeOf25 (by repeat (first | exact Mh | apply Mt)) Tk5 <| R.callR C rfl rfl rfl rfl ((knownR_c hJ hvv hs true)) fun v1 ro1 hl1 hp1 => ?_
  rw [← known_open0] at hret
  obtain ⟨vl, rfl, hk0, hk1⟩ := hp1
  refine Rm C rfl rfl <| R.ext C rfl rfl rfl rfl <| R.ext C rfl rfl rfl rfl <| R.asg C rfl rfl rfl <| Ad C rfl rfl <| Xr C rfl rfl <| Rm C rfl rfl <| R.int C rfl rfl rfl rfl b_neq <| R.done C <| X.cond C.1 rfl (fun hh => ?_) (fun hh => ?_)
  · have hh := hh
    simp at hh
    refine Xr C rfl rfl <| R.build C rfl rfl rfl zeroValue25 rfl runUnderlying25 (by kernel_rfl) .nil <| Rm C rfl rfl <| R.store C rfl rfl rfl rfl sizeOf25 rfl rfl rfl (by repeat (first | exact Uh | apply Ut)) (.here (.here (.here (.here (.here .nil))))) <| Ad C rfl rfl <| X.ret C rfl rfl func117 rfl (by exact (.agg rfl isAgg25 sizeOf25 (by repeat (first | exact Mh | apply Mt)) Tk5 (.tmp rfl .nil))) <| Hr hret hl1 ?_
    exact .inl ⟨hh, rfl⟩
  · have hh := hh
    simp at hh
    refine X.skip C.1 <| Xr C rfl rfl <| R.loadAgg C rfl rfl rfl isAgg25 sizeOf25 (by repeat (first | exact Mh | apply Mt)) Tk5 <| R.store C rfl rfl rfl rfl sizeOf25 rfl rfl rfl (by repeat (first | exact Uh | apply Ut)) (.here (.here (.here (.here (.here .nil))))) <| Ad C rfl rfl <| X.ret C rfl rfl func117 rfl (by exact (.agg rfl isAgg25 sizeOf25 (by repeat (first | exact Mh | apply Mt)) Tk5 (.tmp rfl .nil))) <| Hr hret hl1 ?_
    exact .inr ⟨hh, _, hvv.mono hl1, rfl⟩
theorem swungR_c {b : Bk} {v : Value} {ro : RO} (hv : BkV ro v b) (hb : b.good) {k : Int} (hk0 : 0 ≤ k) (hk1 : k < b.cs.length) (y : Rc) : CallR prog J (fnv 57) [v, .int .i64 k, y.val] ro (fun x ro' => BkV ro' x { b with cs := b.cs.set k.toNat y }) := by
  have hnc := hb.nc
  obtain ⟨vc, vw, rfl, hc, hw⟩ := hv
  obtain ⟨wb, wc, rfl⟩ := hw.form
  have hc0 := hc
  obtain ⟨cb, cc, rfl⟩ := hc.form
  have hki : k.toNat < b.cs.length := by omega
  have hfl := flatMap_len Rc.len b.cs
  have hfl2 := flatMap_len Rc.len (b.cs.set k.toNat y)
  rw [List.length_set] at hfl2
  refine CallR.intro hJ (by kernel_rfl) fun c cs tail hret => enter_X (n := 18) func57 rfl rfl (Nl rfl) ?_
  have C : Ctx prog main J (bf 57 .normal) := ⟨hJ, by decide⟩
  refine Xr C rfl rfl <| R.box C rfl rfl rfl rfl fun p3 => R.box C rfl rfl rfl rfl fun p5 => R.alloc C rfl rfl zeroValue25 rfl fun p6 => R.done C <| Xr C rfl rfl <| R.buildSlice C (vs := _) rfl rfl (show pvals _ _ = some (numbered 0 []) from rfl) rfl runUnderlying22 sizeOf46 zeroValue46 (by decide) (.nil) fun p7 => Rf C 3 rfl rfl runUnderlying25 rfl sizeOf22 <| R.loadOne C rfl rfl rfl isAgg22 (by repeat (first | exact Mh | apply Mt)) rfl <| R.append (kk := 2) C rfl rfl rfl rfl runUnderlying22 runUnderlying22 (fun _ => nofun) (show prog.info? 46 = some Tryz.t46 by kernel_rfl) rfl rfl rfl (by decide) (by decide) (Buf.blk (cells := []) (spare := []) (len := 0) (cap := 0) rfl rfl (Nat.le_refl _)) (hc0.rd Rc.len) (ones_C b.cs) (by simp only [List.length_nil]; omega) fun v' own' hb' => ?_
  obtain ⟨own0, rfl, hb0⟩ := Buf.unapp (tail := []) (H := (p6, .cells [.int .i64 0, .int .i64 0, .int .i64 0, .slice none 0 0, .slice none 0 0].toArray 25 (0, 0)) :: (p5, .cells y.cells.toArray 46 (0, 0)) :: (p3, .cells [.int .i64 b.w, .int .i64 b.h, .int .i64 b.f, .slice cb b.cs.length cc, .slice wb b.ws.length wc].toArray 25 (0, 0)) :: tail) hb'
  obtain ⟨pW, len, capW, spare, rfl, hlen, rfl, hset⟩ := hb0.at (by simp only [List.nil_append]; omega)
  simp only [List.nil_append] at hlen
  obtain rfl : len = b.cs.length := by omega
  refine Rf C 3 rfl rfl runUnderlying25 rfl sizeOf22 <| R.store C rfl rfl rfl rfl sizeOf22 rfl rfl rfl (by repeat (first | exact Uh | apply Ut | apply Upd.app)) (.skip (.skip (.skip (.here .nil)))) <| R.done C <| Xr C rfl rfl <| Rf C 3 rfl rfl runUnderlying25 rfl sizeOf22 <| R.loadOne C rfl rfl rfl isAgg22 (by repeat (first | exact Mh | apply Mt | apply List.mem_append_right)) rfl <| Rm C rfl rfl <| R.loadAgg C rfl rfl rfl isAgg46 sizeOf46 (by repeat (first | exact Mh | apply Mt | apply List.mem_append_right)) Tk2 <| R.indexAddr C rfl rfl rfl rfl runUnderlying22 sizeOf46 hk0 hk1 <| R.store C rfl rfl rfl rfl sizeOf46 rfl rfl rfl (by repeat (first | exact Uh | apply Ut | apply Upd.app)) (by rw [Nat.zero_add]; exact Put.flat Rc.len b.cs k.toNat hki y spare (.here (.here .nil))) <| R.done C <| Xr C rfl rfl ?_
  have hb1 := hset ((b.cs.set k.toNat y).flatMap Rc.cells) (by simp only [List.nil_append]; omega)
  refine R.finish C.1 Rc.len (by decide) (hb1.app _) fun ro3 hl3 hls3 => R.loadAgg C rfl rfl rfl isAgg25 sizeOf25 (by repeat (first | exact Mh | apply Mt)) Tk5 <| R.store C rfl rfl rfl rfl sizeOf25 rfl rfl rfl (by repeat (first | exact Uh | apply Ut)) (.here (.here (.here (.here (.here .nil))))) <| R.done C <| X.ret C rfl rfl func57 rfl (by exact (.agg rfl isAgg25 sizeOf25 (by repeat (first | exact Mh | apply Mt)) Tk5 .nil)) <| Hr hret hl3 ?_
  exact ⟨_, _, rfl, hls3, hw.mono hl3⟩
end
end Go.Lg.B
namespace Go.Lg
open Go Go.Conc
variable {P : Program} {main : Bool} {J : Goroutine → Mem → Prop} {b : Frame} (C : Ctx P main J b) {cs : List Frame} {n : Nat} {ds : List Deferred} {σ : Slots} {ro : RO} {own : List (Nat × Obj)} {k : List Item} {ops : Array Oper} {i : Nat} {rest : List Nat}
variable {d : Nat} {ty : TypeId} {pos : String} {af : Array Edge} {g : Option (Nat × Bool)}
include C in
theorem R.appendH {st xt e : TypeId} {ti : TypeInfo} {kk m : Nat} {z : Value} {xe : TypeDesc} {x y : Operand} {v w : Value} {cells xs : List Value} {own0 H : List (Nat × Obj)} (ho : ops[i]? = some ⟨some d, .call ⟨.builtin .append, #[x, y], #[st, xt]⟩, ty, pos, af, g⟩)
    (hg : wantedS ops σ ⟨some d, .call ⟨.builtin .append, #[x, y], #[st, xt]⟩, ty, pos, af, g⟩ = some true) (hx : ev σ x = some v) (hy : ev σ y = some w) (hu : ∀ w, Sem.run P (Go.underlying st) w = .ok (.slice e) w) (hux : ∀ w, Sem.run P (Go.underlying xt) w = .ok xe w)
    (hxe : ∀ q, xe ≠ .int q) (hi : P.info? e = some ti) (hks : ti.size = kk) (hz : ti.zero = some z) (hzc : z.cells.size = kk) (hby : 0 < ti.bytes ∧ ti.bytes ≤ 1000) (hkp : 0 < kk) (hb : Buf e kk [] v cells own0) (hr : Rd ⟨ro, own⟩ kk w m xs) (h1 : ones xs = true) (hsz : cells.length + xs.length ≤ 1000000000) (hM : own = own0 ++ H)
    (h : ∀ v' own', Buf e kk [] v' (cells ++ xs) own' → R J b cs n ops rest k ds ((d, v') :: σ) ⟨ro, own' ++ H⟩) : R J b cs n ops (i :: rest) k ds σ ⟨ro, own⟩ := by
  subst hM
  refine R.append C ho hg hx hy hu hux hxe hi hks hz hzc hby hkp (hb.app H) hr h1 hsz fun v' own' hb' => ?_
  obtain ⟨own1, rfl, hb1⟩ := Buf.unapp (tail := []) (H := H) hb'
  exact h v' own1 hb1
end Go.Lg
namespace Go.Lg.B
open Go Go.Conc Go.Lg Go.Proofs Go.Proofs.Tryz
section
variable {main : Bool} {J : Goroutine → Mem → Prop} (hJ : Closed prog main J)
include hJ
theorem heardR_c {b : Bk} {v : Value} {ro : RO} (hv : BkV ro v b) (hs : b.short) (w : Wt) : CallR prog J (fnv 60) [v, w.val] ro (fun x ro' => BkV ro' x (heard b w)) := by
  obtain ⟨hs1, hs2⟩ := hs
  obtain ⟨vc, vw, rfl, hc, hw⟩ := hv
  obtain ⟨cb, cc, rfl⟩ := hc.form
  have hw0 := hw
  obtain ⟨wb, wc, rfl⟩ := hw.form
  have hfl := flatMap_len Wt.len b.ws
  have hwl : w.cells.length = 5 := rfl
  have hcat : [] ++ b.ws.flatMap Wt.cells ++ w.cells = (b.ws ++ [w]).flatMap Wt.cells := by simp
  refine CallR.intro hJ (by kernel_rfl) fun c cs tail hret => enter_X (n := 14) func60 rfl rfl (Nl rfl) ?_
  have C : Ctx prog main J (bf 60 .normal) := ⟨hJ, by decide⟩
  refine Xr C rfl rfl <| R.box C rfl rfl rfl rfl fun p2 => R.box C rfl rfl rfl rfl fun p3 => R.alloc C rfl rfl zeroValue25 rfl fun p4 => R.done C <| Xs C <| Xd C fun hok => Df (off' := 4) C 1 hok rfl rfl rfl runUnderlying25 rfl sizeOf23 rfl <| Dl 2 hok (fun _ _ A h => R.loadOne C rfl (A.w rfl rfl) (A.x rfl rfl) isAgg23 (by repeat (first | exact Mh | apply Mt | apply List.mem_append_right)) rfl h) <| Dl 4 hok (fun _ _ A h => R.loadAgg C rfl (A.w rfl rfl) (A.x rfl rfl) isAgg58 sizeOf58 (by repeat (first | exact Mh | apply Mt | apply List.mem_append_right)) Tk5 h) <| D.eP2 (i := 0) (i' := 5) (dst := (some 5)) (dst' := (some 10)) [true, true] [false, true] hok rfl rfl (by kernel_rfl) (by kernel_rfl) (by kernel_rfl) (fun σr rest A hk => ?_) (fun σr rest A hk => ?_)
  ·
    refine R.buildSlice C (vs := _) rfl (A.w rfl rfl) (show pvals _ _ = some (numbered 0 []) from (A.p rfl rfl)) rfl runUnderlying23 sizeOf58 zeroValue58 (by decide) (.nil) fun p5 => hk _ _ ⟨(QFs.cons (QF.of rfl (fun _ _ A h => R.loadAgg C rfl (A.w rfl rfl) (A.x rfl rfl) isAgg58 sizeOf58 (by repeat (first | exact Mh | apply Mt | apply List.mem_append_right)) Tk5 h)) (QFs.cons (QF.of rfl (fun _ _ A h => R.loadOne C rfl (A.w rfl rfl) (A.x rfl rfl) isAgg23 (by repeat (first | exact Mh | apply Mt | apply List.mem_append_right)) rfl h)) QFs.nil)), ?_⟩
    refine D.eP2 (i := 3) (i' := 5) (dst := (some 8)) (dst' := (some 10)) [true, false] [false, true] hok rfl rfl (by kernel_rfl) (by kernel_rfl) (by kernel_rfl) (fun σr rest A hk => ?_) (fun σr rest A hk => ?_)
    ·
      refine R.appendH (kk := 5) C rfl (A.w rfl rfl) (A.x rfl rfl) (A.x rfl rfl) runUnderlying23 runUnderlying23 (fun _ => nofun) (show prog.info? 58 = some Tryz.t58 by kernel_rfl) rfl rfl rfl (by decide) (by decide) (Buf.blk (tail := []) (cells := []) (spare := []) (len := 0) (cap := 0) rfl rfl (Nat.le_refl _)) (hw0.rd Wt.len) (ones_W b.ws) (by simp only [List.length_nil]; omega) rfl fun v' own' hb' => hk _ _ ⟨(QFs.cons (QF.of rfl (fun _ _ A h => R.loadAgg C rfl (A.w rfl rfl) (A.x rfl rfl) isAgg58 sizeOf58 (by repeat (first | exact Mh | apply Mt | apply List.mem_append_right)) Tk5 h)) QFs.nil), ?_⟩
      refine De 5 (some 10) [false] hok (fun σr rest A hk => ?_)
      refine R.buildSlice C (vs := _) rfl (A.w rfl rfl) (show pvals _ _ = some (numbered 0 [_]) from (A.p rfl rfl)) rfl runUnderlying23 sizeOf58 zeroValue58 (by decide) (Cat.one rfl rfl) fun p10 => hk _ _ ⟨QFs.nil, ?_⟩
      refine De 6 (some 11) [] hok (fun σr rest A hk => ?_)
      refine R.append1 (kk := 5) C rfl (A.w rfl rfl) (A.x rfl rfl) (A.x rfl rfl) runUnderlying23 runUnderlying23 (fun _ => nofun) (show prog.info? 58 = some Tryz.t58 by kernel_rfl) rfl rfl rfl (by decide) (by decide) (hb'.app _) rfl rfl (by simp only [List.length_append, List.length_cons, List.length_nil]; omega) fun v' own' hb' => hk _ _ ⟨QFs.nil, ?_⟩
      refine Df (off' := 4) C 7 hok rfl rfl rfl runUnderlying25 rfl sizeOf23 rfl <| De 8 none [] hok (fun σr rest A hk => ?_)
      obtain ⟨own1, rfl, hb1⟩ := Buf.unapp (tail := []) (H := (p4, .cells [.int .i64 0, .int .i64 0, .int .i64 0, .slice none 0 0, .slice none 0 0].toArray 25 (0, 0)) :: (p3, .cells w.cells.toArray 58 (0, 0)) :: (p2, .cells [.int .i64 b.w, .int .i64 b.h, .int .i64 b.f, .slice cb b.cs.length cc, .slice wb b.ws.length wc].toArray 25 (0, 0)) :: tail) hb'
      replace hb1 : Buf 58 5 [] v' ((b.ws ++ [w]).flatMap Wt.cells) own1 := by rw [← hcat]; exact hb1
      obtain ⟨bs1, cap1, rfl⟩ := hb1.form (by decide)
      refine R.store C rfl (A.w rfl rfl) (A.x rfl rfl) (A.x rfl rfl) sizeOf23 rfl rfl rfl (by repeat (first | exact Uh | apply Ut | apply Upd.app)) (.skip (.skip (.skip (.skip (.here .nil))))) (hk undef _ ⟨QFs.nil, ?_⟩)
      refine D.done C hok (by kernel_rfl) <| Xr C rfl rfl <| R.finish C.1 Wt.len (by decide) (hb1.app _) fun ro3 hl3 hls3 => R.loadAgg C rfl rfl rfl isAgg25 sizeOf25 (by repeat (first | exact Mh | apply Mt)) Tk5 <| R.store C rfl rfl rfl rfl sizeOf25 rfl rfl rfl (by repeat (first | exact Uh | apply Ut)) (.here (.here (.here (.here (.here .nil))))) <| R.done C <| X.ret C rfl rfl func60 rfl (by exact (.agg rfl isAgg25 sizeOf25 (by repeat (first | exact Mh | apply Mt)) Tk5 .nil)) <| Hr hret hl3 ?_
      exact ⟨_, _, rfl, hc.mono hl3, hls3⟩
    ·
      refine R.buildSlice C (vs := _) rfl (A.w rfl rfl) (show pvals _ _ = some (numbered 0 [_]) from (A.p rfl rfl)) rfl runUnderlying23 sizeOf58 zeroValue58 (by decide) (Cat.one rfl rfl) fun p10 => hk _ _ ⟨(QFs.cons (QF.of rfl (fun _ _ A h => R.loadOne C rfl (A.w rfl rfl) (A.x rfl rfl) isAgg23 (by repeat (first | exact Mh | apply Mt | apply List.mem_append_right)) rfl h)) QFs.nil), ?_⟩
      refine De 3 (some 8) [false] hok (fun σr rest A hk => ?_)
      refine R.perm C.1 (List.Perm.swap _ _ _) <| R.appendH (kk := 5) C rfl (A.w rfl rfl) (A.x rfl rfl) (A.x rfl rfl) runUnderlying23 runUnderlying23 (fun _ => nofun) (show prog.info? 58 = some Tryz.t58 by kernel_rfl) rfl rfl rfl (by decide) (by decide) (Buf.blk (tail := []) (cells := []) (spare := []) (len := 0) (cap := 0) rfl rfl (Nat.le_refl _)) (hw0.rd Wt.len) (ones_W b.ws) (by simp only [List.length_nil]; omega) rfl fun v' own' hb' => hk _ _ ⟨QFs.nil, ?_⟩
      refine De 6 (some 11) [] hok (fun σr rest A hk => ?_)
      refine R.perm C.1 List.perm_middle <| R.append1 (kk := 5) C rfl (A.w rfl rfl) (A.x rfl rfl) (A.x rfl rfl) runUnderlying23 runUnderlying23 (fun _ => nofun) (show prog.info? 58 = some Tryz.t58 by kernel_rfl) rfl rfl rfl (by decide) (by decide) (hb'.app _) rfl rfl (by simp only [List.length_append, List.length_cons, List.length_nil]; omega) fun v' own' hb' => hk _ _ ⟨QFs.nil, ?_⟩
      refine Df (off' := 4) C 7 hok rfl rfl rfl runUnderlying25 rfl sizeOf23 rfl <| De 8 none [] hok (fun σr rest A hk => ?_)
      obtain ⟨own1, rfl, hb1⟩ := Buf.unapp (tail := []) (H := (p4, .cells [.int .i64 0, .int .i64 0, .int .i64 0, .slice none 0 0, .slice none 0 0].toArray 25 (0, 0)) :: (p3, .cells w.cells.toArray 58 (0, 0)) :: (p2, .cells [.int .i64 b.w, .int .i64 b.h, .int .i64 b.f, .slice cb b.cs.length cc, .slice wb b.ws.length wc].toArray 25 (0, 0)) :: tail) hb'
      replace hb1 : Buf 58 5 [] v' ((b.ws ++ [w]).flatMap Wt.cells) own1 := by rw [← hcat]; exact hb1
      obtain ⟨bs1, cap1, rfl⟩ := hb1.form (by decide)
      refine R.store C rfl (A.w rfl rfl) (A.x rfl rfl) (A.x rfl rfl) sizeOf23 rfl rfl rfl (by repeat (first | exact Uh | apply Ut | apply Upd.app)) (.skip (.skip (.skip (.skip (.here .nil))))) (hk undef _ ⟨QFs.nil, ?_⟩)
      refine D.done C hok (by kernel_rfl) <| Xr C rfl rfl <| R.finish C.1 Wt.len (by decide) (hb1.app _) fun ro3 hl3 hls3 => R.loadAgg C rfl rfl rfl isAgg25 sizeOf25 (by repeat (first | exact Mh | apply Mt)) Tk5 <| R.store C rfl rfl rfl rfl sizeOf25 rfl rfl rfl (by repeat (first | exact Uh | apply Ut)) (.here (.here (.here (.here (.here .nil))))) <| R.done C <| X.ret C rfl rfl func60 rfl (by exact (.agg rfl isAgg25 sizeOf25 (by repeat (first | exact Mh | apply Mt)) Tk5 .nil)) <| Hr hret hl3 ?_
      exact ⟨_, _, rfl, hc.mono hl3, hls3⟩
  ·
    refine R.buildSlice C (vs := _) rfl (A.w rfl rfl) (show pvals _ _ = some (numbered 0 [_]) from (A.p rfl rfl)) rfl runUnderlying23 sizeOf58 zeroValue58 (by decide) (Cat.one rfl rfl) fun p10 => hk _ _ ⟨(QFs.cons (QF.of rfl (fun _ _ A h => R.loadOne C rfl (A.w rfl rfl) (A.x rfl rfl) isAgg23 (by repeat (first | exact Mh | apply Mt | apply List.mem_append_right)) rfl h)) QFs.nil), ?_⟩
    refine De 0 (some 5) [true] hok (fun σr rest A hk => ?_)
    refine R.buildSlice C (vs := _) rfl (A.w rfl rfl) (show pvals _ _ = some (numbered 0 []) from (A.p rfl rfl)) rfl runUnderlying23 sizeOf58 zeroValue58 (by decide) (.nil) fun p5 => hk _ _ ⟨(QFs.cons (QF.of rfl (fun _ _ A h => R.loadOne C rfl (A.w rfl rfl) (A.x rfl rfl) isAgg23 (by repeat (first | exact Mh | apply Mt | apply List.mem_append_right)) rfl h)) QFs.nil), ?_⟩
    refine De 3 (some 8) [false] hok (fun σr rest A hk => ?_)
    refine R.appendH (kk := 5) C rfl (A.w rfl rfl) (A.x rfl rfl) (A.x rfl rfl) runUnderlying23 runUnderlying23 (fun _ => nofun) (show prog.info? 58 = some Tryz.t58 by kernel_rfl) rfl rfl rfl (by decide) (by decide) (Buf.blk (tail := []) (cells := []) (spare := []) (len := 0) (cap := 0) rfl rfl (Nat.le_refl _)) (hw0.rd Wt.len) (ones_W b.ws) (by simp only [List.length_nil]; omega) rfl fun v' own' hb' => hk _ _ ⟨QFs.nil, ?_⟩
    refine De 6 (some 11) [] hok (fun σr rest A hk => ?_)
    refine R.perm C.1 List.perm_middle <| R.append1 (kk := 5) C rfl (A.w rfl rfl) (A.x rfl rfl) (A.x rfl rfl) runUnderlying23 runUnderlying23 (fun _ => nofun) (show prog.info? 58 = some Tryz.t58 by kernel_rfl) rfl rfl rfl (by decide) (by decide) (hb'.app _) rfl rfl (by simp only [List.length_append, List.length_cons, List.length_nil]; omega) fun v' own' hb' => hk _ _ ⟨QFs.nil, ?_⟩
    refine Df (off' := 4) C 7 hok rfl rfl rfl runUnderlying25 rfl sizeOf23 rfl <| De 8 none [] hok (fun σr rest A hk => ?_)
    obtain ⟨own1, rfl, hb1⟩ := Buf.unapp (tail := []) (H := (p4, .cells [.int .i64 0, .int .i64 0, .int .i64 0, .slice none 0 0, .slice none 0 0].toArray 25 (0, 0)) :: (p3, .cells w.cells.toArray 58 (0, 0)) :: (p2, .cells [.int .i64 b.w, .int .i64 b.h, .int .i64 b.f, .slice cb b.cs.length cc, .slice wb b.ws.length wc].toArray 25 (0, 0)) :: tail) hb'
    replace hb1 : Buf 58 5 [] v' ((b.ws ++ [w]).flatMap Wt.cells) own1 := by rw [← hcat]; exact hb1
    obtain ⟨bs1, cap1, rfl⟩ := hb1.form (by decide)
    refine R.store C rfl (A.w rfl rfl) (A.x rfl rfl) (A.x rfl rfl) sizeOf23 rfl rfl rfl (by repeat (first | exact Uh | apply Ut | apply Upd.app)) (.skip (.skip (.skip (.skip (.here .nil))))) (hk undef _ ⟨QFs.nil, ?_⟩)
    refine D.done C hok (by kernel_rfl) <| Xr C rfl rfl <| R.finish C.1 Wt.len (by decide) (hb1.app _) fun ro3 hl3 hls3 => R.loadAgg C rfl rfl rfl isAgg25 sizeOf25 (by repeat (first | exact Mh | apply Mt)) Tk5 <| R.store C rfl rfl rfl rfl sizeOf25 rfl rfl rfl (by repeat (first | exact Uh | apply Ut)) (.here (.here (.here (.here (.here .nil))))) <| R.done C <| X.ret C rfl rfl func60 rfl (by exact (.agg rfl isAgg25 sizeOf25 (by repeat (first | exact Mh | apply Mt)) Tk5 .nil)) <| Hr hret hl3 ?_
    exact ⟨_, _, rfl, hc.mono hl3, hls3⟩
end
end Go.Lg.B
namespace Go.Lg.B
open Go Go.Conc Go.Lg Go.Proofs Go.Proofs.Tryz
section
variable {main : Bool} {J : Goroutine → Mem → Prop} (hJ : Closed prog main J)
include hJ
theorem hearR_c {b : Bk} {v : Value} {ro : RO} (hv : BkV ro v b) (hs : b.short) (w : Wt) : CallR prog J (fnv 41) [v, w.val] ro (fun x ro' => NewV ro' (heard b w) (hearH b w) x) := by
  have hvv := hv
  obtain ⟨vc, vw, rfl, hc, hw⟩ := hv
  obtain ⟨cb, cc, rfl⟩ := hc.form
  obtain ⟨wb, wc, rfl⟩ := hw.form
  refine CallR.intro hJ (by kernel_rfl) fun c cs tail hret => enter_X (n := 19) func41 rfl rfl (Nl rfl) ?_
  have C : Ctx prog main J (bf 41 .normal) := ⟨hJ, by decide⟩
  refine Xr C rfl rfl <| R.box C rfl rfl rfl rfl fun p2 => R.box C rfl rfl rfl rfl fun p3 => R.alloc C rfl rfl zeroValue25 rfl fun p4 => Ad C rfl rfl <| Xs C <| Xr C rfl rfl <| R.loadAgg C rfl rfl rfl isAgg25 sizeOf25 (by repeat (first | exact Mh | apply Mt)) Tk5 <| R.callP C rfl rfl rfl rfl (checkChartR_c hJ (by assumption) (by assumption)) <| Ad C rfl rfl <| Xr C rfl rfl <| Rm C rfl rfl <| R.int C rfl rfl rfl rfl b_neq <| R.done C <| X.cond C.1 rfl (fun hh => ?_) (fun hh => ?_)
  · have hh := hh
    simp at hh
    refine Xr C rfl rfl <| R.build C rfl rfl rfl zeroValue25 rfl runUnderlying25 (by kernel_rfl) .nil <| Rm C rfl rfl <| R.store C rfl rfl rfl rfl sizeOf25 rfl rfl rfl (by repeat (first | exact Uh | apply Ut)) (.here (.here (.here (.here (.here .nil))))) <| Ad C rfl rfl <| X.ret C rfl rfl func41 rfl (by exact (.agg rfl isAgg25 sizeOf25 (by repeat (first | exact Mh | apply Mt)) Tk5 (.tmp rfl .nil))) <| Hr hret (RO.le_refl _) ?_
    exact .inl ⟨by rw [hearH, if_pos hh]; exact hh, by rw [hearH, if_pos hh]; rfl⟩
  · have hh := hh
    simp at hh
    have hb := good_iff.1 hh
    have hnw := hb.nw
    have hnc := hb.nc
    have hfin : hearH b w = openH (heard b w) 0 := by rw [hearH, if_neg (by simp [hh])]
    have hsh : (heard b w).short := ⟨by show b.cs.length ≤ 1000; omega, by show (b.ws ++ [w]).length ≤ 1000; simp; omega⟩
    rw [hfin] at hret
    refine X.skip C.1 <| Xr C rfl rfl <| R.loadAgg C rfl rfl rfl isAgg25 sizeOf25 (by repeat (first | exact Mh | apply Mt)) Tk5 <| R.loadAgg C rfl rfl rfl isAgg58 sizeOf58 (by repeat (first | exact Mh | apply Mt)) Tk5 <| R.callR C rfl rfl rfl rfl ((heardR_c hJ hvv (short_of hb) w)) fun v3 ro3 hl3 hv3 => R.callR C rfl rfl rfl rfl ((agreedR_c hJ hv3 hsh)) fun v1 ro2 hl2 hp => ?_
    rcases hp with ⟨h0, rfl⟩ | ⟨h0, v2, ⟨vc2, vw2, rfl, hc2, hw2⟩, rfl⟩
    ·
      unfold noBk
      refine R.ext C rfl rfl rfl rfl <| R.ext C rfl rfl rfl rfl <| R.store C rfl rfl rfl rfl sizeOf25 rfl rfl rfl (by repeat (first | exact Uh | apply Ut)) (.here (.here (.here (.here (.here .nil))))) <| Ad C rfl rfl <| X.ret C rfl rfl func41 rfl (by exact (.agg rfl isAgg25 sizeOf25 (by repeat (first | exact Mh | apply Mt)) Tk5 (.tmp rfl .nil))) <| Hr hret (RO.le_trans hl3 hl2) ?_
      exact .inl ⟨h0, rfl⟩
    ·
      obtain ⟨cb2, cc2, rfl⟩ := hc2.form
      obtain ⟨wb2, wc2, rfl⟩ := hw2.form
      refine R.ext C rfl rfl rfl rfl <| R.ext C rfl rfl rfl rfl <| R.store C rfl rfl rfl rfl sizeOf25 rfl rfl rfl (by repeat (first | exact Uh | apply Ut)) (.here (.here (.here (.here (.here .nil))))) <| Ad C rfl rfl <| X.ret C rfl rfl func41 rfl (by exact (.agg rfl isAgg25 sizeOf25 (by repeat (first | exact Mh | apply Mt)) Tk5 (.tmp rfl .nil))) <| Hr hret (RO.le_trans hl3 hl2) ?_
      exact .inr ⟨h0, _, ⟨_, _, rfl, hc2, hw2⟩, rfl⟩
theorem trustR_c {b : Bk} {v : Value} {ro : RO} (hv : BkV ro v b) (hs : b.short) (k : Int) : CallR prog J (fnv 44) [v, .int .i64 k] ro (fun x ro' => NewV ro' (trusted b k) (trustH b k) x) := by
  have hvv := hv
  obtain ⟨vc, vw, rfl, hc, hw⟩ := hv
  obtain ⟨cb, cc, rfl⟩ := hc.form
  obtain ⟨wb, wc, rfl⟩ := hw.form
  refine CallR.intro hJ (by kernel_rfl) fun c cs tail hret => enter_X (n := 31) func44 rfl rfl (Nl rfl) ?_
  have C : Ctx prog main J (bf 44 .normal) := ⟨hJ, by decide⟩
  refine Xr C rfl rfl <| R.box C rfl rfl rfl rfl fun p2 => R.alloc C rfl rfl zeroValue25 rfl fun p4 => Ad C rfl rfl <| Xs C <| Xr C rfl rfl <| R.loadAgg C rfl rfl rfl isAgg25 sizeOf25 (by repeat (first | exact Mh | apply Mt)) Tk5 <| R.callP C rfl rfl rfl rfl (checkChartR_c hJ (by assumption) (by assumption)) <| Ad C rfl rfl <| Xr C rfl rfl <| Rm C rfl rfl <| R.int C rfl rfl rfl rfl b_neq <| R.done C <| X.cond C.1 rfl (fun hh => ?_) (fun hh => ?_)
  · have hh := hh
    simp at hh
    refine Xr C rfl rfl <| R.build C rfl rfl rfl zeroValue25 rfl runUnderlying25 (by kernel_rfl) .nil <| Rm C rfl rfl <| R.store C rfl rfl rfl rfl sizeOf25 rfl rfl rfl (by repeat (first | exact Uh | apply Ut)) (.here (.here (.here (.here (.here .nil))))) <| Ad C rfl rfl <| X.ret C rfl rfl func44 rfl (by exact (.agg rfl isAgg25 sizeOf25 (by repeat (first | exact Mh | apply Mt)) Tk5 (.tmp rfl .nil))) <| Hr hret (RO.le_refl _) ?_
    exact .inl ⟨by rw [trustH, if_pos hh]; exact hh, by rw [trustH, if_pos hh]; rfl⟩
  · have hh := hh
    simp at hh
    have hb := good_iff.1 hh
    have hnw := hb.nw
    have hnc := hb.nc
    refine X.skip C.1 <| Xs C <| Xr C rfl rfl <| R.loadAgg C rfl rfl rfl isAgg25 sizeOf25 (by repeat (first | exact Mh | apply Mt)) Tk5 <| Rm C rfl rfl <| R.callP C rfl rfl rfl rfl (isWitnessR_c hJ (by assumption) (by assumption) _) <| R.not C rfl rfl rfl <| R.done C <| X.cond C.1 rfl (fun hk => ?_) (fun hk => ?_)
    · have hk := hk
      simp only [Bool.not_eq_true'] at hk
      have hk6 : b.witness k = 6 := by simp only [Bk.witness, there, hk]; rfl
      refine Xr C rfl rfl <| R.build C rfl rfl rfl zeroValue25 rfl runUnderlying25 (by kernel_rfl) .nil <| R.store C rfl rfl rfl rfl sizeOf25 rfl rfl rfl (by repeat (first | exact Uh | apply Ut)) (.here (.here (.here (.here (.here .nil))))) <| Ad C rfl rfl <| X.ret C rfl rfl func44 rfl (by exact (.agg rfl isAgg25 sizeOf25 (by repeat (first | exact Mh | apply Mt)) Tk5 (.tmp rfl .nil))) <| Hr hret (RO.le_refl _) ?_
      exact .inl ⟨by rw [trustH, if_neg (by simp [hh]), if_pos (by rw [hk6]; decide), hk6]; decide, by rw [trustH, if_neg (by simp [hh]), if_pos (by rw [hk6]; decide), hk6]; rfl⟩
    · have hk := hk
      simp only [Bool.not_eq_false'] at hk
      have hk0 : b.witness k = 0 := there_zero.2 hk
      have hkb := hk
      simp only [between, Bool.and_eq_true, decide_eq_true_eq] at hkb
      have hki : k.toNat < b.ws.length := by omega
      have hwt := Bk.wt_get hki
      obtain ⟨pp, off, cap, l, t, fq, hsl, hrop, hsub⟩ := hw.at Wt.len (by omega)
      cases hsl
      have hx : l[off + k.toNat * 5 + 4]? = some (.bool (b.wt k.toNat).sure) := by
        have := (hsub k.toNat hki).get 4 (by decide)
        rw [hwt] at this
        simpa [Wt.cells] using this
      refine X.skip C.1 <| Xs C <| Xr C rfl rfl <| Rf C 4 rfl rfl runUnderlying25 rfl sizeOf23 <| R.loadOne C rfl rfl rfl isAgg23 (by repeat (first | exact Mh | apply Mt)) rfl <| Rm C rfl rfl <| R.indexAddr C rfl rfl rfl rfl runUnderlying23 sizeOf58 hkb.1 (by omega) <| R.fieldAddr C rfl rfl rfl runUnderlying58 rfl sizeOf4 rfl <| R.loadOneRo C rfl rfl rfl isAgg4 hrop hx <| R.done C <| X.cond C.1 rfl (fun hsu => ?_) (fun hsu => ?_)
      · have hsu := hsu
        refine Xr C rfl rfl <| R.build C rfl rfl rfl zeroValue25 rfl runUnderlying25 (by kernel_rfl) .nil <| R.store C rfl rfl rfl rfl sizeOf25 rfl rfl rfl (by repeat (first | exact Uh | apply Ut)) (.here (.here (.here (.here (.here .nil))))) <| Ad C rfl rfl <| X.ret C rfl rfl func44 rfl (by exact (.agg rfl isAgg25 sizeOf25 (by repeat (first | exact Mh | apply Mt)) Tk5 (.tmp rfl .nil))) <| Hr hret (RO.le_refl _) ?_
        exact .inl ⟨by rw [trustH, if_neg (by simp [hh]), if_neg (by simp [hk0]), if_pos hsu]; decide, by rw [trustH, if_neg (by simp [hh]), if_neg (by simp [hk0]), if_pos hsu]; rfl⟩
      · have hsu := hsu
        have hfin : trustH b k = openH (trusted b k) 0 := by rw [trustH, if_neg (by simp [hh]), if_neg (by simp [hk0]), if_neg (by simp [hsu])]
        rw [hfin] at hret
        have hsh : (trusted b k).short := ⟨by show b.cs.length ≤ 1000; omega, by show (b.ws.set _ _).length ≤ 1000; simp; omega⟩
        refine X.skip C.1 <| Xr C rfl rfl <| R.loadAgg C rfl rfl rfl isAgg25 sizeOf25 (by repeat (first | exact Mh | apply Mt)) Tk5 <| Rm C rfl rfl <| R.callR C rfl rfl rfl rfl ((trustedR_c hJ hvv hb hkb.1 (by omega))) fun v3 ro3 hl3 hv3 => R.callR C rfl rfl rfl rfl ((agreedR_c hJ hv3 hsh)) fun v1 ro2 hl2 hp => ?_
        rcases hp with ⟨h0, rfl⟩ | ⟨h0, v2, ⟨vc2, vw2, rfl, hc2, hw2⟩, rfl⟩
        ·
          unfold noBk
          refine R.ext C rfl rfl rfl rfl <| R.ext C rfl rfl rfl rfl <| R.store C rfl rfl rfl rfl sizeOf25 rfl rfl rfl (by repeat (first | exact Uh | apply Ut)) (.here (.here (.here (.here (.here .nil))))) <| Ad C rfl rfl <| X.ret C rfl rfl func44 rfl (by exact (.agg rfl isAgg25 sizeOf25 (by repeat (first | exact Mh | apply Mt)) Tk5 (.tmp rfl .nil))) <| Hr hret (RO.le_trans hl3 hl2) ?_
          exact .inl ⟨h0, rfl⟩
        ·
          obtain ⟨cb2, cc2, rfl⟩ := hc2.form
          obtain ⟨wb2, wc2, rfl⟩ := hw2.form
          refine R.ext C rfl rfl rfl rfl <| R.ext C rfl rfl rfl rfl <| R.store C rfl rfl rfl rfl sizeOf25 rfl rfl rfl (by repeat (first | exact Uh | apply Ut)) (.here (.here (.here (.here (.here .nil))))) <| Ad C rfl rfl <| X.ret C rfl rfl func44 rfl (by exact (.agg rfl isAgg25 sizeOf25 (by repeat (first | exact Mh | apply Mt)) Tk5 (.tmp rfl .nil))) <| Hr hret (RO.le_trans hl3 hl2) ?_
          exact .inr ⟨h0, _, ⟨_, _, rfl, hc2, hw2⟩, rfl⟩
theorem swingR_c {b : Bk} {v : Value} {ro : RO} (hv : BkV ro v b) (hs : b.short) (k : Int) (x : Rc) : CallR prog J (fnv 46) [v, .int .i64 k, x.val] ro (fun y ro' => NewV ro' (swung b k x) (swingH b k x) y) := by
  have hvv := hv
  obtain ⟨vc, vw, rfl, hc, hw⟩ := hv
  obtain ⟨cb, cc, rfl⟩ := hc.form
  obtain ⟨wb, wc, rfl⟩ := hw.form
  refine CallR.intro hJ (by kernel_rfl) fun c cs tail hret => enter_X (n := 45) func46 rfl rfl (Nl rfl) ?_
  have C : Ctx prog main J (bf 46 .normal) := ⟨hJ, by decide⟩
  refine Xr C rfl rfl <| R.box C rfl rfl rfl rfl fun p3 => R.box C rfl rfl rfl rfl fun p5 => R.alloc C rfl rfl zeroValue25 rfl fun p6 => Ad C rfl rfl <| Xs C <| Xr C rfl rfl <| R.loadAgg C rfl rfl rfl isAgg25 sizeOf25 (by repeat (first | exact Mh | apply Mt)) Tk5 <| R.callP C rfl rfl rfl rfl (checkChartR_c hJ (by assumption) (by assumption)) <| Ad C rfl rfl <| Xr C rfl rfl <| Rm C rfl rfl <| R.int C rfl rfl rfl rfl b_neq <| R.done C <| X.cond C.1 rfl (fun hh => ?_) (fun hh => ?_)
  · have hh := hh
    simp at hh
    refine Xr C rfl rfl <| R.build C rfl rfl rfl zeroValue25 rfl runUnderlying25 (by kernel_rfl) .nil <| Rm C rfl rfl <| R.store C rfl rfl rfl rfl sizeOf25 rfl rfl rfl (by repeat (first | exact Uh | apply Ut)) (.here (.here (.here (.here (.here .nil))))) <| Ad C rfl rfl <| X.ret C rfl rfl func46 rfl (by exact (.agg rfl isAgg25 sizeOf25 (by repeat (first | exact Mh | apply Mt)) Tk5 (.tmp rfl .nil))) <| Hr hret (RO.le_refl _) ?_
    exact .inl ⟨by rw [swingH, if_pos hh]; exact hh, by rw [swingH, if_pos hh]; rfl⟩
  · have hh := hh
    simp at hh
    have hb := good_iff.1 hh
    have hnw := hb.nw
    have hnc := hb.nc
    have hE : swingH b k x = if b.compass k ≠ 0 then b.compass k else if (!isReach x (-3) 3) = true then 1 else if (cut (b.cs.getD k.toNat ⟨0, 0⟩) x).hi < (cut (b.cs.getD k.toNat ⟨0, 0⟩) x).lo then 9 else openH (swung b k x) 0 := by rw [swingH, if_neg (by simp [hh])]
    rw [hE] at hret
    refine X.skip C.1 <| Xs C <| Xr C rfl rfl <| R.loadAgg C rfl rfl rfl isAgg25 sizeOf25 (by repeat (first | exact Mh | apply Mt)) Tk5 <| Rm C rfl rfl <| R.callP C rfl rfl rfl rfl (isCompassR_c hJ (by assumption) (by assumption) _) <| R.not C rfl rfl rfl <| R.done C <| X.cond C.1 rfl (fun hk => ?_) (fun hk => ?_)
    · have hk := hk
      simp only [Bool.not_eq_true'] at hk
      have hk6 : b.compass k = 6 := by simp only [Bk.compass, there, hk]; rfl
      rw [hk6] at hret
      rw [if_pos (by decide)] at hret
      refine Xr C rfl rfl <| R.build C rfl rfl rfl zeroValue25 rfl runUnderlying25 (by kernel_rfl) .nil <| R.store C rfl rfl rfl rfl sizeOf25 rfl rfl rfl (by repeat (first | exact Uh | apply Ut)) (.here (.here (.here (.here (.here .nil))))) <| Ad C rfl rfl <| X.ret C rfl rfl func46 rfl (by exact (.agg rfl isAgg25 sizeOf25 (by repeat (first | exact Mh | apply Mt)) Tk5 (.tmp rfl .nil))) <| Hr hret (RO.le_refl _) ?_
      exact .inl ⟨by decide, rfl⟩
    · have hk := hk
      simp only [Bool.not_eq_false'] at hk
      have hk0 : b.compass k = 0 := there_zero.2 hk
      rw [if_neg (by simp [hk0])] at hret
      have hkb := hk
      simp only [between, Bool.and_eq_true, decide_eq_true_eq] at hkb
      have hki : k.toNat < b.cs.length := by omega
      refine X.skip C.1 <| Xs C <| Xr C rfl rfl <| R.loadAgg C rfl rfl rfl isAgg46 sizeOf46 (by repeat (first | exact Mh | apply Mt)) Tk2 <| R.callP C rfl rfl rfl rfl (insideR_c hJ _ _ _ _) <| R.not C rfl rfl rfl <| R.done C <| X.cond C.1 rfl (fun hx => ?_) (fun hx => ?_)
      · have hx := hx
        rw [if_pos hx] at hret
        refine Xr C rfl rfl <| R.build C rfl rfl rfl zeroValue25 rfl runUnderlying25 (by kernel_rfl) .nil <| R.store C rfl rfl rfl rfl sizeOf25 rfl rfl rfl (by repeat (first | exact Uh | apply Ut)) (.here (.here (.here (.here (.here .nil))))) <| Ad C rfl rfl <| X.ret C rfl rfl func46 rfl (by exact (.agg rfl isAgg25 sizeOf25 (by repeat (first | exact Mh | apply Mt)) Tk5 (.tmp rfl .nil))) <| Hr hret (RO.le_refl _) ?_
        exact .inl ⟨by decide, rfl⟩
      · have hx := hx
        rw [if_neg (by simp only [hx]; decide)] at hret
        obtain ⟨pp, off, cap, l, t, fq, hsl, hrop, hsub⟩ := hc.at Rc.len (by omega)
        cases hsl
        have hgd : b.cs[k.toNat] = b.cs.getD k.toNat ⟨0, 0⟩ := by simp [hki]
        have hs0 := hsub k.toNat hki
        rw [hgd] at hs0
        generalize hc0 : b.cs.getD k.toNat ⟨0, 0⟩ = c0 at *
        refine X.skip C.1 <| Xs C <| Xd C fun hok => Df (off' := 3) C 0 hok rfl rfl rfl runUnderlying25 rfl sizeOf22 rfl <| D1 C 1 hok rfl rfl isAgg22 (by repeat (first | exact Mh | apply Mt)) rfl <| Dm C 2 hok rfl rfl rfl <| Dp 3 hok (fun _ _ _ A h => R.indexAddr C rfl (A.w rfl rfl) (A.x rfl rfl) (A.x rfl rfl) runUnderlying22 sizeOf46 hkb.1 (by omega) h) <| Dl 4 hok (fun _ _ A h => R.loadAggRo C rfl (A.w rfl rfl) (A.x rfl rfl) isAgg46 sizeOf46 hrop hs0 h) <| D5 C 5 hok rfl rfl isAgg46 sizeOf46 (by repeat (first | exact Mh | apply Mt)) Tk2 <| D.eP2 (i := 6) (i' := 7) (dst := (some 31)) (dst' := (some 9)) [false, false, false] [true, true, true] hok rfl rfl (by kernel_rfl) (by kernel_rfl) (by kernel_rfl) (fun σr rest A hk => ?_) (fun σr rest A hk => ?_)
        ·
          refine R.callP C rfl (A.w rfl rfl) (A.x rfl rfl) (A.s rfl rfl) (overlapR_c hJ _ _ _) (hk _ _ ⟨QFs.nil, ?_⟩)
          refine De 7 (some 9) [] hok (fun σr rest A hk => ?_)
          refine R.alloc C rfl (A.w rfl rfl) zeroValue46 rfl fun p9 => hk _ _ ⟨QFs.nil, ?_⟩
          refine De 8 none [] hok (fun σr rest A hk => ?_)
          refine R.store C rfl (A.w rfl rfl) (A.x rfl rfl) (A.x rfl rfl) sizeOf46 rfl rfl rfl (by repeat (first | exact Uh | apply Ut)) (.here (.here .nil)) (hk undef _ ⟨QFs.nil, ?_⟩)
          refine D.done C hok (by kernel_rfl) <| Xs C <| Xr C rfl rfl <| Rf C 0 rfl rfl runUnderlying46 rfl sizeOf3 <| R.loadOne C rfl rfl rfl isAgg3 (by repeat (first | exact Mh | apply Mt)) rfl <| Rf C 1 rfl rfl runUnderlying46 rfl sizeOf3 <| R.loadOne C rfl rfl rfl isAgg3 (by repeat (first | exact Mh | apply Mt)) rfl <| R.int C rfl rfl rfl rfl b_gtr <| R.done C <| X.cond C.1 rfl (fun hbad => ?_) (fun hbad => ?_)
          · have hbad := hbad
            simp only [decide_eq_true_eq] at hbad
            rw [if_pos (by exact hbad)] at hret
            refine Xr C rfl rfl <| R.build C rfl rfl rfl zeroValue25 rfl runUnderlying25 (by kernel_rfl) .nil <| R.store C rfl rfl rfl rfl sizeOf25 rfl rfl rfl (by repeat (first | exact Uh | apply Ut)) (.here (.here (.here (.here (.here .nil))))) <| Ad C rfl rfl <| X.ret C rfl rfl func46 rfl (by exact (.agg rfl isAgg25 sizeOf25 (by repeat (first | exact Mh | apply Mt)) Tk5 (.tmp rfl .nil))) <| Hr hret (RO.le_refl _) ?_
            exact .inl ⟨by decide, rfl⟩
          · have hbad := hbad
            simp only [decide_eq_false_iff_not] at hbad
            rw [if_neg (by exact hbad)] at hret
            have hcut : { b with cs := b.cs.set k.toNat (cut c0 x) } = swung b k x := by rw [← hc0]; rfl
            have hsh : (swung b k x).short := ⟨by show (b.cs.set _ _).length ≤ 1000; simp; omega, by show b.ws.length ≤ 1000; omega⟩
            refine X.skip C.1 <| Xr C rfl rfl <| R.loadAgg C rfl rfl rfl isAgg25 sizeOf25 (by repeat (first | exact Mh | apply Mt)) Tk5 <| Rm C rfl rfl <| R.loadAgg C rfl rfl rfl isAgg46 sizeOf46 (by repeat (first | exact Mh | apply Mt)) Tk2 <| R.callR C rfl rfl rfl rfl ((swungR_c hJ hvv hb hkb.1 (by omega) (cut c0 x))) fun v3 ro3 hl3 hv3 => ?_
            rw [hcut] at hv3
            refine R.callR C rfl rfl rfl rfl ((agreedR_c hJ hv3 hsh)) fun v1 ro2 hl2 hp => ?_
            rcases hp with ⟨h0, rfl⟩ | ⟨h0, v2, ⟨vc2, vw2, rfl, hc2, hw2⟩, rfl⟩
            ·
              unfold noBk
              refine R.ext C rfl rfl rfl rfl <| R.ext C rfl rfl rfl rfl <| R.store C rfl rfl rfl rfl sizeOf25 rfl rfl rfl (by repeat (first | exact Uh | apply Ut)) (.here (.here (.here (.here (.here .nil))))) <| Ad C rfl rfl <| X.ret C rfl rfl func46 rfl (by exact (.agg rfl isAgg25 sizeOf25 (by repeat (first | exact Mh | apply Mt)) Tk5 (.tmp rfl .nil))) <| Hr hret (RO.le_trans hl3 hl2) ?_
              exact .inl ⟨h0, rfl⟩
            ·
              obtain ⟨cb2, cc2, rfl⟩ := hc2.form
              obtain ⟨wb2, wc2, rfl⟩ := hw2.form
              refine R.ext C rfl rfl rfl rfl <| R.ext C rfl rfl rfl rfl <| R.store C rfl rfl rfl rfl sizeOf25 rfl rfl rfl (by repeat (first | exact Uh | apply Ut)) (.here (.here (.here (.here (.here .nil))))) <| Ad C rfl rfl <| X.ret C rfl rfl func46 rfl (by exact (.agg rfl isAgg25 sizeOf25 (by repeat (first | exact Mh | apply Mt)) Tk5 (.tmp rfl .nil))) <| Hr hret (RO.le_trans hl3 hl2) ?_
              exact .inr ⟨h0, _, ⟨_, _, rfl, hc2, hw2⟩, rfl⟩
        ·
          refine R.alloc C rfl (A.w rfl rfl) zeroValue46 rfl fun p9 => hk _ _ ⟨(QFs.cons (QF.of rfl (fun _ _ A h => R.loadAgg C rfl (A.w rfl rfl) (A.x rfl rfl) isAgg46 sizeOf46 (by repeat (first | exact Mh | apply Mt)) Tk2 h)) (QFs.cons (QF.of rfl (fun _ _ A h => R.loadAggRo C rfl (A.w rfl rfl) (A.x rfl rfl) isAgg46 sizeOf46 hrop hs0 h)) (QFs.cons (QF.of rfl (fun _ _ A h => R.loadOne C rfl (A.w rfl rfl) (A.x rfl rfl) isAgg22 (by repeat (first | exact Mh | apply Mt)) rfl h)) QFs.nil))), ?_⟩
          refine De 6 (some 31) [false, false, false] hok (fun σr rest A hk => ?_)
          refine R.callP C rfl (A.w rfl rfl) (A.x rfl rfl) (A.s rfl rfl) (overlapR_c hJ _ _ _) (hk _ _ ⟨QFs.nil, ?_⟩)
          refine De 8 none [] hok (fun σr rest A hk => ?_)
          refine R.store C rfl (A.w rfl rfl) (A.x rfl rfl) (A.x rfl rfl) sizeOf46 rfl rfl rfl (by repeat (first | exact Uh | apply Ut)) (.here (.here .nil)) (hk undef _ ⟨QFs.nil, ?_⟩)
          refine D.done C hok (by kernel_rfl) <| Xs C <| Xr C rfl rfl <| Rf C 0 rfl rfl runUnderlying46 rfl sizeOf3 <| R.loadOne C rfl rfl rfl isAgg3 (by repeat (first | exact Mh | apply Mt)) rfl <| Rf C 1 rfl rfl runUnderlying46 rfl sizeOf3 <| R.loadOne C rfl rfl rfl isAgg3 (by repeat (first | exact Mh | apply Mt)) rfl <| R.int C rfl rfl rfl rfl b_gtr <| R.done C <| X.cond C.1 rfl (fun hbad => ?_) (fun hbad => ?_)
          · have hbad := hbad
            simp only [decide_eq_true_eq] at hbad
            rw [if_pos (by exact hbad)] at hret
            refine Xr C rfl rfl <| R.build C rfl rfl rfl zeroValue25 rfl runUnderlying25 (by kernel_rfl) .nil <| R.store C rfl rfl rfl rfl sizeOf25 rfl rfl rfl (by repeat (first | exact Uh | apply Ut)) (.here (.here (.here (.here (.here .nil))))) <| Ad C rfl rfl <| X.ret C rfl rfl func46 rfl (by exact (.agg rfl isAgg25 sizeOf25 (by repeat (first | exact Mh | apply Mt)) Tk5 (.tmp rfl .nil))) <| Hr hret (RO.le_refl _) ?_
            exact .inl ⟨by decide, rfl⟩
          · have hbad := hbad
            simp only [decide_eq_false_iff_not] at hbad
            rw [if_neg (by exact hbad)] at hret
            have hcut : { b with cs := b.cs.set k.toNat (cut c0 x) } = swung b k x := by rw [← hc0]; rfl
            have hsh : (swung b k x).short := ⟨by show (b.cs.set _ _).length ≤ 1000; simp; omega, by show b.ws.length ≤ 1000; omega⟩
            refine X.skip C.1 <| Xr C rfl rfl <| R.loadAgg C rfl rfl rfl isAgg25 sizeOf25 (by repeat (first | exact Mh | apply Mt)) Tk5 <| Rm C rfl rfl <| R.loadAgg C rfl rfl rfl isAgg46 sizeOf46 (by repeat (first | exact Mh | apply Mt)) Tk2 <| R.callR C rfl rfl rfl rfl ((swungR_c hJ hvv hb hkb.1 (by omega) (cut c0 x))) fun v3 ro3 hl3 hv3 => ?_
            rw [hcut] at hv3
            refine R.callR C rfl rfl rfl rfl ((agreedR_c hJ hv3 hsh)) fun v1 ro2 hl2 hp => ?_
            rcases hp with ⟨h0, rfl⟩ | ⟨h0, v2, ⟨vc2, vw2, rfl, hc2, hw2⟩, rfl⟩
            ·
              unfold noBk
              refine R.ext C rfl rfl rfl rfl <| R.ext C rfl rfl rfl rfl <| R.store C rfl rfl rfl rfl sizeOf25 rfl rfl rfl (by repeat (first | exact Uh | apply Ut)) (.here (.here (.here (.here (.here .nil))))) <| Ad C rfl rfl <| X.ret C rfl rfl func46 rfl (by exact (.agg rfl isAgg25 sizeOf25 (by repeat (first | exact Mh | apply Mt)) Tk5 (.tmp rfl .nil))) <| Hr hret (RO.le_trans hl3 hl2) ?_
              exact .inl ⟨h0, rfl⟩
            ·
              obtain ⟨cb2, cc2, rfl⟩ := hc2.form
              obtain ⟨wb2, wc2, rfl⟩ := hw2.form
              refine R.ext C rfl rfl rfl rfl <| R.ext C rfl rfl rfl rfl <| R.store C rfl rfl rfl rfl sizeOf25 rfl rfl rfl (by repeat (first | exact Uh | apply Ut)) (.here (.here (.here (.here (.here .nil))))) <| Ad C rfl rfl <| X.ret C rfl rfl func46 rfl (by exact (.agg rfl isAgg25 sizeOf25 (by repeat (first | exact Mh | apply Mt)) Tk5 (.tmp rfl .nil))) <| Hr hret (RO.le_trans hl3 hl2) ?_
              exact .inr ⟨h0, _, ⟨_, _, rfl, hc2, hw2⟩, rfl⟩
end
end Go.Lg.B
namespace Go.Lg.B
open Go Go.Conc Go.Lg Go.Proofs Go.Proofs.Tryz
def nob : Bk := ⟨0, 0, 0, [], []⟩
theorem NewV.both {ro : RO} {b : Bk} {h : Int} {w : Value} (hw : NewV ro b h w) (hs : b.short) : ∃ v b', BkV ro v b' ∧ b'.short ∧ b' = (if h = 0 then b else nob) ∧ w = .tuple [v, .int .i64 h].toArray := by
  rcases hw with ⟨h0, rfl⟩ | ⟨rfl, v, hv, rfl⟩
  · exact ⟨noBk, nob, ⟨_, _, rfl, Ls.nil, Ls.nil⟩, ⟨Nat.zero_le _, Nat.zero_le _⟩, by rw [if_neg h0], rfl⟩
  · exact ⟨v, b, hv, hs, by rw [if_pos rfl], rfl⟩
theorem news_root {b : Bk} {vb : Value} (w : Wt) (i k : Int) (x : Rc) {ro : RO} (he : Env ro) (hv : BkV ro vb b) : Root prog 5 [vb, w.val, .int .i64 i, .int .i64 k, x.val] ro (fun w _ => w = .bool true) := by
  intro Post hret
  have hJ : Closed prog true (JM prog (Go.Conc.Good prog Post)) := JM.closed
  have hvv := hv
  obtain ⟨vc, vw, rfl, hc, hw⟩ := hv
  obtain ⟨cb, cc, rfl⟩ := hc.form
  obtain ⟨wb, wc, rfl⟩ := hw.form
  let main := true
  let J := JM prog (Go.Conc.Good prog Post)
  refine enter_X (n := 85) func5 rfl rfl (Nl rfl) ?_
  have C : Ctx prog main J (bf 5 .normal) := ⟨hJ, by decide⟩
  refine Xr C rfl rfl <| R.box C rfl rfl rfl rfl fun p5 => R.box C rfl rfl rfl rfl fun p6 => R.box C rfl rfl rfl rfl fun p9 => Ad C rfl rfl <| Xs C <| Xr C rfl rfl <| R.loadAgg C rfl rfl rfl isAgg25 sizeOf25 (by repeat (first | exact Mh | apply Mt)) Tk5 <| R.callP C rfl rfl rfl rfl (greatR_c hJ (by assumption)) <| R.done C <| X.cond C.1 rfl (fun hfit => ?_) (fun hfit => ?_)
  · have hfit := hfit
    refine Xr C rfl rfl <| R.callR C rfl rfl rfl rfl ((found_c _ he)) fun v9 ro9 hl9 hq9 => Ad C rfl rfl <| X.ret0 C (by kernel_rfl) rfl rfl func5 rfl (by exact (.tmp rfl .nil)) fun w9 hs9 => hret _ _ _ hl9 ?_ w9 hs9
    exact hq9
  · have hfit := hfit
    simp at hfit
    have hsh : b.short := ⟨by omega, by omega⟩
    have hsh1 : (heard b w).short := ⟨by show b.cs.length ≤ 1000; omega, by show (b.ws ++ [w]).length ≤ 1000; simp; omega⟩
    have hsh2 : (trusted b i).short := ⟨by show b.cs.length ≤ 1000; omega, by show (b.ws.set _ _).length ≤ 1000; simp; omega⟩
    have hsh3 : (swung b k x).short := ⟨by show (b.cs.set _ _).length ≤ 1000; simp; omega, by show b.ws.length ≤ 1000; omega⟩
    refine X.skip C.1 <| Xr C rfl rfl <| R.loadAgg C rfl rfl rfl isAgg25 sizeOf25 (by repeat (first | exact Mh | apply Mt)) Tk5 <| R.loadAgg C rfl rfl rfl isAgg58 sizeOf58 (by repeat (first | exact Mh | apply Mt)) Tk5 <| R.callR C rfl rfl rfl rfl ((hear_c hJ he hvv hsh w)) fun w1 ro1 hl1 hp1 => Rm C rfl rfl ?_
    obtain ⟨v1, b1, hv1, hs1, hb1, rfl⟩ := hp1.both hsh1
    have hvv1 := hv1
    obtain ⟨vc1, vw1, rfl, hc1, hw1⟩ := hv1
    obtain ⟨cb1, cc1, rfl⟩ := hc1.form
    obtain ⟨wb1, wc1, rfl⟩ := hw1.form
    have hL := hl1
    refine R.ext C rfl rfl rfl rfl <| R.ext C rfl rfl rfl rfl <| R.alloc C rfl rfl zeroValue25 rfl fun p11 => R.store C rfl rfl rfl rfl sizeOf25 rfl rfl rfl (by repeat (first | exact Uh | apply Ut)) (.here (.here (.here (.here (.here .nil))))) <| Ad C rfl rfl <| Xr C rfl rfl <| R.loadAgg C rfl rfl rfl isAgg25 sizeOf25 (by repeat (first | exact Mh | apply Mt)) Tk5 <| R.loadAgg C rfl rfl rfl isAgg58 sizeOf58 (by repeat (first | exact Mh | apply Mt)) Tk5 <| R.callR C rfl rfl rfl rfl ((hearR_c hJ (hvv.mono hL) hsh w)) fun w2 ro2 hl2 hp2 => Rm C rfl rfl ?_
    obtain ⟨v2, b2, hv2, hs2, hb2, rfl⟩ := hp2.both hsh1
    have hvv2 := hv2
    obtain ⟨vc2, vw2, rfl, hc2, hw2⟩ := hv2
    obtain ⟨cb2, cc2, rfl⟩ := hc2.form
    obtain ⟨wb2, wc2, rfl⟩ := hw2.form
    replace hL := RO.le_trans hL hl2
    have hx1 := hvv1.mono hl2
    subst hb1
    subst hb2
    refine R.ext C rfl rfl rfl rfl <| R.ext C rfl rfl rfl rfl <| R.alloc C rfl rfl zeroValue25 rfl fun p13 => R.store C rfl rfl rfl rfl sizeOf25 rfl rfl rfl (by repeat (first | exact Uh | apply Ut)) (.here (.here (.here (.here (.here .nil))))) <| Ad C rfl rfl <| Xs C <| Xr C rfl rfl <| R.loadAgg C rfl rfl rfl isAgg25 sizeOf25 (by repeat (first | exact Mh | apply Mt)) Tk5 <| R.loadAgg C rfl rfl rfl isAgg25 sizeOf25 (by repeat (first | exact Mh | apply Mt)) Tk5 <| R.callP C rfl rfl rfl rfl ((sameR_c hJ hx1 hvv2 rfl hs1)) <| R.not C rfl rfl rfl <| Rm C rfl rfl <| R.fixv (t := 34) (v' := .bool false) rfl (by rfl) <| Rm C rfl rfl <| Rm C rfl rfl <| R.int C rfl rfl rfl rfl b_neq <| R.fixv (t := 37) (v' := .bool false) rfl (by (exact congrArg Value.bool (by simp))) <| R.pickF C rfl rfl rfl rfl <| R.done C <| X.cond C.1 rfl (fun h => nomatch h) (fun _ => ?_)
    refine X.skip C.1 <| Xr C rfl rfl <| R.loadAgg C rfl rfl rfl isAgg25 sizeOf25 (by repeat (first | exact Mh | apply Mt)) Tk5 <| Rm C rfl rfl <| R.callR C rfl rfl rfl rfl ((trust_c hJ (he.mono hL) (hvv.mono hL) hsh i)) fun w3 ro3 hl3 hp3 => Rm C rfl rfl ?_
    obtain ⟨v3, b3, hv3, hs3, hb3, rfl⟩ := hp3.both hsh2
    have hvv3 := hv3
    obtain ⟨vc3, vw3, rfl, hc3, hw3⟩ := hv3
    obtain ⟨cb3, cc3, rfl⟩ := hc3.form
    obtain ⟨wb3, wc3, rfl⟩ := hw3.form
    replace hL := RO.le_trans hL hl3
    refine R.ext C rfl rfl rfl rfl <| R.ext C rfl rfl rfl rfl <| R.store C rfl rfl rfl rfl sizeOf25 rfl rfl rfl (by repeat (first | exact Uh | apply Ut)) (.here (.here (.here (.here (.here .nil))))) <| Ad C rfl rfl <| Xr C rfl rfl <| R.loadAgg C rfl rfl rfl isAgg25 sizeOf25 (by repeat (first | exact Mh | apply Mt)) Tk5 <| Rm C rfl rfl <| R.callR C rfl rfl rfl rfl ((trustR_c hJ (hvv.mono hL) hsh i)) fun w4 ro4 hl4 hp4 => Rm C rfl rfl ?_
    obtain ⟨v4, b4, hv4, hs4, hb4, rfl⟩ := hp4.both hsh2
    have hvv4 := hv4
    obtain ⟨vc4, vw4, rfl, hc4, hw4⟩ := hv4
    obtain ⟨cb4, cc4, rfl⟩ := hc4.form
    obtain ⟨wb4, wc4, rfl⟩ := hw4.form
    replace hL := RO.le_trans hL hl4
    have hx3 := hvv3.mono hl4
    subst hb3
    subst hb4
    refine R.ext C rfl rfl rfl rfl <| R.ext C rfl rfl rfl rfl <| R.store C rfl rfl rfl rfl sizeOf25 rfl rfl rfl (by repeat (first | exact Uh | apply Ut)) (.here (.here (.here (.here (.here .nil))))) <| Ad C rfl rfl <| Xs C <| Xr C rfl rfl <| R.loadAgg C rfl rfl rfl isAgg25 sizeOf25 (by repeat (first | exact Mh | apply Mt)) Tk5 <| R.loadAgg C rfl rfl rfl isAgg25 sizeOf25 (by repeat (first | exact Mh | apply Mt)) Tk5 <| R.callP C rfl rfl rfl rfl ((sameR_c hJ hx3 hvv4 rfl hs3)) <| R.not C rfl rfl rfl <| Rm C rfl rfl <| R.fixv (t := 55) (v' := .bool false) rfl (by rfl) <| Rm C rfl rfl <| Rm C rfl rfl <| R.int C rfl rfl rfl rfl b_neq <| R.fixv (t := 58) (v' := .bool false) rfl (by (exact congrArg Value.bool (by simp))) <| R.pickF C rfl rfl rfl rfl <| R.done C <| X.cond C.1 rfl (fun h => nomatch h) (fun _ => ?_)
    refine X.skip C.1 <| Xr C rfl rfl <| R.loadAgg C rfl rfl rfl isAgg25 sizeOf25 (by repeat (first | exact Mh | apply Mt)) Tk5 <| Rm C rfl rfl <| R.loadAgg C rfl rfl rfl isAgg46 sizeOf46 (by repeat (first | exact Mh | apply Mt)) Tk2 <| R.callR C rfl rfl rfl rfl ((swing_c hJ (he.mono hL) (hvv.mono hL) hsh k x)) fun w5 ro5 hl5 hp5 => Rm C rfl rfl ?_
    obtain ⟨v5, b5, hv5, hs5, hb5, rfl⟩ := hp5.both hsh3
    have hvv5 := hv5
    obtain ⟨vc5, vw5, rfl, hc5, hw5⟩ := hv5
    obtain ⟨cb5, cc5, rfl⟩ := hc5.form
    obtain ⟨wb5, wc5, rfl⟩ := hw5.form
    replace hL := RO.le_trans hL hl5
    refine R.ext C rfl rfl rfl rfl <| R.ext C rfl rfl rfl rfl <| R.store C rfl rfl rfl rfl sizeOf25 rfl rfl rfl (by repeat (first | exact Uh | apply Ut)) (.here (.here (.here (.here (.here .nil))))) <| Ad C rfl rfl <| Xr C rfl rfl <| R.loadAgg C rfl rfl rfl isAgg25 sizeOf25 (by repeat (first | exact Mh | apply Mt)) Tk5 <| Rm C rfl rfl <| R.loadAgg C rfl rfl rfl isAgg46 sizeOf46 (by repeat (first | exact Mh | apply Mt)) Tk2 <| R.callR C rfl rfl rfl rfl ((swingR_c hJ (hvv.mono hL) hsh k x)) fun w6 ro6 hl6 hp6 => Rm C rfl rfl ?_
    obtain ⟨v6, b6, hv6, hs6, hb6, rfl⟩ := hp6.both hsh3
    have hvv6 := hv6
    obtain ⟨vc6, vw6, rfl, hc6, hw6⟩ := hv6
    obtain ⟨cb6, cc6, rfl⟩ := hc6.form
    obtain ⟨wb6, wc6, rfl⟩ := hw6.form
    replace hL := RO.le_trans hL hl6
    have hx5 := hvv5.mono hl6
    subst hb5
    subst hb6
    refine R.ext C rfl rfl rfl rfl <| R.ext C rfl rfl rfl rfl <| R.store C rfl rfl rfl rfl sizeOf25 rfl rfl rfl (by repeat (first | exact Uh | apply Ut)) (.here (.here (.here (.here (.here .nil))))) <| Ad C rfl rfl <| Xr C rfl rfl <| R.loadAgg C rfl rfl rfl isAgg25 sizeOf25 (by repeat (first | exact Mh | apply Mt)) Tk5 <| R.loadAgg C rfl rfl rfl isAgg25 sizeOf25 (by repeat (first | exact Mh | apply Mt)) Tk5 <| R.callP C rfl rfl rfl rfl ((sameR_c hJ hx5 hvv6 rfl hs5)) <| Rm C rfl rfl <| R.fixv (t := 77) (v' := .bool true) rfl (by rfl) <| Rm C rfl rfl <| Rm C rfl rfl <| R.int C rfl rfl rfl rfl b_eql <| R.fixv (t := 80) (v' := .bool true) rfl (by (exact congrArg Value.bool (by simp))) <| R.pickT C rfl rfl rfl rfl <| Rm C rfl rfl <| R.fixv (t := 82) (v' := .bool true) rfl (by rfl) <| R.callR C rfl rfl rfl rfl ((found_c _ (he.mono hL))) fun v9 ro9 hl9 hq9 => R.pickT C rfl rfl rfl rfl <| Ad C rfl rfl <| X.ret0 C (by kernel_rfl) rfl rfl func5 rfl (by exact (.tmp rfl .nil)) fun w9 hs9 => hret _ _ _ (RO.le_trans hL hl9) ?_ w9 hs9
    exact hq9
end Go.Lg.B
namespace Go.Lg.B
open Go Go.Proofs Go.Proofs.YtlkmnfdipiielaaGreatDoor Go.Proofs.Tryz
set_option maxRecDepth 100000
theorem news_k1 : (Rows.bearingNewsRow.inPlace == prog.inPlace 5) = true := by kernel_rfl
theorem news_k2 : (Rows.bearingNewsRow.unfollowed == prog.unfollowed 5) = true := by kernel_rfl
theorem news_k3 : (Rows.bearingNewsRow.recurses == prog.recurses 5) = true := by kernel_rfl
theorem news_k4 : (Rows.bearingNewsRow.named == prog.varsNamed 5) = true := by kernel_rfl
theorem news_name : prog.funcNamed "lagan/laganlaw01.BearingNews" = some 5 := by kernel_rfl
theorem news_goes : true = Rows.bearingNewsRow.goesBy prog := by kernel_rfl
theorem news_wf : Rows.bearingNewsRow.wfByText (OpenSpec.ofChange Rows.bearingNewsSpec) = true := by kernel_rfl
theorem news_facts : joinedFacts prog 5 Tryz.f5 Rows.bearingNewsSpec Rows.bearingNewsRow = true := by
  unfold joinedFacts
  exact (and_mk (and_mk (and_mk (and_mk (and_mk (and_mk (and_mk (and_mk (and_mk (and_mk (and_mk (and_mk (and_mk (and_mk (and_mk (and_mk (and_mk (and_mk (and_mk (and_mk (and_mk (and_mk (and_mk (and_mk (and_mk (and_mk (and_mk (and_mk (and_mk (and_mk (and_mk (by as_aux_lemma => kernel_rfl)
    k_lo)
    k_mr)
    (by as_aux_lemma => kernel_rfl))
    (by as_aux_lemma => kernel_rfl))
    (by as_aux_lemma => kernel_rfl))
    k_stops)
    (by as_aux_lemma => kernel_rfl))
    k_knobs)
    news_k1)
    news_k2)
    news_k3)
    news_k4)
    (by as_aux_lemma => kernel_rfl))
    (by as_aux_lemma => kernel_rfl))
    (by as_aux_lemma => kernel_rfl))
    (by as_aux_lemma => kernel_rfl))
    (by as_aux_lemma => kernel_rfl))
    (by as_aux_lemma => kernel_rfl))
    (by as_aux_lemma => kernel_rfl))
    (by as_aux_lemma => kernel_rfl))
    (by as_aux_lemma => kernel_rfl))
    (beq_iff_eq.2 k_pk.symm))
    (by as_aux_lemma => kernel_rfl))
    k_heard)
    k_may)
    (beq_iff_eq.2 k_lift.symm))
    (beq_iff_eq.2 k_make))
    (by as_aux_lemma => kernel_rfl))
    (by as_aux_lemma => kernel_rfl))
    (by as_aux_lemma => kernel_rfl))
    (by as_aux_lemma => kernel_rfl))
end Go.Lg.B
namespace Go.Proofs.YtlkmnfdipiielaaGreatDoor
open Go Go.Conc Go.Lg Go.Lg.B Go.ChangeShapes Go.RowKit Go.WideShapes
set_option maxRecDepth 100000
theorem news_lifted (os : Os) (started : os.Started) (H : Type) (enc : TypeId × Value → H) :
    ReturnsInLeavingWide {} Tryz.checked os 5 .any (fun w args => (Rows.bearingNewsSpec.pre enc Tryz.prog Tryz.f5 [] false w args ∧ laidMetH Tryz.prog laid1 w) ∧ sizedMet enc Tryz.prog Tryz.f5 (OpenSpec.ofChange Rows.bearingNewsSpec) false w args)
      (Rows.bearingNewsSpec.post enc Tryz.prog Tryz.f5 false true false false) := by
  refine leaving_of_root (C := Tryz.checked) (tb := 4) (X := fun w _ => laidMetH Tryz.prog laid1 w) (fun _ _ _ hh h => h.of_heap hh) own0 started Tryz.func5 laid0 (by
      intro t ht
      rw [Tryz.params5] at ht
      have hm : t ∈ [25, 58, 3, 3, 46] := ht
      have hall : ([25, 58, 3, 3, 46].all fun u => Tryz.prog.readableRec u && decide (u < Tryz.prog.types.size)) = true := by kernel_rfl
      have := List.all_eq_true.1 hall t hm
      rw [Bool.and_eq_true, decide_eq_true_eq] at this
      exact this) rfl (by kernel_rfl) Tryz.underlying4
    (ChangeSpec.witness_shaped (enc := enc) (C := Tryz.checked) (os := os) (X := fun w _ => laidMetH Tryz.prog laid1 w) false (World.doorLaid Tryz.prog 89 os) #[.agg #[.int .i64 0, .int .i64 0, .int .i64 0, .slice none 0 0, .slice none 0 0], .agg #[.int .i64 0, .int .i64 0, .int .i64 0, .int .i64 0, .bool false], .int .i64 0, .int .i64 0, .agg #[.int .i64 0, .int .i64 0]] 8 rfl (door_shaped os _) (by kernel_rfl) (by kernel_rfl) (by kernel_rfl) (door_met os _)) ?_
  intro W base args ds gs before hval hW _ _ hL
  obtain ⟨p, q, hA, hV, rfl, _, _⟩ := hW
  obtain ⟨rfl, rfl⟩ := trodVars_none hV
  have hA : DataW.TrodAll enc Tryz.prog W 0 (fun _ => true) true Tryz.f5.params.toList args.toList ds p := hA
  have hval : ∀ (j : Nat) t v, Tryz.f5.params[j]? = some t → args[j]? = some v → Value.okWide Tryz.prog W .any base t v := hval
  rw [Tryz.params5] at hA hval
  obtain ⟨v1, l1, d1, k1, p1, q1, e1, rfl, rfl, h1, hA⟩ := trodAll_cons hA
  obtain ⟨v2, l2, d2, k2, p2, q2, rfl, rfl, rfl, h2, hA⟩ := trodAll_cons hA
  obtain ⟨v3, l3, d3, k3, p3, q3, rfl, rfl, rfl, h3, hA⟩ := trodAll_cons hA
  obtain ⟨v4, l4, d4, k4, p4, q4, rfl, rfl, rfl, h4, hA⟩ := trodAll_cons hA
  obtain ⟨v5, l5, d5, k5, p5, q5, rfl, rfl, rfl, h5, hA⟩ := trodAll_cons hA
  obtain ⟨rfl, rfl, rfl⟩ := trodAll_nil hA
  have ea : args = #[v1, v2, v3, v4, v5] := Array.toList_inj.1 e1
  subst ea
  obtain ⟨b, b1⟩ := argBk (hval 0 25 v1 rfl rfl) h1
  obtain ⟨w, rfl⟩ := argWt (hval 1 58 v2 rfl rfl) h2
  obtain ⟨i, rfl, _, _⟩ := argInt (hval 2 3 v3 rfl rfl) h3
  obtain ⟨k, rfl, _, _⟩ := argInt (hval 3 3 v4 rfl rfl) h4
  obtain ⟨x, rfl⟩ := argRc (hval 4 46 v5 rfl rfl) h5
  exact ⟨rfl, news_root w i k x (env_of_laid hL) b1⟩
theorem news_row : Rows.BearingNewsSaid :=
  OpenClaim.holds_of_wide_leaving 5 Tryz.f5 rfl rfl rfl rfl rfl rfl rfl ⟨rfl, rfl, rfl, rfl, rfl⟩ rfl rfl rfl rfl rfl news_name Tryz.func5 news_facts
    (of_decide_eq_true (by kernel_rfl)) (by unfold Func.isWrapper; first | (rw [if_pos (by decide +kernel)]; kernel_rfl) | (rw [if_neg (by decide +kernel)]; exact ⟨rfl, rfl⟩))
    (fun os started H enc _ => news_lifted os started H enc)
theorem news_holds : Rows.BearingNewsCardSaid :=
  card_goes .later [.funcs] true (true, "6da441031df1273c87b994104071112c0d6d76e328f9edd428a3df0ab3bd48e1") true
    news_row news_wf bearingNews_row_tie rfl ⟨rfl, rfl⟩ k_main rfl
    (fun f fn hf hfn => by
      obtain rfl : f = 5 := Option.some.inj (news_name.symm.trans hf) |>.symm
      obtain rfl : fn = Tryz.f5 := (Option.some.inj (Tryz.func5.symm.trans hfn)).symm
      exact ⟨k_looks, fun j t ht => by
        rw [Tryz.params5] at ht
        have hm : t ∈ [25, 58, 3, 3, 46] := by simpa using Array.mem_of_getElem? ht
        have hall : ([25, 58, 3, 3, 46].all fun u => !Tryz.prog.wantsStandIn u) = true := by kernel_rfl
        exact (show Tryz.prog.wantsStandIn t = false by simpa using List.all_eq_true.1 hall t hm)⟩)
    news_goes
end Go.Proofs.YtlkmnfdipiielaaGreatDoor
