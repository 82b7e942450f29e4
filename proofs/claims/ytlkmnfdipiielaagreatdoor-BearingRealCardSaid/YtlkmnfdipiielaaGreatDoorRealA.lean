/-
  It is proved that the given function answers true for every input, whatever is scheduled: the statement Real of the seat. Conditions: none but those of the given statement itself.
-/
import Derived.Test.YtlkmnfdipiielaaGreatDoorKE
import Derived.ChangeArms
import Derived.WideShapes
import Derived.ChangeShapes
import Derived.Conc.Holds
set_option maxRecDepth 100000
set_option linter.all false
set_option linter.unusedVariables false
set_option linter.unusedSimpArgs false
set_option linter.unusedSectionVars false
namespace Go.Lg
open Go Go.Conc
section
variable {P : Program} {main : Bool} {J : Goroutine → Mem → Prop} {b : Frame} (C : Ctx P main J b) {cs : List Frame} {n : Nat} {ds : List Deferred} {σ : Slots} {ro : RO} {own : List (Nat × Obj)} {k : List Item} {ops : Array Oper} {i : Nat} {rest : List Nat}
  {dst : Option Nat} {ty : TypeId} {pos : String} {af : Array Edge} {g : Option (Nat × Bool)}
include C
end
end Go.Lg
namespace Go.Lg.B
open Go Go.Conc Go.Lg Go.Proofs Go.Proofs.Tryz
theorem compact_len (l : List Int) : ∀ i, (compactL (l.take i)).length ≤ i
  | 0 => by simp [compactL]
  | i + 1 => by
    by_cases h : i < l.length
    · rw [compact_take h]
      have := compact_len l i
      unfold cstep; split <;> simp <;> omega
    · rw [List.take_of_length_le (by omega)]
      have := compact_len l i
      rw [List.take_of_length_le (by omega)] at this
      omega
variable {main : Bool} {J : Goroutine → Mem → Prop} (hJ : Closed prog main J)
include hJ
end Go.Lg.B
namespace Go.Lg
open Go Go.Conc
theorem R.eqBool {P : Program} {main : Bool} {J : Goroutine → Mem → Prop} {b : Frame} (C : Ctx P main J b) {cs : List Frame} {n : Nat} {ds : List Deferred} {σ : Slots} {k : List Item} {ops : Array Oper} {i : Nat} {rest : List Nat} {d : Nat} {ty : TypeId} {pos : String} {af : Array Edge} {g : Option (Nat × Bool)}
    {t t' : TypeId} {x y : Operand} {p q : Bool} {M : Mem} (ho : ops[i]? = some ⟨some d, .binOp .eql t x y t', ty, pos, af, g⟩) (hg : wantedS ops σ ⟨some d, .binOp .eql t x y t', ty, pos, af, g⟩ = some true)
    (hx : ev σ x = some (.bool p)) (hy : ev σ y = some (.bool q)) (hu : ∀ w, Sem.run P (Go.underlying t) w = .ok .bool w)
    (h : R J b cs n ops rest k ds ((d, .bool (p == q)) :: σ) M) : R J b cs n ops (i :: rest) k ds σ M :=
  R.v C ho hg rfl (fun a ha K hk => by
    unfold execOp
    simp only [ha.ev hx, ha.ev hy]
    refine ex_v (Sm.bind ?_)
    unfold eqGuard
    refine Sm.pure ?_
    show Sm P M (binOp .eql t (.bool p) (.bool q)) _
    unfold binOp
    simp only
    refine Sm.bind ?_
    unfold Op.equal Op.equalIn
    refine Sm.bind (Sm.underlying hu ?_)
    exact Sm.pure (Sm.pure hk)) h
end Go.Lg
namespace Go.Lg.B
open Go Go.Conc Go.Lg Go.Proofs Go.Proofs.Tryz
section
variable {main : Bool} {J : Goroutine → Mem → Prop} (hJ : Closed prog main J)
include hJ
end
end Go.Lg.B
namespace Go.Lg
open Go
abbrev roOf (W : World) : RO := fun b => W.heap[b]?
theorem Sub.of_get {off n : Nat} {l out : List Value} (hn : off + n ≤ l.length) (ho : out.length = n) (h : ∀ i, i < n → l[off + i]? = out[i]?) : Sub off n l out := by
  have e : out = (l.drop off).take n := by
    refine List.ext_getElem? fun i => ?_
    by_cases hi : i < n
    · rw [← h i hi, List.getElem?_take_of_lt hi, List.getElem?_drop]
    · rw [List.getElem?_eq_none (by omega), List.getElem?_eq_none (by simp; omega)]
  rw [e]; exact Sub.of hn
theorem cell_block {W : World} {a : Addr} {v : Value} (h : W.cell? a = some v) : a.spot = none ∧ ∃ l t fq, W.heap[a.block]? = some (.cells l t fq) ∧ l[a.off]? = some v := by
  unfold World.cell? at h
  split at h
  · rename_i c t fq hc
    split at h
    · cases h
    · rename_i hs
      exact ⟨by simpa using hs, c, t, fq, hc, h⟩
  · cases h
theorem cells_get {W : World} {base : Nat} {a : Addr} {n : Nat} {l : List Value} (h : W.cells? base a n = some l) : l.length = n ∧ ∀ i, i < n → W.cell? (a.add i) = l[i]? := by
  unfold World.cells? at h
  split at h
  · refine ⟨by simpa using mapM_some_length h, fun i hi => mapM_some_get h i i (by simp [hi])⟩
  · cases h
theorem add_add (a : Addr) (i j : Nat) : (a.add i).add j = a.add (i + j) := by
  by_cases h1 : i = 0 <;> by_cases h2 : j = 0 <;> simp [Addr.add, h1, h2] <;> omega
theorem add_none {a : Addr} (h : a.spot = none) (i : Nat) : a.add i = ⟨a.block, a.off + i, none⟩ := by
  obtain ⟨b, o, s⟩ := a
  subst h
  by_cases h1 : i = 0 <;> simp [Addr.add, h1]
section
variable {H : Type} {enc0 : TypeId × Value → H} {P : Program} {W : World} {base : Nat} {sp : Nat → Bool} {held : Bool}
theorem ls_of_trod {α : Type} {enc : α → List Value} {k : Nat} {t e : TypeId} {fuel : Nat} {cs : List Value} {x : DataW H × List MemPlace} (ht : P.underlying t = some (.slice e)) (hc : P.cellsOf e = k) (hk : 0 < k) (hlen : ∀ x, (enc x).length = k)
    (hel : ∀ n cs z, DataW.trod enc0 P W base sp held n e cs = some z → ∃ y, cs = enc y) (h : DataW.trod enc0 P W base sp held fuel t cs = some x) : ∃ v xs, cs = [v] ∧ Ls enc k (roOf W) v xs := by
  subst hc
  rcases DataW.trod_slice ht h with ⟨rfl, _⟩ | ⟨a, len, cap, elems, rest, n, _, rfl, _, hb, hl, _, hlen2, hel2, _⟩
  · exact ⟨_, [], rfl, .nil⟩
  · have one : ∀ i, i < len → ∃ y : α, W.cells? base (a.add (i * P.cellsOf e)) (P.cellsOf e) = some (enc y) := fun i hi => by
      have h1 := hel2 i hi
      rw [List.getElem?_eq_getElem (by omega)] at h1
      obtain ⟨l, h2, h3⟩ := Option.bind_eq_some_iff.1 h1
      obtain ⟨y, rfl⟩ := hel _ _ _ h3
      exact ⟨y, h2⟩
    have all : ∀ m, m ≤ len → ∃ ys : List α, ys.length = m ∧ ∀ j, j < m * P.cellsOf e → W.cell? (a.add j) = (ys.flatMap enc)[j]? := by
      intro m
      induction m with
      | zero => exact fun _ => ⟨[], rfl, fun j hj => by omega⟩
      | succ m ih =>
        intro hm
        obtain ⟨ys, h1, h2⟩ := ih (by omega)
        obtain ⟨y, hy⟩ := one m (by omega)
        refine ⟨ys ++ [y], by simp [h1], fun j hj => ?_⟩
        have hfl : (ys.flatMap enc).length = m * P.cellsOf e := by rw [flatMap_len hlen, h1]
        rw [List.flatMap_append]
        by_cases hjm : j < m * P.cellsOf e
        · rw [List.getElem?_append_left (by omega)]; exact h2 j hjm
        · rw [List.getElem?_append_right (by omega), hfl]
          have := (cells_get hy).2 (j - m * P.cellsOf e) (by rw [Nat.succ_mul] at hj; omega)
          simp only [List.flatMap_cons, List.flatMap_nil, List.append_nil]
          rw [← this, add_add]
          congr 2
          omega
    obtain ⟨ys, h1, h2⟩ := all len (Nat.le_refl _)
    refine ⟨_, ys, rfl, some a, cap, by rw [h1], ?_⟩
    by_cases h0 : len = 0
    · exact .inl (List.eq_nil_of_length_eq_zero (by omega))
    · right
      have hfl : (ys.flatMap enc).length = len * P.cellsOf e := by rw [flatMap_len hlen, h1]
      have hpos : 0 < len * P.cellsOf e := Nat.mul_pos (by omega) hk
      have hlast := h2 (len * P.cellsOf e - 1) (by omega)
      rw [List.getElem?_eq_getElem (by omega)] at hlast
      have hfirst := h2 0 hpos
      rw [List.getElem?_eq_getElem (by omega)] at hfirst
      have hs : a.spot = none := (cell_block hfirst).1
      rw [add_none hs] at hlast
      obtain ⟨_, l, t', fq, hh, hl2⟩ := cell_block hlast
      refine ⟨a.block, a.off, l.toList, t', fq, by obtain ⟨ab, ao, az⟩ := a; subst hs; rfl, by rw [Array.toArray_toList]; exact hh, ?_⟩
      rw [h1]
      have hlt : a.off + (len * P.cellsOf e - 1) < l.size := (Array.getElem?_eq_some_iff.1 hl2).1
      refine Sub.of_get (by simp; omega) hfl fun i hi => ?_
      have := h2 i hi
      rw [add_none hs] at this
      unfold World.cell? at this
      simp only at this
      rw [hh] at this
      simpa using this
theorem int_of_trod {t : TypeId} {k : IntKind} {fuel : Nat} {cs : List Value} {x : DataW H × List MemPlace} (ht : P.underlying t = some (.int k)) (h : DataW.trod enc0 P W base sp held fuel t cs = some x) : ∃ n, cs = [.int k n] ∧ (Lit.int k n).wf = true := by
  cases fuel with
  | zero => simp [DataW.trod] at h
  | succ n =>
    unfold DataW.trod at h
    rw [ht] at h
    split at h <;> simp_all
theorem bool_of_trod {t : TypeId} {fuel : Nat} {cs : List Value} {x : DataW H × List MemPlace} (ht : P.underlying t = some .bool) (h : DataW.trod enc0 P W base sp held fuel t cs = some x) : ∃ b, cs = [.bool b] := by
  cases fuel with
  | zero => simp [DataW.trod] at h
  | succ n =>
    unfold DataW.trod at h
    rw [ht] at h
    split at h <;> simp_all
end
end Go.Lg
namespace Go.Lg.B
open Go Go.Conc Go.Lg Go.Proofs Go.WideShapes Go.ChangeShapes Go.Proofs.Tryz
set_option maxRecDepth 100000
theorem cells3 : prog.cellsOf 3 = 1 := by kernel_rfl
theorem cells4 : prog.cellsOf 4 = 1 := by kernel_rfl
theorem cells22 : prog.cellsOf 22 = 1 := by kernel_rfl
theorem cells23 : prog.cellsOf 23 = 1 := by kernel_rfl
theorem cells25 : prog.cellsOf 25 = 5 := by kernel_rfl
theorem cells27 : prog.cellsOf 27 = 2 := by kernel_rfl
theorem cells46 : prog.cellsOf 46 = 2 := by kernel_rfl
theorem cells58 : prog.cellsOf 58 = 5 := by kernel_rfl
section
variable {H : Type} {enc0 : TypeId × Value → H} {W : World} {base : Nat} {sp : Nat → Bool} {held : Bool}
theorem field_of {P : Program} {t : TypeId} {fs : Array Field} {fuel : Nat} {cs : List Value} {x : DataW H × List MemPlace} (ht : P.underlying t = some (.struct fs)) (h : DataW.trod enc0 P W base sp held fuel t cs = some x) :
    cs.length = P.cellsOf t ∧ ∀ (i : Nat) (f : Field), fs[i]? = some f → ∃ n z, DataW.trod enc0 P W base sp held n f.type ((cs.drop f.offset).take (P.cellsOf f.type)) = some z := by
  obtain ⟨xs, n, _, _, h1, h2, h3⟩ := DataW.trod_struct ht h
  refine ⟨h1, fun i f hf => ?_⟩
  have hi : i < xs.length := by rw [h2]; exact (Array.getElem?_eq_some_iff.1 hf).1
  exact ⟨n, xs[i], by rw [h3 i f hf, List.getElem?_eq_getElem hi]⟩
theorem sq_of {n : Nat} {cs : List Value} {z : DataW H × List MemPlace} (h : DataW.trod enc0 prog W base sp held n 27 cs = some z) : ∃ s : Sq, cs = s.cells := by
  obtain ⟨hl, hf⟩ := field_of underlying27 h
  rw [cells27] at hl
  match cs, hl with
  | [a, c], _ =>
    have g0 : ∃ n z, DataW.trod enc0 prog W base sp held n 3 (([a, c].drop 0).take (prog.cellsOf 3)) = some z := hf 0 _ rfl
    rw [cells3] at g0
    obtain ⟨_, _, h0⟩ := g0
    have g1 : ∃ n z, DataW.trod enc0 prog W base sp held n 3 (([a, c].drop 1).take (prog.cellsOf 3)) = some z := hf 1 _ rfl
    rw [cells3] at g1
    obtain ⟨_, _, h1⟩ := g1
    obtain ⟨x0, e0, _⟩ := int_of_trod underlying3 h0
    obtain ⟨x1, e1, _⟩ := int_of_trod underlying3 h1
    simp at e0 e1
    subst e0; subst e1
    exact ⟨⟨x0, x1⟩, rfl⟩
theorem rc_of {n : Nat} {cs : List Value} {z : DataW H × List MemPlace} (h : DataW.trod enc0 prog W base sp held n 46 cs = some z) : ∃ s : Rc, cs = s.cells := by
  obtain ⟨hl, hf⟩ := field_of underlying46 h
  rw [cells46] at hl
  match cs, hl with
  | [a, c], _ =>
    have g0 : ∃ n z, DataW.trod enc0 prog W base sp held n 3 (([a, c].drop 0).take (prog.cellsOf 3)) = some z := hf 0 _ rfl
    rw [cells3] at g0
    obtain ⟨_, _, h0⟩ := g0
    have g1 : ∃ n z, DataW.trod enc0 prog W base sp held n 3 (([a, c].drop 1).take (prog.cellsOf 3)) = some z := hf 1 _ rfl
    rw [cells3] at g1
    obtain ⟨_, _, h1⟩ := g1
    obtain ⟨x0, e0, _⟩ := int_of_trod underlying3 h0
    obtain ⟨x1, e1, _⟩ := int_of_trod underlying3 h1
    simp at e0 e1
    subst e0; subst e1
    exact ⟨⟨x0, x1⟩, rfl⟩
theorem wt_of {n : Nat} {cs : List Value} {z : DataW H × List MemPlace} (h : DataW.trod enc0 prog W base sp held n 58 cs = some z) : ∃ s : Wt, cs = s.cells := by
  obtain ⟨hl, hf⟩ := field_of underlying58 h
  rw [cells58] at hl
  match cs, hl with
  | [a, c, d, e, f], _ =>
    have g0 : ∃ n z, DataW.trod enc0 prog W base sp held n 27 (([a, c, d, e, f].drop 0).take (prog.cellsOf 27)) = some z := hf 0 _ rfl
    rw [cells27] at g0
    obtain ⟨_, _, h0⟩ := g0
    have g1 : ∃ n z, DataW.trod enc0 prog W base sp held n 3 (([a, c, d, e, f].drop 2).take (prog.cellsOf 3)) = some z := hf 1 _ rfl
    rw [cells3] at g1
    obtain ⟨_, _, h1⟩ := g1
    have g2 : ∃ n z, DataW.trod enc0 prog W base sp held n 3 (([a, c, d, e, f].drop 3).take (prog.cellsOf 3)) = some z := hf 2 _ rfl
    rw [cells3] at g2
    obtain ⟨_, _, h2⟩ := g2
    have g3 : ∃ n z, DataW.trod enc0 prog W base sp held n 4 (([a, c, d, e, f].drop 4).take (prog.cellsOf 4)) = some z := hf 3 _ rfl
    rw [cells4] at g3
    obtain ⟨_, _, h3⟩ := g3
    obtain ⟨s, e0⟩ := sq_of h0
    obtain ⟨x1, e1, _⟩ := int_of_trod underlying3 h1
    obtain ⟨x2, e2, _⟩ := int_of_trod underlying3 h2
    obtain ⟨x3, e3⟩ := bool_of_trod underlying4 h3
    simp [Sq.cells] at e0 e1 e2 e3
    obtain ⟨rfl, rfl⟩ := e0
    subst e1; subst e2; subst e3
    exact ⟨⟨s, x1, x2, x3⟩, rfl⟩
theorem rcs_of {n : Nat} {cs : List Value} {z : DataW H × List MemPlace} (h : DataW.trod enc0 prog W base sp held n 22 cs = some z) : ∃ v xs, cs = [v] ∧ Ls Rc.cells 2 (fun b => W.heap[b]?) v xs :=
  ls_of_trod underlying22 cells46 (by decide) Rc.len (fun _ _ _ h => rc_of h) h
theorem wts_of {n : Nat} {cs : List Value} {z : DataW H × List MemPlace} (h : DataW.trod enc0 prog W base sp held n 23 cs = some z) : ∃ v xs, cs = [v] ∧ Ls Wt.cells 5 (fun b => W.heap[b]?) v xs :=
  ls_of_trod underlying23 cells58 (by decide) Wt.len (fun _ _ _ h => wt_of h) h
theorem argBk {r : Reach} {b0 : Nat} {v : Value} {d : DataW H} {p : List MemPlace} (hv : Value.okWide prog W r b0 25 v) (h : DataW.Trod enc0 prog W base sp held 25 v d p) : ∃ b, BkV (fun b => W.heap[b]?) v b := by
  obtain ⟨⟨cs⟩, rfl, _⟩ := okWide_struct underlying25 hv
  obtain ⟨n, h⟩ := h
  obtain ⟨hl, hf⟩ := field_of (cs := cs) underlying25 h
  rw [cells25] at hl
  match cs, hl with
  | [a, c, d, e, f], _ =>
    have g0 : ∃ n z, DataW.trod enc0 prog W base sp held n 3 (([a, c, d, e, f].drop 0).take (prog.cellsOf 3)) = some z := hf 0 _ rfl
    rw [cells3] at g0
    obtain ⟨_, _, h0⟩ := g0
    have g1 : ∃ n z, DataW.trod enc0 prog W base sp held n 3 (([a, c, d, e, f].drop 1).take (prog.cellsOf 3)) = some z := hf 1 _ rfl
    rw [cells3] at g1
    obtain ⟨_, _, h1⟩ := g1
    have g2 : ∃ n z, DataW.trod enc0 prog W base sp held n 3 (([a, c, d, e, f].drop 2).take (prog.cellsOf 3)) = some z := hf 2 _ rfl
    rw [cells3] at g2
    obtain ⟨_, _, h2⟩ := g2
    have g3 : ∃ n z, DataW.trod enc0 prog W base sp held n 22 (([a, c, d, e, f].drop 3).take (prog.cellsOf 22)) = some z := hf 3 _ rfl
    rw [cells22] at g3
    obtain ⟨_, _, h3⟩ := g3
    have g4 : ∃ n z, DataW.trod enc0 prog W base sp held n 23 (([a, c, d, e, f].drop 4).take (prog.cellsOf 23)) = some z := hf 4 _ rfl
    rw [cells23] at g4
    obtain ⟨_, _, h4⟩ := g4
    obtain ⟨x0, e0, _⟩ := int_of_trod underlying3 h0
    obtain ⟨x1, e1, _⟩ := int_of_trod underlying3 h1
    obtain ⟨x2, e2, _⟩ := int_of_trod underlying3 h2
    obtain ⟨v3, x3, e3, l3⟩ := rcs_of h3
    obtain ⟨v4, x4, e4, l4⟩ := wts_of h4
    simp at e0 e1 e2 e3 e4
    subst e0; subst e1; subst e2; subst e3; subst e4
    exact ⟨⟨x0, x1, x2, x3, x4⟩, _, _, rfl, l3, l4⟩
end
end Go.Lg.B
namespace Go.Lg.B
open Go Go.Conc Go.Lg Go.Proofs Go.Proofs.Tryz
def trueOf (x y : Int) : Int :=
  if 12 * min (max x (-x)) (max y (-y)) ≤ 5 * max (max x (-x)) (max y (-y)) then (if max x (-x) > max y (-y) then (if x > 0 then 2 else 6) else if y > 0 then 0 else 4)
  else if x > 0 then (if y > 0 then 1 else 3) else if y > 0 then 7 else 5
theorem trueOf_bearing (a z : Sq) : trueOf (z.e - a.e) (z.n - a.n) = bearing a z := by
  generalize hx : z.e - a.e = x
  generalize hy : z.n - a.n = y
  simp only [bearing, aside, hx, hy, trueOf]
  repeat' split
  all_goals first | rfl | (exfalso; simp_all; done) | (exfalso; simp_all; omega)
section
variable {main : Bool} {J : Goroutine → Mem → Prop} (hJ : Closed prog main J)
include hJ
theorem nearR_c (s : Sq) (ro : RO) : CallP prog J (fnv 83) [s.val] ro (.bool (isPlace s)) := by
  refine CallP.intro hJ (by kernel_rfl) fun c cs tail hret => enter_X (n := 11) func83 rfl rfl (Nl rfl) ?_
  have C : Ctx prog main J (bf 83 .normal) := ⟨hJ, by decide⟩
  refine Xr C rfl rfl <| R.box C rfl rfl rfl rfl fun p1 => Ad C rfl rfl <| Xr C rfl rfl <| Rf C 0 rfl rfl runUnderlying27 rfl sizeOf3 <| R.loadOne C rfl rfl rfl isAgg3 (by repeat (first | exact Mh | apply Mt)) rfl <| R.callP C rfl rfl rfl rfl (betweenR_c hJ _ _ _ _) <| Rm C rfl rfl <| R.fix (t := 6) rfl (fun q1 => ?_) (fun q1 => ?_)
  · have q1 := q1
    refine Rf C 1 rfl rfl runUnderlying27 rfl sizeOf3 <| R.loadOne C rfl rfl rfl isAgg3 (by repeat (first | exact Mh | apply Mt)) rfl <| R.callP C rfl rfl rfl rfl (betweenR_c hJ _ _ _ _) <| R.pickT C rfl rfl rfl rfl <| Ad C rfl rfl <| Xt C func83 <| Hp hret ?_
    simp_all [isPlace, retVal]
  · have q1 := q1
    refine R.pass C rfl rfl <| R.pass C rfl rfl <| R.pass C rfl rfl <| R.pickF C rfl rfl rfl rfl <| Ad C rfl rfl <| Xt C func83 <| Hp hret ?_
    simp_all [isPlace, retVal]
theorem insideR_c (x : Rc) (l m : Int) (ro : RO) : CallP prog J (fnv 90) [x.val, .int .i64 l, .int .i64 m] ro (.bool (isReach x l m)) := by
  refine CallP.intro hJ (by kernel_rfl) fun c cs tail hret => enter_X (n := 24) func90 rfl rfl (Nl rfl) ?_
  have C : Ctx prog main J (bf 90 .normal) := ⟨hJ, by decide⟩
  refine Xr C rfl rfl <| R.box C rfl rfl rfl rfl fun p3 => Ad C rfl rfl <| Xr C rfl rfl <| Rm C rfl rfl <| Rf C 0 rfl rfl runUnderlying46 rfl sizeOf3 <| R.loadOne C rfl rfl rfl isAgg3 (by repeat (first | exact Mh | apply Mt)) rfl <| R.int C rfl rfl rfl rfl b_leq <| Rm C rfl rfl <| R.fix (t := 11) rfl (fun q1 => ?_) (fun q1 => ?_)
  · have q1 := q1
    refine Rf C 0 rfl rfl runUnderlying46 rfl sizeOf3 <| R.loadOne C rfl rfl rfl isAgg3 (by repeat (first | exact Mh | apply Mt)) rfl <| Rf C 1 rfl rfl runUnderlying46 rfl sizeOf3 <| R.loadOne C rfl rfl rfl isAgg3 (by repeat (first | exact Mh | apply Mt)) rfl <| R.int C rfl rfl rfl rfl b_leq <| R.pickT C rfl rfl rfl rfl <| Rm C rfl rfl <| R.fix (t := 18) rfl (fun q2 => ?_) (fun q2 => ?_)
    · have q2 := q2
      refine Rf C 1 rfl rfl runUnderlying46 rfl sizeOf3 <| R.loadOne C rfl rfl rfl isAgg3 (by repeat (first | exact Mh | apply Mt)) rfl <| Rm C rfl rfl <| R.int C rfl rfl rfl rfl b_leq <| R.pickT C rfl rfl rfl rfl <| Ad C rfl rfl <| Xt C func90 <| Hp hret ?_
      first | (simp_all [isReach, retVal]; done) | (simp_all [isReach, retVal]; omega)
    · have q2 := q2
      refine R.pass C rfl rfl <| R.pass C rfl rfl <| R.pass C rfl rfl <| R.pass C rfl rfl <| R.pickF C rfl rfl rfl rfl <| Ad C rfl rfl <| Xt C func90 <| Hp hret ?_
      first | (simp_all [isReach, retVal]; done) | (simp_all [isReach, retVal]; omega)
  · have q1 := q1
    refine R.pass C rfl rfl <| R.pass C rfl rfl <| R.pass C rfl rfl <| R.pass C rfl rfl <| R.pass C rfl rfl <| R.pickF C rfl rfl rfl rfl <| Rm C rfl rfl <| R.pass C rfl rfl <| R.pass C rfl rfl <| R.pass C rfl rfl <| R.pass C rfl rfl <| R.pickF C rfl rfl rfl rfl <| Ad C rfl rfl <| Xt C func90 <| Hp hret ?_
    first | (simp_all [isReach, retVal]; done) | (simp_all [isReach, retVal]; omega)
theorem isCompassR_c {b : Bk} {v : Value} {ro : RO} (hv : BkV ro v b) (hb : b.short) (k : Int) : CallP prog J (fnv 91) [v, .int .i64 k] ro (.bool (between k 0 (b.cs.length - 1))) := by
  obtain ⟨vc, vw, rfl, hc, hw⟩ := hv
  obtain ⟨h1, h2⟩ := hb
  obtain ⟨b1, c1, rfl⟩ := hc.form
  refine CallP.intro hJ (by kernel_rfl) fun c cs tail hret => enter_X (n := 11) func91 rfl rfl (Nl rfl) ?_
  have C : Ctx prog main J (bf 91 .normal) := ⟨hJ, by decide⟩
  refine Xr C rfl rfl <| R.box C rfl rfl rfl rfl fun p2 => Ad C rfl rfl <| Xr C rfl rfl <| Rm C rfl rfl <| Rf C 3 rfl rfl runUnderlying25 rfl sizeOf22 <| R.loadOne C rfl rfl rfl isAgg22 (by repeat (first | exact Mh | apply Mt)) rfl <| R.lenSlice C rfl rfl rfl runUnderlying22 <| R.int C rfl rfl rfl rfl (b_sub (by omega) (by omega)) <| R.callP C rfl rfl rfl rfl (betweenR_c hJ _ _ _ _) <| Ad C rfl rfl <| Xt C func91 <| Hp hret ?_
  simp_all [retVal]
theorem greatR_c {b : Bk} {v : Value} {ro : RO} (hv : BkV ro v b) : CallP prog J (fnv 18) [v] ro (.bool (decide (20 < b.cs.length) || decide (20 < b.ws.length))) := by
  obtain ⟨vc, vw, rfl, hc, hw⟩ := hv
  obtain ⟨b1, c1, rfl⟩ := hc.form
  obtain ⟨b2, c2, rfl⟩ := hw.form
  refine CallP.intro hJ (by kernel_rfl) fun c cs tail hret => enter_X (n := 13) func18 rfl rfl (Nl rfl) ?_
  have C : Ctx prog main J (bf 18 .normal) := ⟨hJ, by decide⟩
  refine Xr C rfl rfl <| R.box C rfl rfl rfl rfl fun p1 => Ad C rfl rfl <| Xr C rfl rfl <| Rf C 3 rfl rfl runUnderlying25 rfl sizeOf22 <| R.loadOne C rfl rfl rfl isAgg22 (by repeat (first | exact Mh | apply Mt)) rfl <| R.lenSlice C rfl rfl rfl runUnderlying22 <| R.int C rfl rfl rfl rfl b_gtr <| Rm C rfl rfl <| R.fix (t := 7) rfl (fun q1 => ?_) (fun q1 => ?_)
  · have q1 := q1
    refine R.pass C rfl rfl <| R.pass C rfl rfl <| R.pass C rfl rfl <| R.pass C rfl rfl <| R.pickT C rfl rfl rfl rfl <| Ad C rfl rfl <| Xt C func18 <| Hp hret ?_
    (simp only [decide_eq_true_eq, decide_eq_false_iff_not, retVal] at *; refine congrArg Value.bool ?_; rw [Bool.eq_iff_iff]; simp; try omega)
  · have q1 := q1
    refine Rf C 4 rfl rfl runUnderlying25 rfl sizeOf23 <| R.loadOne C rfl rfl rfl isAgg23 (by repeat (first | exact Mh | apply Mt)) rfl <| R.lenSlice C rfl rfl rfl runUnderlying23 <| R.int C rfl rfl rfl rfl b_gtr <| R.pickF C rfl rfl rfl rfl <| Ad C rfl rfl <| Xt C func18 <| Hp hret ?_
    (simp only [decide_eq_true_eq, decide_eq_false_iff_not, retVal] at *; refine congrArg Value.bool ?_; rw [Bool.eq_iff_iff]; simp; try omega)
theorem trueOfR_c (x y : Int) (hx : -1000000 ≤ x ∧ x ≤ 1000000) (hy : -1000000 ≤ y ∧ y ≤ 1000000) (ro : RO) : CallP prog J (fnv 84) [.int .i64 x, .int .i64 y] ro (.int .i64 (trueOf x y)) := by
  obtain ⟨x1, x2⟩ := hx
  obtain ⟨y1, y2⟩ := hy
  refine CallP.intro hJ (by kernel_rfl) fun c cs tail hret => enter_X (n := 37) func84 rfl rfl (Nl rfl) ?_
  have C : Ctx prog main J (bf 84 .normal) := ⟨hJ, by decide⟩
  refine Xr C rfl rfl <| Ad C rfl rfl <| Xr C rfl rfl <| Rm C rfl rfl <| Rm C rfl rfl <| R.neg C rfl rfl rfl (by omega) (by omega) <| R.max2 C rfl rfl rfl rfl <| Rm C rfl rfl <| Rm C rfl rfl <| R.neg C rfl rfl rfl (by omega) (by omega) <| R.max2 C rfl rfl rfl rfl <| R.asg C rfl rfl rfl <| Ad C rfl rfl <| Xs C <| Xr C rfl rfl <| Rm C rfl rfl <| Rm C rfl rfl <| R.min2 C rfl rfl rfl rfl <| R.int C rfl rfl rfl rfl (b_mul (by omega) (by omega)) <| Rm C rfl rfl <| Rm C rfl rfl <| R.max2 C rfl rfl rfl rfl <| R.int C rfl rfl rfl rfl (b_mul (by omega) (by omega)) <| R.int C rfl rfl rfl rfl b_leq <| R.done C <| X.cond C.1 rfl (fun q1 => ?_) (fun q1 => ?_)
  · have q1 := q1
    refine Xs C <| Xr C rfl rfl <| Rm C rfl rfl <| Rm C rfl rfl <| R.int C rfl rfl rfl rfl b_gtr <| R.done C <| X.cond C.1 rfl (fun q2 => ?_) (fun q2 => ?_)
    · have q2 := q2
      refine Xs C <| Xr C rfl rfl <| Rm C rfl rfl <| R.int C rfl rfl rfl rfl b_gtr <| R.done C <| X.cond C.1 rfl (fun q3 => ?_) (fun q3 => ?_)
      · have q3 := q3
        refine Xr C rfl rfl <| Ad C rfl rfl <| Xt C func84 <| Hp hret ?_
        (simp only [decide_eq_true_eq, decide_eq_false_iff_not] at *; simp only [trueOf, retVal]; repeat' split) <;> first | rfl | (exfalso; omega)
      · have q3 := q3
        refine X.skip C.1 <| Xr C rfl rfl <| Ad C rfl rfl <| Xt C func84 <| Hp hret ?_
        (simp only [decide_eq_true_eq, decide_eq_false_iff_not] at *; simp only [trueOf, retVal]; repeat' split) <;> first | rfl | (exfalso; omega)
    · have q2 := q2
      refine X.skip C.1 <| Xs C <| Xr C rfl rfl <| Rm C rfl rfl <| R.int C rfl rfl rfl rfl b_gtr <| R.done C <| X.cond C.1 rfl (fun q4 => ?_) (fun q4 => ?_)
      · have q4 := q4
        refine Xr C rfl rfl <| Ad C rfl rfl <| Xt C func84 <| Hp hret ?_
        (simp only [decide_eq_true_eq, decide_eq_false_iff_not] at *; simp only [trueOf, retVal]; repeat' split) <;> first | rfl | (exfalso; omega)
      · have q4 := q4
        refine X.skip C.1 <| Xr C rfl rfl <| Ad C rfl rfl <| Xt C func84 <| Hp hret ?_
        (simp only [decide_eq_true_eq, decide_eq_false_iff_not] at *; simp only [trueOf, retVal]; repeat' split) <;> first | rfl | (exfalso; omega)
  · have q1 := q1
    refine X.skip C.1 <| Xs C <| Xr C rfl rfl <| Rm C rfl rfl <| R.int C rfl rfl rfl rfl b_gtr <| R.done C <| X.cond C.1 rfl (fun q5 => ?_) (fun q5 => ?_)
    · have q5 := q5
      refine Xs C <| Xr C rfl rfl <| Rm C rfl rfl <| R.int C rfl rfl rfl rfl b_gtr <| R.done C <| X.cond C.1 rfl (fun q6 => ?_) (fun q6 => ?_)
      · have q6 := q6
        refine Xr C rfl rfl <| Ad C rfl rfl <| Xt C func84 <| Hp hret ?_
        (simp only [decide_eq_true_eq, decide_eq_false_iff_not] at *; simp only [trueOf, retVal]; repeat' split) <;> first | rfl | (exfalso; omega)
      · have q6 := q6
        refine X.skip C.1 <| Xr C rfl rfl <| Ad C rfl rfl <| Xt C func84 <| Hp hret ?_
        (simp only [decide_eq_true_eq, decide_eq_false_iff_not] at *; simp only [trueOf, retVal]; repeat' split) <;> first | rfl | (exfalso; omega)
    · have q5 := q5
      refine X.skip C.1 <| Xs C <| Xr C rfl rfl <| Rm C rfl rfl <| R.int C rfl rfl rfl rfl b_gtr <| R.done C <| X.cond C.1 rfl (fun q7 => ?_) (fun q7 => ?_)
      · have q7 := q7
        refine Xr C rfl rfl <| Ad C rfl rfl <| Xt C func84 <| Hp hret ?_
        (simp only [decide_eq_true_eq, decide_eq_false_iff_not] at *; simp only [trueOf, retVal]; repeat' split) <;> first | rfl | (exfalso; omega)
      · have q7 := q7
        refine X.skip C.1 <| Xr C rfl rfl <| Ad C rfl rfl <| Xt C func84 <| Hp hret ?_
        (simp only [decide_eq_true_eq, decide_eq_false_iff_not] at *; simp only [trueOf, retVal]; repeat' split) <;> first | rfl | (exfalso; omega)
end
end Go.Lg.B
namespace Go.Lg.B
open Go Go.Conc Go.Lg Go.Proofs Go.Proofs.Tryz
theorem rz_iff {k : Int} : ∀ {m : Nat} {n : Int}, k ∈ rz n m ↔ n ≤ k ∧ k < n + m
  | 0, n => by simp only [rz, List.not_mem_nil, false_iff]; omega
  | m + 1, n => by rw [rz, List.mem_cons, rz_iff]; omega
theorem ups_iff {k : Nat} : ∀ {m n : Nat}, k ∈ ups n m ↔ n ≤ k ∧ k < n + m
  | 0, n => by simp only [ups, List.not_mem_nil, false_iff]; omega
  | m + 1, n => by rw [ups, List.mem_cons, ups_iff]; omega
theorem maskOf_bit (p : Nat → Bool) (i : Nat) : ∀ n, (maskOf p n).testBit i = (decide (i < n) && p i)
  | 0 => by simp [maskOf]
  | n + 1 => by
    simp only [maskOf]
    by_cases h : p n = true
    · rw [if_pos h, Nat.testBit_or, maskOf_bit, Nat.testBit_two_pow]
      by_cases e : i = n
      · subst e; simp [h]
      · have : (i < n + 1) ↔ i < n := by omega
        simp [Ne.symm e, this]
    · rw [if_neg h, maskOf_bit]
      by_cases e : i = n
      · subst e; simp [h]
      · have : (i < n + 1) ↔ i < n := by omega
        simp [this]
theorem andNot_zero {a c : Nat} : (andNot a c == 0) = true ↔ ∀ i, a.testBit i = true → c.testBit i = true := by
  rw [beq_iff_eq]
  constructor
  · intro h i ha
    have := congrArg (fun x => x.testBit i) h
    simp only [andNot, Nat.testBit_xor, Nat.testBit_and, ha, Nat.zero_testBit] at this
    cases hc : c.testBit i
    · rw [hc] at this; simp at this
    · rfl
  · intro h
    refine Nat.eq_of_testBit_eq fun i => ?_
    simp only [andNot, Nat.testBit_xor, Nat.testBit_and, Nat.zero_testBit]
    cases ha : a.testBit i
    · simp
    · simp [h i ha]
theorem and_zero {a c : Nat} : (a &&& c == 0) = true ↔ ∀ i, a.testBit i = true → c.testBit i = false := by
  rw [beq_iff_eq]
  constructor
  · intro h i ha
    have := congrArg (fun x => x.testBit i) h
    simpa only [Nat.testBit_and, ha, Nat.zero_testBit, Bool.true_and] using this
  · intro h
    refine Nat.eq_of_testBit_eq fun i => ?_
    simp only [Nat.testBit_and, Nat.zero_testBit]
    cases ha : a.testBit i
    · simp
    · simp [h i ha]
theorem falls_ok {b : Bk} : ∀ (l : List Int) (q : Option Int) (m : Nat), (falls b q m l).2 = 0 →
    (∀ k ∈ l, 0 ≤ k ∧ k < b.ws.length) ∧ List.Pairwise (· < ·) l ∧ (∀ x, q = some x → ∀ k ∈ l, x < k) ∧ ∀ i : Nat, (falls b q m l).1.testBit i = (m.testBit i || l.contains (i : Int))
  | [], q, m, _ => by simp [falls]
  | k :: l, q, m, h => by
    rw [falls] at h ⊢
    by_cases hw : b.witness k ≠ 0
    · rw [if_pos hw] at h; exact absurd h hw
    · rw [if_neg hw] at h ⊢
      by_cases hq : (q.any fun x => decide (k ≤ x)) = true
      · rw [if_pos hq] at h; cases h
      · rw [if_neg hq] at h ⊢
        obtain ⟨h1, h2, h3, h4⟩ := falls_ok l _ _ h
        have hk : 0 ≤ k ∧ k < b.ws.length := by
          have : between k 0 (b.ws.length - 1) = true := there_zero.1 (by simpa [Bk.witness] using hw)
          simp only [between, Bool.and_eq_true, decide_eq_true_eq] at this
          omega
        refine ⟨fun x hx => ?_, List.pairwise_cons.2 ⟨fun x hx => h3 k rfl x hx, h2⟩, fun x hx y hy => ?_, fun i => ?_⟩
        · rcases List.mem_cons.1 hx with rfl | hx
          · exact hk
          · exact h1 x hx
        · subst hx
          simp only [Option.any_some, decide_eq_true_eq] at hq
          rcases List.mem_cons.1 hy with rfl | hy
          · omega
          · have := h3 k rfl y hy; omega
        · rw [h4, Nat.testBit_or, Nat.testBit_two_pow, List.contains_cons, Bool.or_assoc]
          have : decide (k.toNat = i) = ((i : Int) == k) := by
            rw [Bool.eq_iff_iff]; simp only [decide_eq_true_eq, beq_iff_eq]; omega
          rw [this]
theorem bits_mem (m : Nat) (k : Int) : ∀ n, k ∈ bitsUpto m n ↔ ∃ i : Nat, i < n ∧ m.testBit i = true ∧ k = i
  | 0 => by simp [bitsUpto]
  | n + 1 => by
    simp only [bitsUpto]
    have ih := bits_mem m k n
    by_cases h : m.testBit n = true
    · rw [if_pos h, List.mem_append, ih, List.mem_singleton]
      constructor
      · rintro (⟨i, h1, h2, h3⟩ | rfl)
        · exact ⟨i, by omega, h2, h3⟩
        · exact ⟨n, by omega, h, rfl⟩
      · rintro ⟨i, h1, h2, h3⟩
        by_cases e : i = n
        · exact .inr (by rw [h3, e])
        · exact .inl ⟨i, by omega, h2, h3⟩
    · rw [if_neg h, ih]
      constructor
      · rintro ⟨i, h1, h2, h3⟩; exact ⟨i, by omega, h2, h3⟩
      · rintro ⟨i, h1, h2, h3⟩
        by_cases e : i = n
        · rw [e] at h2; exact absurd h2 h
        · exact ⟨i, by omega, h2, h3⟩
theorem bits_up (m : Nat) : ∀ n, List.Pairwise (· < ·) (bitsUpto m n)
  | 0 => List.Pairwise.nil
  | n + 1 => by
    simp only [bitsUpto]
    split
    · refine List.pairwise_append.2 ⟨bits_up m n, List.pairwise_singleton _ _, fun x hx y hy => ?_⟩
      obtain ⟨i, h1, _, rfl⟩ := (bits_mem m x n).1 hx
      obtain rfl := List.mem_singleton.1 hy
      omega
    · exact bits_up m n
theorem up_nodup {l : List Int} (h : List.Pairwise (· < ·) l) : l.Nodup := h.imp fun h => by omega
theorem up_ext {l m : List Int} (hl : List.Pairwise (· < ·) l) (hm : List.Pairwise (· < ·) m) (h : ∀ x, x ∈ l ↔ x ∈ m) : l = m :=
  List.Perm.eq_of_pairwise (fun a b _ _ h1 h2 => by omega) hl hm ((List.perm_ext_iff_of_nodup (up_nodup hl) (up_nodup hm)).2 h)
theorem listOf_eq {m : Nat} {l : List Int} (hl : List.Pairwise (· < ·) l) (hr : ∀ k ∈ l, 0 ≤ k ∧ k < 5) (hm : ∀ i : Nat, m.testBit i = l.contains (i : Int)) : listOf m = l := by
  refine up_ext (bits_up m 5) hl fun x => ?_
  unfold listOf
  rw [bits_mem]
  constructor
  · rintro ⟨i, _, h2, rfl⟩
    rw [hm] at h2; simpa using h2
  · intro hx
    obtain ⟨h1, h2⟩ := hr x hx
    refine ⟨x.toNat, by omega, ?_, by omega⟩
    rw [hm, show ((x.toNat : Nat) : Int) = x by omega]
    simpa using hx
theorem handed_ok {b : Bk} {c : Cs} (hh : (handed b c).2 = 0) : b.square c.s = 0 ∧ c.o.length = b.cs.length ∧ (∀ n ∈ c.o, -3 ≤ n ∧ n ≤ 3) ∧ (falls b none 0 c.f).2 = 0 ∧ (handed b c).1 = ⟨c.aim, (falls b none 0 c.f).1⟩ := by
  unfold handed at hh ⊢
  by_cases h1 : b.square c.s ≠ 0
  · rw [if_pos h1] at hh; exact absurd hh h1
  rw [if_neg h1] at hh ⊢
  by_cases h2 : c.o.length ≠ b.cs.length
  · rw [if_pos h2] at hh; cases hh
  rw [if_neg h2] at hh ⊢
  by_cases h3 : (c.o.any fun n => !between n (-3) 3) = true
  · rw [if_pos h3] at hh; cases hh
  rw [if_neg h3] at hh ⊢
  by_cases h4 : (falls b none 0 c.f).2 ≠ 0
  · rw [if_pos h4] at hh; exact absurd hh h4
  rw [if_neg h4]
  refine ⟨by simpa using h1, by simpa using h2, fun n hn => ?_, by simpa using h4, rfl⟩
  have := mt (fun h => List.any_eq_true.2 ⟨n, hn, h⟩) h3
  simpa [between] using this
theorem cases_iff {b : Bk} {c : Lot} : c ∈ cases b ↔ c.a ∈ aims b ∧ c.m < 2 ^ b.ws.length ∧ okMask b c.a c.m = true := by
  obtain ⟨a, m⟩ := c
  simp only [cases, lots, List.mem_flatMap, List.mem_map, List.mem_filter, ups_iff, Lot.mk.injEq]
  constructor
  · rintro ⟨a', h1, m', ⟨⟨_, h2⟩, h3⟩, rfl, rfl⟩; exact ⟨h1, by omega, h3⟩
  · rintro ⟨h1, h2, h3⟩; exact ⟨a, h1, m, ⟨⟨Nat.zero_le _, by omega⟩, h3⟩, rfl, rfl⟩
end Go.Lg.B
namespace Go.Lg.B
open Go Go.Conc Go.Lg Go.Proofs Go.Proofs.Tryz
section
variable {main : Bool} {J : Goroutine → Mem → Prop} (hJ : Closed prog main J)
include hJ
theorem checkChartR_c {b : Bk} {v : Value} {ro : RO} (hv : BkV ro v b) (hs : b.short) : CallP prog J (fnv 25) [v] ro (.int .i64 (checkChart b)) := by
  have hvv := hv
  obtain ⟨vc, vw, rfl, hc, hw⟩ := hv
  obtain ⟨b1, c1, rfl⟩ := hc.form
  obtain ⟨b2, c2, rfl⟩ := hw.form
  have hs0 := hs
  obtain ⟨hs1, hs2⟩ := hs
  by_cases hch : b.chart = 0
  · have hch' : between b.w 2 7 = true ∧ between b.h 2 7 = true ∧ between b.f 0 2 = true := by
      simp only [Bk.chart] at hch
      cases h1 : between b.w 2 7 <;> cases h2 : between b.h 2 7 <;> cases h3 : between b.f 0 2 <;> simp [h1, h2, h3] at hch ⊢
    obtain ⟨g1, g2, g3⟩ := hch'
    refine CallP.intro hJ (by kernel_rfl) fun c cs tail hret => enter_X (n := 82) func25 rfl rfl (Nl rfl) ?_
    have C : Ctx prog main J (bf 25 .normal) := ⟨hJ, by decide⟩
    refine Xr C rfl rfl <| R.box C rfl rfl rfl rfl fun p1 => Ad C rfl rfl <| Xs C <| Xr C rfl rfl <| Rf C 0 rfl rfl runUnderlying25 rfl sizeOf3 <| R.loadOne C rfl rfl rfl isAgg3 (by repeat (first | exact Mh | apply Mt)) rfl <| R.callP C rfl rfl rfl rfl (betweenR_c hJ _ _ _ _) <| R.not C rfl rfl rfl <| R.fixv (t := 10) (v' := .bool false) rfl (by (rw [g1]; rfl)) <| Rm C rfl rfl <| Rf C 1 rfl rfl runUnderlying25 rfl sizeOf3 <| R.loadOne C rfl rfl rfl isAgg3 (by repeat (first | exact Mh | apply Mt)) rfl <| R.callP C rfl rfl rfl rfl (betweenR_c hJ _ _ _ _) <| R.not C rfl rfl rfl <| R.fixv (t := 15) (v' := .bool false) rfl (by (rw [g2]; rfl)) <| R.pickF C rfl rfl rfl rfl <| Rm C rfl rfl <| Rf C 2 rfl rfl runUnderlying25 rfl sizeOf3 <| R.loadOne C rfl rfl rfl isAgg3 (by repeat (first | exact Mh | apply Mt)) rfl <| R.callP C rfl rfl rfl rfl (betweenR_c hJ _ _ _ _) <| R.not C rfl rfl rfl <| R.fixv (t := 21) (v' := .bool false) rfl (by (rw [g3]; rfl)) <| R.pickF C rfl rfl rfl rfl <| R.done C <| X.cond C.1 rfl (fun h => nomatch h) (fun _ => ?_)
    refine X.skip C.1 <| Xs C <| Xr C rfl rfl <| Rf C 3 rfl rfl runUnderlying25 rfl sizeOf22 <| R.loadOne C rfl rfl rfl isAgg22 (by repeat (first | exact Mh | apply Mt)) rfl <| R.lenSlice C rfl rfl rfl runUnderlying22 <| R.callP C rfl rfl rfl rfl (betweenR_c hJ _ _ _ _) <| R.not C rfl rfl rfl <| R.done C <| X.cond C.1 rfl (fun hn => ?_) (fun hn => ?_)
    · have hn := hn
      refine Xr C rfl rfl <| Ad C rfl rfl <| Xt C func25 <| Hp hret ?_
      simp only [checkChart, hch, Bk.compassesH]
      simp_all [retVal]
    · have hn := hn
      have hn' : between (b.cs.length : Int) 1 3 = true := by simpa using hn
      refine X.skip C.1 <| Xs C <| Xr C rfl rfl <| Ad C rfl rfl <| X.block C.1 <| X.loopI (ι := Nat) C.1 (fun i => i ≤ b.cs.length ∧ csH (b.cs.drop i) = csH b.cs) (fun i => [(1, .pointer (some ⟨p1, 0, none⟩)), (3, .int .i64 (i : Int))])
        (fun _ => ⟨ro, (p1, .cells [.int .i64 b.w, .int .i64 b.h, .int .i64 b.f, .slice b1 b.cs.length c1, .slice b2 b.ws.length c2].toArray 25 (0, 0)) :: tail⟩) (fun i => b.cs.length - i) 0 ⟨Nat.zero_le _, rfl⟩ rfl ⟨rfl, rfl, trivial⟩ fun i hi hnext => ?_
      obtain ⟨hi, hr⟩ := hi
      refine Xs C <| Xr C rfl rfl <| Rm C rfl rfl <| Rf C 3 rfl rfl runUnderlying25 rfl sizeOf22 <| R.loadOne C rfl rfl rfl isAgg22 (by repeat (first | exact Mh | apply Mt)) rfl <| R.lenSlice C rfl rfl rfl runUnderlying22 <| R.int C rfl rfl rfl rfl b_lss <| R.done C <| X.cond C.1 rfl (fun hlt => ?_) (fun hlt => ?_)
      · have hlt := hlt
        simp only [decide_eq_true_eq] at hlt
        have hi' : i < b.cs.length := by omega
        obtain ⟨p, off, cap, l, t, fq, hsl, hrop, hsub⟩ := hc.at Rc.len (by omega)
        cases hsl
        rw [List.drop_eq_getElem_cons hi'] at hr
        simp only [csH] at hr
        refine X.skip C.1 <| Xs C <| X.block C.1 <| Xr C rfl rfl <| Rf C 3 rfl rfl runUnderlying25 rfl sizeOf22 <| R.loadOne C rfl rfl rfl isAgg22 (by repeat (first | exact Mh | apply Mt)) rfl <| Rm C rfl rfl <| Rx C rfl rfl rfl runUnderlying22 sizeOf46 <| R.loadAggRo C rfl rfl rfl isAgg46 sizeOf46 hrop (hsub i hi') <| R.alloc C rfl rfl zeroValue46 rfl fun p4 => R.store C rfl rfl rfl rfl sizeOf46 rfl rfl rfl (by repeat (first | exact Uh | apply Ut)) (.here (.here .nil)) <| R.done C <| Xr C rfl rfl <| R.loadAgg C rfl rfl rfl isAgg46 sizeOf46 (by repeat (first | exact Mh | apply Mt)) Tk2 <| R.callP C rfl rfl rfl rfl (insideR_c hJ b.cs[i] _ _ _) <| R.not C rfl rfl rfl <| Rm C rfl rfl <| R.fix (t := 43) rfl (fun hg => ?_) (fun hg => ?_)
        · have hg := hg
          have hf : (b.cs[i]).fine = false := by simp at hg; simp [Rc.fine, hg]
          simp [hf] at hr
          refine R.pass C rfl rfl <| R.pass C rfl rfl <| R.pass C rfl rfl <| R.pass C rfl rfl <| R.pass C rfl rfl <| R.pass C rfl rfl <| R.pickT C rfl rfl rfl rfl <| R.done C <| X.cond C.1 rfl (fun _ => ?_) (fun h => nomatch h)
          refine Xr C rfl rfl <| Ad C rfl rfl <| Xt C func25 <| Hp hret ?_
          simp [checkChart, hch, Bk.compassesH, hn', retVal, ← hr]
        · have hg := hg
          have hbd := isReach_bd (x := b.cs[i]) (by simpa using hg)
          refine Rf C 1 rfl rfl runUnderlying46 rfl sizeOf3 <| R.loadOne C rfl rfl rfl isAgg3 (by repeat (first | exact Mh | apply Mt)) rfl <| Rf C 0 rfl rfl runUnderlying46 rfl sizeOf3 <| R.loadOne C rfl rfl rfl isAgg3 (by repeat (first | exact Mh | apply Mt)) rfl <| R.int C rfl rfl rfl rfl (b_sub (by omega) (by omega)) <| R.int C rfl rfl rfl rfl b_geq <| R.pickF C rfl rfl rfl rfl <| R.done C <| X.cond C.1 rfl (fun hd => ?_) (fun hd => ?_)
          · have hd := hd
            have hf : (b.cs[i]).fine = false := by simp at hd; simp [Rc.fine]; intro _; omega
            simp [hf] at hr
            refine Xr C rfl rfl <| Ad C rfl rfl <| Xt C func25 <| Hp hret ?_
            simp [checkChart, hch, Bk.compassesH, hn', retVal, ← hr]
          · have hd := hd
            refine X.skip C.1 <| X.inBlock C.1 <| X.region C rfl rfl <| Rm C rfl rfl <| R.int C rfl rfl rfl rfl (b_add (by omega) (by omega)) <| Ad C rfl rfl ?_
            have hf : (b.cs[i]).fine = true := by simp at hd hg; simp [Rc.fine, hg]; omega
            simp [hf] at hr
            refine X.weak C.1 (Weak.sub (List.sublist_cons_self _ _)) (X.weaken ?_ (hnext (i + 1) ⟨by omega, hr⟩ (by omega)))
            exact ⟨rfl, by simp [look], trivial⟩
      · have hlt := hlt
        simp only [decide_eq_false_iff_not] at hlt
        obtain rfl : i = b.cs.length := by omega
        have hcs : b.compassesH = 0 := by simp [csH] at hr; simp [Bk.compassesH, hn', ← hr]
        have hcc : checkChart b = b.witnessesH := by simp [checkChart, hch, hcs]
        refine X.exit C.1 rfl <| Xs C <| Xr C rfl rfl <| Rf C 4 rfl rfl runUnderlying25 rfl sizeOf23 <| R.loadOne C rfl rfl rfl isAgg23 (by repeat (first | exact Mh | apply Mt)) rfl <| R.lenSlice C rfl rfl rfl runUnderlying23 <| R.int C rfl rfl rfl rfl b_gtr <| R.done C <| X.cond C.1 rfl (fun h5 => ?_) (fun h5 => ?_)
        · have h5 := h5
          refine Xr C rfl rfl <| Ad C rfl rfl <| Xt C func25 <| Hp hret ?_
          simp at h5
          rw [hcc]
          simp [Bk.witnessesH, retVal]; omega
        · have h5 := h5
          simp at h5
          refine X.skip C.1 <| Xs C <| Xr C rfl rfl <| Ad C rfl rfl <| X.block C.1 <| X.loopI (ι := Nat) C.1 (fun i => i ≤ b.ws.length ∧ wtsH b.cs.length (b.ws.drop i) = wtsH b.cs.length b.ws) (fun i => [(1, .pointer (some ⟨p1, 0, none⟩)), (5, .int .i64 (i : Int))])
            (fun _ => ⟨ro, (p1, .cells [.int .i64 b.w, .int .i64 b.h, .int .i64 b.f, .slice b1 b.cs.length c1, .slice b2 b.ws.length c2].toArray 25 (0, 0)) :: tail⟩) (fun i => b.ws.length - i) 0 ⟨Nat.zero_le _, rfl⟩ rfl ⟨rfl, rfl, trivial⟩ fun i hi hnext2 => ?_
          obtain ⟨hi, hr⟩ := hi
          refine Xs C <| Xr C rfl rfl <| Rm C rfl rfl <| Rf C 4 rfl rfl runUnderlying25 rfl sizeOf23 <| R.loadOne C rfl rfl rfl isAgg23 (by repeat (first | exact Mh | apply Mt)) rfl <| R.lenSlice C rfl rfl rfl runUnderlying23 <| R.int C rfl rfl rfl rfl b_lss <| R.done C <| X.cond C.1 rfl (fun hlt2 => ?_) (fun hlt2 => ?_)
          · have hlt2 := hlt2
            simp only [decide_eq_true_eq] at hlt2
            have hi' : i < b.ws.length := by omega
            obtain ⟨p, off, cap, l, t, fq, hsl, hrop, hsub⟩ := hw.at Wt.len (by omega)
            cases hsl
            rw [List.drop_eq_getElem_cons hi'] at hr
            simp only [wtsH] at hr
            refine X.skip C.1 <| Xs C <| X.block C.1 <| Xr C rfl rfl <| Rf C 4 rfl rfl runUnderlying25 rfl sizeOf23 <| R.loadOne C rfl rfl rfl isAgg23 (by repeat (first | exact Mh | apply Mt)) rfl <| Rm C rfl rfl <| Rx C rfl rfl rfl runUnderlying23 sizeOf58 <| R.loadAggRo C rfl rfl rfl isAgg58 sizeOf58 hrop (hsub i hi') <| R.alloc C rfl rfl zeroValue58 rfl fun p6 => R.store C rfl rfl rfl rfl sizeOf58 rfl rfl rfl (by repeat (first | exact Uh | apply Ut)) (.here (.here (.here (.here (.here .nil))))) <| R.done C <| Xs C <| Xr C rfl rfl <| Rf C 0 rfl rfl runUnderlying58 rfl sizeOf27 <| R.loadAgg C rfl rfl rfl isAgg27 sizeOf27 (by repeat (first | exact Mh | apply Mt)) Tk2 <| R.callP C rfl rfl rfl rfl (nearR_c hJ (b.ws[i]).s _) <| R.not C rfl rfl rfl <| Rm C rfl rfl <| R.fix (t := 71) rfl (fun hg2 => ?_) (fun hg2 => ?_)
            · have hg2 := hg2
              refine R.pass C rfl rfl <| R.pass C rfl rfl <| R.pass C rfl rfl <| R.pass C rfl rfl <| R.pickT C rfl rfl rfl rfl <| R.done C <| X.cond C.1 rfl (fun _ => ?_) (fun h => nomatch h)
              refine Xr C rfl rfl <| Ad C rfl rfl <| Xt C func25 <| Hp hret ?_
              simp at hg2
              simp [hg2] at hr
              rw [hcc]
              simp [Bk.witnessesH, retVal, ← hr]; omega
            · have hg2 := hg2
              refine Rf C 2 rfl rfl runUnderlying58 rfl sizeOf3 <| R.loadOne C rfl rfl rfl isAgg3 (by repeat (first | exact Mh | apply Mt)) rfl <| R.callP C rfl rfl rfl rfl (betweenR_c hJ _ _ _ _) <| R.not C rfl rfl rfl <| R.pickF C rfl rfl rfl rfl <| R.done C <| X.cond C.1 rfl (fun hd => ?_) (fun hd => ?_)
              · have hd := hd
                refine Xr C rfl rfl <| Ad C rfl rfl <| Xt C func25 <| Hp hret ?_
                simp at hg2 hd
                simp [hg2, hd] at hr
                rw [hcc]
                simp [Bk.witnessesH, retVal, ← hr]; omega
              · have hd := hd
                refine X.skip C.1 <| Xr C rfl rfl <| R.loadAgg C rfl rfl rfl isAgg25 sizeOf25 (by repeat (first | exact Mh | apply Mt)) Tk5 <| Rf C 3 rfl rfl runUnderlying58 rfl sizeOf3 <| R.loadOne C rfl rfl rfl isAgg3 (by repeat (first | exact Mh | apply Mt)) rfl <| R.callP C rfl rfl rfl rfl (isCompassR_c hJ hvv hs0 _) <| R.not C rfl rfl rfl <| R.done C <| X.cond C.1 rfl (fun hk => ?_) (fun hk => ?_)
                · have hk := hk
                  refine Xr C rfl rfl <| Ad C rfl rfl <| Xt C func25 <| Hp hret ?_
                  simp at hg2 hd hk
                  simp [hg2, hd, there, hk] at hr
                  rw [hcc]
                  simp [Bk.witnessesH, retVal, ← hr]; omega
                · have hk := hk
                  refine X.skip C.1 <| X.inBlock C.1 <| X.region C rfl rfl <| Rm C rfl rfl <| R.int C rfl rfl rfl rfl (b_add (by omega) (by omega)) <| Ad C rfl rfl ?_
                  simp at hg2 hd hk
                  simp [hg2, hd, there, hk] at hr
                  refine X.weak C.1 (Weak.sub (List.sublist_cons_self _ _)) (X.weaken ?_ (hnext2 (i + 1) ⟨by omega, hr⟩ (by omega)))
                  exact ⟨rfl, by simp [look], trivial⟩
          · have hlt2 := hlt2
            simp only [decide_eq_false_iff_not] at hlt2
            obtain rfl : i = b.ws.length := by omega
            simp [wtsH] at hr
            refine X.exit C.1 rfl <| Xr C rfl rfl <| Ad C rfl rfl <| Xt C func25 <| Hp hret ?_
            rw [hcc]
            simp [Bk.witnessesH, retVal, ← hr]; omega
  · have hone : b.chart = 1 := by
      simp only [Bk.chart] at hch ⊢
      split at hch
      · rename_i h; rw [if_pos h]
      · exact absurd rfl hch
    have hcc : checkChart b = 1 := by rw [checkChart, if_pos hch, hone]
    have hany : (!between b.w 2 7 || !between b.h 2 7 || !between b.f 0 2) = true := by
      simp only [Bk.chart] at hch
      split at hch
      · assumption
      · exact absurd rfl hch
    by_cases g1 : between b.w 2 7 = true
    · by_cases g2 : between b.h 2 7 = true
      · have g3 : between b.f 0 2 = false := by simpa [g1, g2] using hany
        refine CallP.intro hJ (by kernel_rfl) fun c cs tail hret => enter_X (n := 82) func25 rfl rfl (Nl rfl) ?_
        have C : Ctx prog main J (bf 25 .normal) := ⟨hJ, by decide⟩
        refine Xr C rfl rfl <| R.box C rfl rfl rfl rfl fun p1 => Ad C rfl rfl <| Xs C <| Xr C rfl rfl <| Rf C 0 rfl rfl runUnderlying25 rfl sizeOf3 <| R.loadOne C rfl rfl rfl isAgg3 (by repeat (first | exact Mh | apply Mt)) rfl <| R.callP C rfl rfl rfl rfl (betweenR_c hJ _ _ _ _) <| R.not C rfl rfl rfl <| R.fixv (t := 10) (v' := .bool false) rfl (by (rw [g1]; rfl)) <| Rm C rfl rfl <| Rf C 1 rfl rfl runUnderlying25 rfl sizeOf3 <| R.loadOne C rfl rfl rfl isAgg3 (by repeat (first | exact Mh | apply Mt)) rfl <| R.callP C rfl rfl rfl rfl (betweenR_c hJ _ _ _ _) <| R.not C rfl rfl rfl <| R.fixv (t := 15) (v' := .bool false) rfl (by (rw [g2]; rfl)) <| R.pickF C rfl rfl rfl rfl <| Rm C rfl rfl <| Rf C 2 rfl rfl runUnderlying25 rfl sizeOf3 <| R.loadOne C rfl rfl rfl isAgg3 (by repeat (first | exact Mh | apply Mt)) rfl <| R.callP C rfl rfl rfl rfl (betweenR_c hJ _ _ _ _) <| R.not C rfl rfl rfl <| R.fixv (t := 21) (v' := .bool true) rfl (by (rw [g3]; rfl)) <| R.pickF C rfl rfl rfl rfl <| R.done C <| X.cond C.1 rfl (fun _ => ?_) (fun h => nomatch h)
        refine Xr C rfl rfl <| Ad C rfl rfl <| Xt C func25 <| Hp hret ?_
        rw [hcc]; rfl
      · have g2 : between b.h 2 7 = false := by simpa using g2
        refine CallP.intro hJ (by kernel_rfl) fun c cs tail hret => enter_X (n := 82) func25 rfl rfl (Nl rfl) ?_
        have C : Ctx prog main J (bf 25 .normal) := ⟨hJ, by decide⟩
        refine Xr C rfl rfl <| R.box C rfl rfl rfl rfl fun p1 => Ad C rfl rfl <| Xs C <| Xr C rfl rfl <| Rf C 0 rfl rfl runUnderlying25 rfl sizeOf3 <| R.loadOne C rfl rfl rfl isAgg3 (by repeat (first | exact Mh | apply Mt)) rfl <| R.callP C rfl rfl rfl rfl (betweenR_c hJ _ _ _ _) <| R.not C rfl rfl rfl <| R.fixv (t := 10) (v' := .bool false) rfl (by (rw [g1]; rfl)) <| Rm C rfl rfl <| Rf C 1 rfl rfl runUnderlying25 rfl sizeOf3 <| R.loadOne C rfl rfl rfl isAgg3 (by repeat (first | exact Mh | apply Mt)) rfl <| R.callP C rfl rfl rfl rfl (betweenR_c hJ _ _ _ _) <| R.not C rfl rfl rfl <| R.fixv (t := 15) (v' := .bool true) rfl (by (rw [g2]; rfl)) <| R.pickF C rfl rfl rfl rfl <| Rm C rfl rfl <| R.pass C rfl rfl <| R.pass C rfl rfl <| R.pass C rfl rfl <| R.pass C rfl rfl <| R.pickT C rfl rfl rfl rfl <| R.done C <| X.cond C.1 rfl (fun _ => ?_) (fun h => nomatch h)
        refine Xr C rfl rfl <| Ad C rfl rfl <| Xt C func25 <| Hp hret ?_
        rw [hcc]; rfl
    · have g1 : between b.w 2 7 = false := by simpa using g1
      refine CallP.intro hJ (by kernel_rfl) fun c cs tail hret => enter_X (n := 82) func25 rfl rfl (Nl rfl) ?_
      have C : Ctx prog main J (bf 25 .normal) := ⟨hJ, by decide⟩
      refine Xr C rfl rfl <| R.box C rfl rfl rfl rfl fun p1 => Ad C rfl rfl <| Xs C <| Xr C rfl rfl <| Rf C 0 rfl rfl runUnderlying25 rfl sizeOf3 <| R.loadOne C rfl rfl rfl isAgg3 (by repeat (first | exact Mh | apply Mt)) rfl <| R.callP C rfl rfl rfl rfl (betweenR_c hJ _ _ _ _) <| R.not C rfl rfl rfl <| R.fixv (t := 10) (v' := .bool true) rfl (by (rw [g1]; rfl)) <| Rm C rfl rfl <| R.pass C rfl rfl <| R.pass C rfl rfl <| R.pass C rfl rfl <| R.pass C rfl rfl <| R.pickT C rfl rfl rfl rfl <| Rm C rfl rfl <| R.pass C rfl rfl <| R.pass C rfl rfl <| R.pass C rfl rfl <| R.pass C rfl rfl <| R.pickT C rfl rfl rfl rfl <| R.done C <| X.cond C.1 rfl (fun _ => ?_) (fun h => nomatch h)
      refine Xr C rfl rfl <| Ad C rfl rfl <| Xt C func25 <| Hp hret ?_
      rw [hcc]; rfl
end
end Go.Lg.B
namespace Go.Lg.B
open Go Go.Conc Go.Lg Go.Proofs Go.Proofs.Tryz
theorem ic_at {l : List Int} {off : Nat} {ll : List Value} (hsub : ∀ i (hi : i < l.length), Sub (off + i * 1) 1 ll (ic l[i])) {i : Nat} (hi : i < l.length) : ll[off + i * 1]? = some (.int .i64 l[i]) := by
  have := (hsub i hi).get 0 (by decide)
  simpa [ic] using this
section
variable {main : Bool} {J : Goroutine → Mem → Prop} (hJ : Closed prog main J)
include hJ
theorem holdsR_c {v : Value} {ro : RO} {l : List Int} (hl : LsI ro v l) (hn : l.length ≤ 1000000) (n : Int) : CallP prog J (fnv 54) [v, .int .i64 n] ro (.bool (l.contains n)) := by
  obtain ⟨lb, lc, rfl⟩ := hl.form
  refine CallP.intro hJ (by kernel_rfl) fun c cs tail hret => enter_X (n := 18) func54 rfl rfl (Nl rfl) ?_
  have C : Ctx prog main J (bf 54 .normal) := ⟨hJ, by decide⟩
  refine Xr C rfl rfl <| Ad C rfl rfl <| Xs C <| Xr C rfl rfl <| Ad C rfl rfl <| X.block C.1 <| X.loopI (ι := Nat) C.1 (fun i => i ≤ l.length ∧ l.contains n = (l.drop i).contains n) (fun i => [(0, .slice lb l.length lc), (1, .int .i64 n), (5, .int .i64 (i : Int))])
    (fun _ => ⟨ro, tail⟩) (fun i => l.length - i) 0 ⟨Nat.zero_le _, rfl⟩ rfl ⟨rfl, rfl, rfl, trivial⟩ fun i hi hnext => ?_
  obtain ⟨hi, hr⟩ := hi
  refine Xs C <| Xr C rfl rfl <| Rm C rfl rfl <| Rm C rfl rfl <| R.lenSlice C rfl rfl rfl runUnderlying28 <| R.int C rfl rfl rfl rfl b_lss <| R.done C <| X.cond C.1 rfl (fun hlt => ?_) (fun hlt => ?_)
  · have hlt := hlt
    simp only [decide_eq_true_eq] at hlt
    have hi' : i < l.length := by omega
    obtain ⟨pp, off, cap, ll, t, fq, hsl, hrop, hsub⟩ := hl.at ic_len (by omega)
    cases hsl
    have hx := ic_at hsub hi'
    rw [List.drop_eq_getElem_cons hi', List.contains_cons] at hr
    refine X.skip C.1 <| Xs C <| X.block C.1 <| Xr C rfl rfl <| Rm C rfl rfl <| Rm C rfl rfl <| Rx C rfl rfl rfl runUnderlying28 sizeOf3 <| R.loadOneRo C rfl rfl rfl isAgg3 hrop hx <| Rm C rfl rfl <| R.int C rfl rfl rfl rfl b_eql <| R.done C <| X.cond C.1 rfl (fun he => ?_) (fun he => ?_)
    · have he := he
      have he2 : l[i] = n := by simpa using he
      rw [he2, beq_self_eq_true, Bool.true_or] at hr
      refine Xr C rfl rfl <| Ad C rfl rfl <| Xt C func54 <| Hp hret ?_
      rw [hr]; rfl
    · have he := he
      have he2 : l[i] ≠ n := by simpa using he
      rw [beq_eq_false_iff_ne.2 (Ne.symm he2), Bool.false_or] at hr
      refine X.skip C.1 <| X.inBlock C.1 <| X.region C rfl rfl <| Rm C rfl rfl <| R.int C rfl rfl rfl rfl (b_add (by omega) (by omega)) <| Ad C rfl rfl <| X.weaken ?_ (hnext (i + 1) ⟨hi', hr⟩ (by omega))
      exact ⟨rfl, rfl, by simp [look], trivial⟩
  · have hlt := hlt
    simp only [decide_eq_false_iff_not] at hlt
    obtain rfl : i = l.length := by omega
    rw [List.drop_length] at hr
    refine X.exit C.1 rfl <| Xr C rfl rfl <| Ad C rfl rfl <| Xt C func54 <| Hp hret ?_
    rw [hr]; rfl
end
end Go.Lg.B
namespace Go.Lg.B
open Go Go.Conc Go.Lg Go.Proofs Go.Proofs.Tryz
def ext (most : Int) (i : Nat) (l : List (List Int)) : List (List Int) := (l.filter fun x => decide ((x.length : Int) < most)).map fun x => x ++ [(i : Int)]
def sets (most : Int) : Nat → List (List Int)
  | 0 => [[]]
  | i + 1 => sets most i ++ ext most i (sets most i)
theorem sets_each (most : Int) : ∀ n, ∀ l ∈ sets most n, l.length ≤ n
  | 0, l, h => by simp [sets] at h; simp [h]
  | n + 1, l, h => by
    rcases List.mem_append.1 h with h | h
    · have := sets_each most n l h; omega
    · obtain ⟨x, hx, rfl⟩ := List.mem_map.1 h
      have := sets_each most n x (List.mem_filter.1 hx).1
      simp; omega
abbrev LE := Value × List Int
def le (p : LE) : List Value := [p.1]
section
variable {main : Bool} {J : Goroutine → Mem → Prop} (hJ : Closed prog main J)
include hJ
end
end Go.Lg.B
namespace Go.Lg.B
open Go Go.Conc Go.Lg Go.Proofs Go.Proofs.Tryz
def sqAt (w : Int) (n : Nat) : Sq := ⟨(n : Int) % w, (n : Int) / w⟩
def squares (b : Bk) : List Sq := (List.range (b.w * b.h).toNat).map (sqAt b.w)
section
variable {main : Bool} {J : Goroutine → Mem → Prop} (hJ : Closed prog main J)
include hJ
end
end Go.Lg.B
namespace Go.Lg.B
open Go Go.Conc Go.Lg Go.Proofs Go.Proofs.Tryz
def wideRc (x : Rc) : Nat := (x.hi + 1 - x.lo).toNat
def offsStep (x : Rc) (l : List (List Int)) : List (List Int) := l.flatMap fun o => (rz x.lo (wideRc x)).map fun n => o ++ [n]
def offsAll (l : List Rc) : List (List Int) := l.foldl (fun a x => offsStep x a) [[]]
theorem offsAll_succ (l : List Rc) {i : Nat} (h : i < l.length) : offsAll (l.take (i + 1)) = offsStep l[i] (offsAll (l.take i)) := by
  unfold offsAll
  rw [List.take_add_one, List.getElem?_eq_getElem h, List.foldl_append]
  rfl
theorem offsAll_each (l : List Rc) : ∀ i, i ≤ l.length → ∀ o ∈ offsAll (l.take i), o.length = i
  | 0, _, o, ho => by simp [offsAll] at ho; simp [ho]
  | i + 1, hi, o, ho => by
    rw [offsAll_succ l (by omega)] at ho
    obtain ⟨o', h1, h2⟩ := List.mem_flatMap.1 ho
    obtain ⟨n, _, rfl⟩ := List.mem_map.1 h2
    have := offsAll_each l i (by omega) o' h1
    simp [this]
section
variable {main : Bool} {J : Goroutine → Mem → Prop} (hJ : Closed prog main J)
include hJ
end
end Go.Lg.B
namespace Go.Lg.B
open Go Go.Conc Go.Lg Go.Proofs Go.Proofs.Tryz
abbrev CE := (Value × Value) × Cs
def ce (p : CE) : List Value := [.int .i64 p.2.s.e, .int .i64 p.2.s.n, p.1.1, p.1.2]
def LC (ro : RO) (v : Value) (l : List Cs) : Prop := ∃ xs : List CE, Ls ce 4 ro v xs ∧ xs.map (·.2) = l ∧ ∀ p ∈ xs, LsI ro p.1.1 p.2.o ∧ LsI ro p.1.2 p.2.f
def allR (b : Bk) (c : Cs) : Bool := (List.range b.ws.length).all fun i => c.f.contains (i : Int) || right (b.wt i) c.aim
def withAt (b : Bk) (l : List Int) (s : Sq) (os : List (List Int)) : List Cs := (os.filter fun o => allR b ⟨s, o, l⟩).map fun o => ⟨s, o, l⟩
def withFalse (b : Bk) (l : List Int) : List Cs := (squares b).flatMap fun s => withAt b l s (offsAll b.cs)
theorem offsAll_in {l : List Rc} (hf : ∀ x ∈ l, x.fine = true) : ∀ i, i ≤ l.length → ∀ o ∈ offsAll (l.take i), ∀ n ∈ o, -3 ≤ n ∧ n ≤ 3
  | 0, _, o, ho => by simp [offsAll] at ho; simp [ho]
  | i + 1, hi, o, ho => by
    rw [offsAll_succ l (by omega)] at ho
    obtain ⟨o', h1, h2⟩ := List.mem_flatMap.1 ho
    obtain ⟨n, hn, rfl⟩ := List.mem_map.1 h2
    have hfx := hf _ (List.getElem_mem (show i < l.length by omega))
    simp only [Rc.fine, isReach, Bool.and_eq_true, decide_eq_true_eq] at hfx
    rw [rz_iff] at hn
    intro m hm
    rcases List.mem_append.1 hm with hm | hm
    · exact offsAll_in hf i (by omega) o' h1 m hm
    · rw [List.mem_singleton.1 hm]; unfold wideRc at hn; omega
theorem squares_len {b : Bk} (hb : b.good) : (squares b).length ≤ 49 := by
  have hw := hb.w
  have hh := hb.h
  have h49 : b.w * b.h ≤ 49 := by
    have : b.w * b.h ≤ 7 * 7 := Int.mul_le_mul hw.2 hh.2 (by omega) (by decide)
    omega
  simp [squares]; omega
section
variable {main : Bool} {J : Goroutine → Mem → Prop} (hJ : Closed prog main J)
include hJ
end
end Go.Lg.B
namespace Go.Lg.B
open Go Go.Conc Go.Lg Go.Proofs Go.Proofs.Tryz
def noSure (b : Bk) (l : List Int) : Bool := !(l.any fun k => (b.wt k.toNat).sure)
def casesL (b : Bk) : List Cs := ((sets b.f b.ws.length).filter (noSure b)).flatMap (withFalse b)
theorem LC.mono {ro ro' : RO} {v : Value} {l : List Cs} (h : LC ro v l) (hl : ro.le ro') : LC ro' v l := by
  obtain ⟨xs, h1, h2, h3⟩ := h
  exact ⟨xs, h1.mono hl, h2, fun p hp => ⟨(h3 p hp).1.mono hl, (h3 p hp).2.mono hl⟩⟩
def knownH (b : Bk) (there : Bool) : Int := if checkChart b ≠ 0 then checkChart b else if there = false then 6 else if casesL b = [] then 9 else 0
section
variable {main : Bool} {J : Goroutine → Mem → Prop} (hJ : Closed prog main J)
include hJ
end
end Go.Lg.B
namespace Go.Lg.B
open Go Go.Conc Go.Lg Go.Proofs Go.Proofs.Tryz
theorem flatMap_two {α β : Type} (g h : α → List β) : ∀ l : List α, (l.flatMap g ++ l.flatMap h).Perm (l.flatMap fun x => g x ++ h x)
  | [] => .refl _
  | x :: l => by
    have ih := flatMap_two g h l
    simp only [List.flatMap_cons]
    have e1 : (g x ++ l.flatMap g ++ (h x ++ l.flatMap h)).Perm (g x ++ (h x ++ (l.flatMap g ++ l.flatMap h))) := by
      rw [List.append_assoc]
      refine List.Perm.append_left _ ?_
      rw [← List.append_assoc, ← List.append_assoc]
      exact List.Perm.append_right _ List.perm_append_comm
    refine e1.trans ?_
    rw [List.append_assoc (g x) (h x)]
    exact List.Perm.append_left _ (List.Perm.append_left _ ih)
theorem flatMap_swap {α β γ : Type} (f : α → β → List γ) (m : List β) : ∀ l : List α, (l.flatMap fun x => m.flatMap fun y => f x y).Perm (m.flatMap fun y => l.flatMap fun x => f x y)
  | [] => by
    have : (m.flatMap fun y => ([] : List α).flatMap fun x => f x y) = [] := by simp
    rw [this]; exact .refl _
  | x :: l => by
    simp only [List.flatMap_cons]
    exact (List.Perm.append_left _ (flatMap_swap f m l)).trans (flatMap_two _ _ m)
theorem filter_as_flat {α β : Type} (p : α → Bool) (f : α → β) : ∀ l : List α, (l.filter p).map f = l.flatMap fun x => if p x = true then [f x] else []
  | [] => rfl
  | x :: l => by
    have ih := filter_as_flat p f l
    by_cases h : p x = true
    · simp [h, ih]
    · simp [h, ih]
theorem flat_filter {α β : Type} (p : α → Bool) (f : α → List β) : ∀ l : List α, (l.filter p).flatMap f = l.flatMap fun x => if p x = true then f x else []
  | [] => rfl
  | x :: l => by
    have ih := flat_filter p f l
    by_cases h : p x = true
    · simp [h, ih]
    · simp [h, ih]
theorem flat_congr {α β : Type} {f g : α → List β} : ∀ {l : List α}, (∀ x ∈ l, f x = g x) → l.flatMap f = l.flatMap g
  | [], _ => rfl
  | x :: l, h => by simp only [List.flatMap_cons, h x List.mem_cons_self, flat_congr fun y hy => h y (List.mem_cons_of_mem _ hy)]
theorem perm_flat {α β : Type} (f : α → List β) {l m : List α} (h : l.Perm m) : (l.flatMap f).Perm (m.flatMap f) := by
  induction h with
  | nil => exact .refl _
  | cons x _ ih => simp only [List.flatMap_cons]; exact List.Perm.append_left _ ih
  | swap x y l =>
    simp only [List.flatMap_cons, ← List.append_assoc]
    exact List.Perm.append_right _ List.perm_append_comm
  | trans _ _ h1 h2 => exact h1.trans h2
theorem sets_iff {most : Int} (hm : 0 ≤ most) : ∀ (n : Nat) (l : List Int), l ∈ sets most n ↔ List.Pairwise (· < ·) l ∧ (∀ k ∈ l, 0 ≤ k ∧ k < (n : Int)) ∧ (l.length : Int) ≤ most
  | 0, l => by
    simp only [sets, List.mem_singleton]
    constructor
    · rintro rfl; simp [hm]
    · rintro ⟨_, h2, _⟩
      cases l with
      | nil => rfl
      | cons x l => have := h2 x List.mem_cons_self; omega
  | n + 1, l => by
    simp only [sets, List.mem_append, ext, List.mem_map, List.mem_filter, decide_eq_true_eq]
    constructor
    · rintro (h | ⟨x, ⟨hx, hlt⟩, rfl⟩)
      · obtain ⟨h1, h2, h3⟩ := (sets_iff hm n l).1 h
        exact ⟨h1, fun k hk => by have := h2 k hk; omega, h3⟩
      · obtain ⟨h1, h2, h3⟩ := (sets_iff hm n x).1 hx
        refine ⟨List.pairwise_append.2 ⟨h1, List.pairwise_singleton _ _, fun a ha c hc => ?_⟩, fun k hk => ?_, ?_⟩
        · rw [List.mem_singleton.1 hc]; exact (h2 a ha).2
        · rcases List.mem_append.1 hk with hk | hk
          · have := h2 k hk; omega
          · rw [List.mem_singleton.1 hk]; omega
        · simp; omega
    · rintro ⟨h1, h2, h3⟩
      rcases List.eq_nil_or_concat l with rfl | ⟨x, k, rfl⟩
      · exact .inl ((sets_iff hm n []).2 ⟨.nil, by simp, by simpa using hm⟩)
      · rw [List.concat_eq_append] at h1 h2 h3 ⊢
        obtain ⟨p1, _, p3⟩ := List.pairwise_append.1 h1
        have hk := h2 k (by simp)
        have hx : ∀ a ∈ x, a < k := fun a ha => p3 a ha k (by simp)
        simp only [List.length_append, List.length_cons, List.length_nil] at h3
        by_cases e : k = n
        · subst e
          exact .inr ⟨x, ⟨(sets_iff hm n x).2 ⟨p1, fun a ha => ⟨(h2 a (by simp [ha])).1, hx a ha⟩, by omega⟩, by omega⟩, rfl⟩
        · refine .inl ((sets_iff hm n _).2 ⟨h1, fun a ha => ⟨(h2 a ha).1, ?_⟩, by simp; omega⟩)
          rcases List.mem_append.1 ha with ha | ha
          · have := hx a ha; omega
          · rw [List.mem_singleton.1 ha]; omega
theorem sets_nodup {most : Int} (hm : 0 ≤ most) : ∀ n, (sets most n).Nodup
  | 0 => by simp [sets]
  | n + 1 => by
    have ih := sets_nodup hm n
    refine List.nodup_append.2 ⟨ih, ?_, fun a ha c hc => ?_⟩
    · unfold ext
      refine List.pairwise_map.2 ((ih.filter _).imp fun h e => h (List.append_cancel_right e))
    · obtain ⟨x, _, rfl⟩ := List.mem_map.1 hc
      rintro rfl
      have := ((sets_iff hm n _).1 ha).2.1 (n : Int) (by simp)
      omega
def maskL (n : Nat) (l : List Int) : Nat := maskOf (fun i => l.contains (i : Int)) n
theorem maskL_bit {n : Nat} {l : List Int} (h : ∀ k ∈ l, 0 ≤ k ∧ k < (n : Int)) (i : Nat) : (maskL n l).testBit i = l.contains (i : Int) := by
  rw [maskL, maskOf_bit]
  by_cases hi : i < n
  · simp [hi]
  · have : l.contains (i : Int) = false := by
      rw [Bool.eq_false_iff]; intro hc
      have := h _ (by simpa using hc); omega
    rw [this]; simp
def okM (b : Bk) (m : Nat) : Bool := m &&& sureM b == 0 && decide (((listOf m).length : Int) ≤ b.f)
theorem ups_nodup : ∀ (m n : Nat), (ups n m).Nodup
  | 0, _ => by simp [ups]
  | m + 1, n => by
    simp only [ups, List.nodup_cons]
    exact ⟨fun h => by rw [ups_iff] at h; omega, ups_nodup m (n + 1)⟩
theorem listOf_maskL {n : Nat} (hn : n ≤ 5) {l : List Int} (h1 : List.Pairwise (· < ·) l) (h2 : ∀ k ∈ l, 0 ≤ k ∧ k < (n : Int)) : listOf (maskL n l) = l :=
  listOf_eq h1 (fun k hk => by have := h2 k hk; omega) (maskL_bit h2)
theorem noSure_mask {b : Bk} {l : List Int} (h : ∀ k ∈ l, 0 ≤ k ∧ k < (b.ws.length : Int)) : (maskL b.ws.length l &&& sureM b == 0) = noSure b l := by
  rw [Bool.eq_iff_iff, and_zero]
  simp only [maskL_bit h, sureM, maskOf_bit, noSure, Bool.not_eq_true', List.any_eq_false, Bool.not_eq_true]
  constructor
  · intro hh k hk
    obtain ⟨g1, g2⟩ := h k hk
    have := hh k.toNat (by rw [show ((k.toNat : Nat) : Int) = k by omega]; simpa using hk)
    rwa [decide_eq_true (by omega), Bool.true_and] at this
  · intro hh i hi
    have hm : (i : Int) ∈ l := by simpa using hi
    have := hh _ hm
    rw [show ((i : Int)).toNat = i by omega] at this
    rw [this]; simp
theorem masks_perm {b : Bk} (hb : b.good) : ((ups 0 (2 ^ b.ws.length)).filter (okM b)).Perm (((sets b.f b.ws.length).filter (noSure b)).map (maskL b.ws.length)) := by
  have hf := hb.f
  have hn := hb.nw
  refine (List.perm_ext_iff_of_nodup ((ups_nodup _ _).filter _) ?_).2 fun m => ?_
  · refine List.pairwise_map.2 (List.Pairwise.imp_of_mem (fun {a c} ha hc hne e => hne ?_) ((sets_nodup hf.1 b.ws.length).filter (noSure b)))
    obtain ⟨a1, a2, _⟩ := (sets_iff hf.1 _ _).1 (List.mem_filter.1 ha).1
    obtain ⟨c1, c2, _⟩ := (sets_iff hf.1 _ _).1 (List.mem_filter.1 hc).1
    rw [← listOf_maskL hn a1 a2, e, listOf_maskL hn c1 c2]
  · simp only [List.mem_filter, List.mem_map, ups_iff, okM, Bool.and_eq_true, decide_eq_true_eq]
    constructor
    · rintro ⟨⟨_, h1⟩, h2, h3⟩
      have hr : ∀ k ∈ listOf m, 0 ≤ k ∧ k < (b.ws.length : Int) := fun k hk => by
        obtain ⟨i, _, hi, rfl⟩ := (bits_mem m k 5).1 hk
        refine ⟨by omega, ?_⟩
        by_cases hlt : i < b.ws.length
        · omega
        · have : m.testBit i = false := Nat.testBit_lt_two_pow (Nat.lt_of_lt_of_le (by simpa using h1) (Nat.pow_le_pow_right (by decide) (by omega)))
          rw [this] at hi; cases hi
      have hm : maskL b.ws.length (listOf m) = m := by
        refine Nat.eq_of_testBit_eq fun i => ?_
        rw [maskL_bit hr, Bool.eq_iff_iff]
        simp only [List.contains_eq_mem, decide_eq_true_eq]
        constructor
        · intro h
          obtain ⟨j, _, hj, e⟩ := (bits_mem m _ 5).1 h
          have : i = j := by omega
          rw [this]; exact hj
        · intro h
          refine (bits_mem m _ 5).2 ⟨i, ?_, h, rfl⟩
          by_cases hlt : i < 5
          · exact hlt
          · have : m.testBit i = false := Nat.testBit_lt_two_pow (Nat.lt_of_lt_of_le (by simpa using h1) (Nat.pow_le_pow_right (by decide) (by omega)))
            rw [this] at h; cases h
      refine ⟨listOf m, ⟨(sets_iff hf.1 _ _).2 ⟨bits_up m 5, hr, h3⟩, ?_⟩, hm⟩
      rw [← noSure_mask hr, hm]; exact h2
    · rintro ⟨l, ⟨h1, h2⟩, rfl⟩
      obtain ⟨a1, a2, a3⟩ := (sets_iff hf.1 _ _).1 h1
      refine ⟨⟨Nat.zero_le _, by simpa [maskL] using maskOf_lt _ _⟩, by rw [noSure_mask a2]; exact h2, by rw [listOf_maskL hn a1 a2]; exact a3⟩
theorem aims_eq {b : Bk} (hb : b.good) : aims b = (squares b).flatMap fun s => (offsAll b.cs).map fun o => Cs.aim ⟨s, o, []⟩ := by
  have hnc := hb.nc
  have hu : ∀ m, ups 0 m = List.range m := by
    have key : ∀ m n, ups n m = (List.range m).map (· + n) := by
      intro m
      induction m with
      | zero => intro n; rfl
      | succ m ih =>
        intro n
        rw [ups, ih, List.range_succ_eq_map, List.map_cons, List.map_map]
        simp only [Nat.zero_add, List.cons.injEq, true_and]
        refine List.map_congr_left fun x _ => ?_
        simp only [Function.comp]; omega
    intro m; rw [key]; simp
  obtain ⟨w, h, f, cs, ws⟩ := b
  unfold aims squares
  rw [hu, List.flatMap_map]
  refine flat_congr fun n _ => ?_
  have s0 : ∀ (a : Aim) (n : Int), a.set ((0 : Nat) : Int) n = { a with x := n } := fun _ _ => rfl
  have s1 : ∀ (a : Aim) (n : Int), a.set ((0 + 1 : Nat) : Int) n = { a with y := n } := fun _ _ => rfl
  have s2 : ∀ (a : Aim) (n : Int), a.set ((0 + 1 + 1 : Nat) : Int) n = { a with z := n } := fun _ _ => rfl
  simp only at hnc ⊢
  match cs, hnc with
  | [x], _ => simp [offs, offsAll, offsStep, s0, aimAt, Cs.aim, sqAt, wideRc, List.map_eq_flatMap, List.flatMap_assoc]; rfl
  | [x, y], _ => simp [offs, offsAll, offsStep, s0, s1, aimAt, Cs.aim, sqAt, wideRc, List.map_eq_flatMap, List.flatMap_assoc]; rfl
  | [x, y, z], _ => simp [offs, offsAll, offsStep, s0, s1, s2, aimAt, Cs.aim, sqAt, wideRc, List.map_eq_flatMap, List.flatMap_assoc]; rfl
def lotOf (b : Bk) (c : Cs) : Lot := ⟨c.aim, maskL b.ws.length c.f⟩
theorem okA_mask {b : Bk} {l : List Int} (h : ∀ k ∈ l, 0 ≤ k ∧ k < (b.ws.length : Int)) (s : Sq) (o : List Int) : (andNot (odd b (Cs.aim ⟨s, o, l⟩)) (maskL b.ws.length l) == 0) = allR b ⟨s, o, l⟩ := by
  rw [Bool.eq_iff_iff, andNot_zero]
  simp only [odd, maskOf_bit, maskL_bit h, Bool.and_eq_true, decide_eq_true_eq, allR, List.all_eq_true, List.mem_range, Bool.or_eq_true, Bool.not_eq_true']
  constructor
  · intro hh i hi
    cases hr : right (b.wt i) (Cs.aim ⟨s, o, l⟩)
    · exact .inl (hh i ⟨hi, hr⟩)
    · exact .inr rfl
  · rintro hh i ⟨hi, hr⟩
    rcases hh i hi with h1 | h1
    · exact h1
    · rw [hr] at h1; cases h1
theorem cases_perm {b : Bk} (hb : b.good) : ((casesL b).map (lotOf b)).Perm (cases b) := by
  have e1 : cases b = (aims b).flatMap fun a => (ups 0 (2 ^ b.ws.length)).flatMap fun m => if okMask b a m = true then [⟨a, m⟩] else [] := by
    unfold cases lots
    refine flat_congr fun a _ => ?_
    exact filter_as_flat _ _ _
  rw [e1]
  refine List.Perm.trans ?_ (flatMap_swap (fun a m => if okMask b a m = true then [(⟨a, m⟩ : Lot)] else []) (ups 0 (2 ^ b.ws.length)) (aims b)).symm
  have e2 : ((ups 0 (2 ^ b.ws.length)).flatMap fun m => (aims b).flatMap fun a => if okMask b a m = true then [(⟨a, m⟩ : Lot)] else []) = ((ups 0 (2 ^ b.ws.length)).filter (okM b)).flatMap fun m => (aims b).flatMap fun a => if (andNot (odd b a) m == 0) = true then [(⟨a, m⟩ : Lot)] else [] := by
    rw [flat_filter]
    refine flat_congr fun m _ => ?_
    by_cases h : okM b m = true
    · rw [if_pos h]
      refine flat_congr fun a _ => ?_
      have : okMask b a m = (andNot (odd b a) m == 0) := by
        have h' : (m &&& sureM b == 0 && decide (((listOf m).length : Int) ≤ b.f)) = true := h
        rw [okMask, h', Bool.and_true]
      rw [this]
    · rw [if_neg h]
      have : ∀ a, okMask b a m = false := fun a => by
        have h' : (m &&& sureM b == 0 && decide (((listOf m).length : Int) ≤ b.f)) = false := by simpa [okM] using h
        rw [okMask, h', Bool.and_false]
      simp [this]
  rw [e2]
  refine List.Perm.trans ?_ (perm_flat _ (masks_perm hb)).symm
  rw [List.flatMap_map, casesL, List.map_flatMap]
  refine List.Perm.of_eq (flat_congr fun l hl => ?_)
  obtain ⟨_, a2, _⟩ := (sets_iff hb.f.1 _ _).1 (List.mem_filter.1 hl).1
  rw [aims_eq hb, List.flatMap_assoc, withFalse, List.map_flatMap]
  refine flat_congr fun s _ => ?_
  rw [withAt, List.map_map, filter_as_flat, List.flatMap_map]
  refine flat_congr fun o _ => ?_
  have e3 : Cs.aim ⟨s, o, []⟩ = Cs.aim ⟨s, o, l⟩ := rfl
  rw [e3, okA_mask a2]
  rfl
end Go.Lg.B
namespace Go.Lg.B
open Go Go.Conc Go.Lg Go.Proofs Go.Proofs.Tryz
theorem b_subW {P : Program} {t : TypeId} {m n : Int} : ∀ M K, K (.int .i64 (IntKind.i64.wrap (m - n))) M → Sm P M (binOp .sub t (.int .i64 m) (.int .i64 n)) K := fun M K h => by
  unfold binOp; simp only [ne_eq, not_true_eq_false, if_false, Op.intArith]; exact Sm.pure h
def wheresR (b : Bk) : List Sq := if knownH b true ≠ 0 then [] else (squares b).filter fun s => (casesL b).any fun c => decide (c.s = s)
theorem known_good {b : Bk} {th : Bool} (h : knownH b th = 0) : b.good ∧ th = true ∧ casesL b ≠ [] := by
  unfold knownH at h
  by_cases h1 : checkChart b ≠ 0
  · rw [if_pos h1] at h; exact absurd h h1
  · rw [if_neg h1] at h
    by_cases h2 : th = false
    · rw [if_pos h2] at h; cases h
    · rw [if_neg h2] at h
      by_cases h3 : casesL b = []
      · rw [if_pos h3] at h; cases h
      · exact ⟨good_iff.1 (by simpa using h1), by simpa using h2, h3⟩
section
variable {main : Bool} {J : Goroutine → Mem → Prop} (hJ : Closed prog main J)
include hJ
end
section
variable {main : Bool} {J : Goroutine → Mem → Prop} (hJ : Closed prog main J)
include hJ
end
end Go.Lg.B
namespace Go.Lg.B
open Go Go.Conc Go.Lg Go.Proofs Go.Proofs.Tryz
theorem cases_len_eq {b : Bk} (hb : b.good) : (casesL b).length = (cases b).length := by
  have := (cases_perm hb).length_eq
  rwa [List.length_map] at this
theorem cases_nil_iff {b : Bk} (hb : b.good) : casesL b = [] ↔ cases b = [] := by
  have := cases_len_eq hb
  constructor
  · intro h; rw [h] at this; exact List.eq_nil_of_length_eq_zero this.symm
  · intro h; rw [h] at this; exact List.eq_nil_of_length_eq_zero this
theorem known_open (b : Bk) (th : Bool) : knownH b th = openH b (there th) := by
  unfold knownH openH
  by_cases h1 : checkChart b ≠ 0
  · rw [if_pos h1, if_pos h1]
  · rw [if_neg h1, if_neg h1]
    have hg := good_iff.1 (show checkChart b = 0 by simpa using h1)
    cases th
    · rfl
    · simp only [there, if_true]
      by_cases h : cases b = []
      · simp [h, (cases_nil_iff hg).2 h]
      · simp [h, mt (cases_nil_iff hg).1 h]
theorem known_open0 (b : Bk) : knownH b true = openH b 0 := known_open b true
theorem addNew_block (s : Sq) : ∀ (l acc : List Sq), (∀ x ∈ l, x = s) → s ∈ acc → l.foldl addNew acc = acc
  | [], _, _, _ => rfl
  | x :: l, acc, h, hs => by
    have hx := h x List.mem_cons_self
    subst hx
    rw [List.foldl_cons, addNew, if_pos hs]
    exact addNew_block x l acc (fun y hy => h y (List.mem_cons_of_mem _ hy)) hs
theorem firsts_blocks (g : Sq → List Sq) : ∀ (S acc : List Sq), S.Nodup → (∀ s ∈ S, s ∉ acc) → (∀ s ∈ S, ∀ x ∈ g s, x = s) → (S.flatMap g).foldl addNew acc = acc ++ S.filter fun s => !(g s).isEmpty
  | [], acc, _, _, _ => by simp
  | s :: S, acc, hn, hd, hg => by
    rw [List.flatMap_cons, List.foldl_append]
    obtain ⟨n1, n2⟩ := List.nodup_cons.1 hn
    have hgs := hg s List.mem_cons_self
    cases hc : g s with
    | nil =>
      rw [List.foldl_nil, firsts_blocks g S acc n2 (fun x hx => hd x (List.mem_cons_of_mem _ hx)) (fun x hx => hg x (List.mem_cons_of_mem _ hx))]
      simp [hc]
    | cons y l =>
      rw [hc] at hgs
      have hy := hgs y List.mem_cons_self
      subst hy
      rw [List.foldl_cons, addNew, if_neg (hd y List.mem_cons_self), addNew_block y l (acc ++ [y]) (fun x hx => hgs x (List.mem_cons_of_mem _ hx)) (by simp),
        firsts_blocks g S (acc ++ [y]) n2 (fun x hx => ?_) (fun x hx => hg x (List.mem_cons_of_mem _ hx))]
      · simp [hc]
      · intro h
        rcases List.mem_append.1 h with h | h
        · exact hd x (List.mem_cons_of_mem _ hx) h
        · rw [List.mem_singleton.1 h] at hx; exact n1 hx
theorem squares_nodup {b : Bk} (hb : b.good) : (squares b).Nodup := by
  have hw := hb.w
  unfold squares
  refine List.pairwise_map.2 (List.nodup_range.imp fun {n m} hne e => hne ?_)
  simp only [sqAt, Sq.mk.injEq] at e
  have h1 := Int.emod_add_mul_ediv (n : Int) b.w
  have h2 := Int.emod_add_mul_ediv (m : Int) b.w
  rw [e.1, e.2] at h1
  omega
theorem where_law (b : Bk) : wheres b = wheresR b := by
  unfold wheres wheresR
  rw [known_open0]
  by_cases h0 : openH b 0 ≠ 0
  · rw [if_pos h0, if_pos h0]
  · rw [if_neg h0, if_neg h0]
    have hg := (openH_good (show openH b 0 = 0 by simpa using h0)).1
    have e : (cases b).map (fun c => c.a.s) = (squares b).flatMap fun s => ((offsAll b.cs).map fun o => Cs.aim ⟨s, o, []⟩).flatMap fun a => (lots b a 0 (2 ^ b.ws.length)).map fun c => c.a.s := by
      unfold cases
      rw [aims_eq hg, List.flatMap_assoc, List.map_flatMap]
      refine flat_congr fun s _ => ?_
      rw [List.map_flatMap]
    rw [e]
    unfold firsts
    rw [firsts_blocks _ _ _ (squares_nodup hg) (fun s _ => by simp), List.nil_append]
    · refine List.filter_congr fun s hs => ?_
      rw [Bool.eq_iff_iff, Bool.not_eq_true', List.any_eq_true]
      have hmem : (∃ c ∈ casesL b, c.s = s) ↔ ∃ c ∈ cases b, c.a.s = s := by
        constructor
        · rintro ⟨c, hc, rfl⟩
          exact ⟨lotOf b c, (cases_perm hg).mem_iff.1 (List.mem_map_of_mem hc), rfl⟩
        · rintro ⟨c, hc, rfl⟩
          obtain ⟨c', hc', rfl⟩ := List.mem_map.1 ((cases_perm hg).mem_iff.2 hc)
          exact ⟨c', hc', rfl⟩
      simp only [decide_eq_true_eq]
      rw [hmem, List.isEmpty_eq_false_iff_exists_mem]
      constructor
      · rintro ⟨x, hx⟩
        obtain ⟨a, ha, hx⟩ := List.mem_flatMap.1 hx
        obtain ⟨o, ho, rfl⟩ := List.mem_map.1 ha
        obtain ⟨c, hc, rfl⟩ := List.mem_map.1 hx
        have hca : c.a = Cs.aim ⟨s, o, []⟩ := by
          obtain ⟨k, _, rfl⟩ := List.mem_map.1 hc; rfl
        refine ⟨c, ?_, by rw [hca]; rfl⟩
        unfold cases
        refine List.mem_flatMap.2 ⟨Cs.aim ⟨s, o, []⟩, ?_, hc⟩
        rw [aims_eq hg]
        exact List.mem_flatMap.2 ⟨s, hs, List.mem_map.2 ⟨o, ho, rfl⟩⟩
      · rintro ⟨c, hc, rfl⟩
        unfold cases at hc
        obtain ⟨a, ha, hca⟩ := List.mem_flatMap.1 hc
        have hce : c.a = a := by
          obtain ⟨k, _, rfl⟩ := List.mem_map.1 hca; rfl
        rw [aims_eq hg] at ha
        obtain ⟨s', hs', ha⟩ := List.mem_flatMap.1 ha
        obtain ⟨o, ho, rfl⟩ := List.mem_map.1 ha
        have hss : c.a.s = s' := by rw [hce]; rfl
        refine ⟨c.a.s, List.mem_flatMap.2 ⟨Cs.aim ⟨c.a.s, o, []⟩, List.mem_map.2 ⟨o, ho, rfl⟩, List.mem_map.2 ⟨c, ?_, rfl⟩⟩⟩
        rw [hss]; exact hca
    · intro s _ x hx
      obtain ⟨a, ha, hx⟩ := List.mem_flatMap.1 hx
      obtain ⟨o, _, rfl⟩ := List.mem_map.1 ha
      obtain ⟨c, hc, rfl⟩ := List.mem_map.1 hx
      obtain ⟨k, _, rfl⟩ := List.mem_map.1 hc
      rfl
end Go.Lg.B
namespace Go.Lg.B
open Go Go.Conc Go.Lg Go.Proofs Go.Proofs.Tryz
theorem getD_at {α : Type} {l : List α} {i : Nat} {d : α} (h : i < l.length) : l.getD i d = l[i] := by simp [h]
def soundP (b : Bk) (l : List Int) : Bool := !(withFalse b l).isEmpty
theorem andNot_bit (a c i : Nat) : (andNot a c).testBit i = (a.testBit i && !c.testBit i) := by
  simp only [andNot, Nat.testBit_xor, Nat.testBit_and]
  cases a.testBit i <;> cases c.testBit i <;> rfl
theorem everybody_bit (b : Bk) (i : Nat) : (everybody b).testBit i = decide (i < b.ws.length) := by
  rw [everybody, Nat.testBit_two_pow_sub_one]
theorem soundP_iff {b : Bk} {l : List Int} : soundP b l = true ↔ ∃ s ∈ squares b, ∃ o ∈ offsAll b.cs, ∀ i, i < b.ws.length → l.contains (i : Int) = false → right (b.wt i) (Cs.aim ⟨s, o, []⟩) = true := by
  unfold soundP withFalse withAt
  rw [Bool.not_eq_true', List.isEmpty_eq_false_iff_exists_mem]
  simp only [List.mem_flatMap, List.mem_map, List.mem_filter]
  have e : ∀ s o, allR b ⟨s, o, l⟩ = true ↔ ∀ i, i < b.ws.length → l.contains (i : Int) = false → right (b.wt i) (Cs.aim ⟨s, o, []⟩) = true := fun s o => by
    simp only [allR, List.all_eq_true, List.mem_range, Bool.or_eq_true]
    constructor
    · intro h i hi hc
      rcases h i hi with g | g
      · rw [hc] at g; cases g
      · exact g
    · intro h i hi
      cases hc : l.contains (i : Int)
      · exact .inr (h i hi hc)
      · exact .inl rfl
  constructor
  · rintro ⟨c, s, hs, o, ⟨ho, ha⟩, rfl⟩; exact ⟨s, hs, o, ho, (e s o).1 ha⟩
  · rintro ⟨s, hs, o, ho, ha⟩; exact ⟨_, s, hs, o, ⟨ho, (e s o).2 ha⟩, rfl⟩
theorem together_iff {b : Bk} (hb : b.good) (m : Nat) : together b m = true ↔ ∃ s ∈ squares b, ∃ o ∈ offsAll b.cs, ∀ i, i < b.ws.length → m.testBit i = true → right (b.wt i) (Cs.aim ⟨s, o, []⟩) = true := by
  unfold together
  rw [List.any_eq_true, aims_eq hb]
  simp only [List.mem_flatMap, List.mem_map]
  have e : ∀ a, (odd b a &&& m == 0) = true ↔ ∀ i, i < b.ws.length → m.testBit i = true → right (b.wt i) a = true := fun a => by
    rw [and_zero]
    simp only [odd, maskOf_bit, Bool.and_eq_true, decide_eq_true_eq, Bool.not_eq_true']
    constructor
    · intro h i hi hm
      cases hr : right (b.wt i) a
      · rw [h i ⟨hi, hr⟩] at hm; cases hm
      · rfl
    · rintro h i ⟨hi, hr⟩
      cases hm : m.testBit i
      · rfl
      · rw [h i hi hm] at hr; cases hr
  constructor
  · rintro ⟨a, ⟨s, hs, o, ho, rfl⟩, h⟩; exact ⟨s, hs, o, ho, (e _).1 h⟩
  · rintro ⟨s, hs, o, ho, h⟩; exact ⟨_, ⟨s, hs, o, ho, rfl⟩, (e _).2 h⟩
theorem fewP_mask {b : Bk} (hb : b.good) {l : List Int} (h : ∀ k ∈ l, 0 ≤ k ∧ k < (b.ws.length : Int)) : fewP b (maskL b.ws.length l) = soundP b l := by
  rw [Bool.eq_iff_iff, fewP, together_iff hb, soundP_iff]
  simp only [andNot_bit, everybody_bit, maskL_bit h, Bool.and_eq_true, decide_eq_true_eq, Bool.not_eq_true']
  constructor
  · rintro ⟨s, hs, o, ho, hh⟩; exact ⟨s, hs, o, ho, fun i hi hc => hh i hi ⟨hi, hc⟩⟩
  · rintro ⟨s, hs, o, ho, hh⟩; exact ⟨s, hs, o, ho, fun i hi hc => hh i hi hc.2⟩
theorem up_len : ∀ (l : List Int) (a : Int) (n : Nat), List.Pairwise (· < ·) l → (∀ k ∈ l, a ≤ k ∧ k < a + n) → l.length ≤ n
  | [], _, _, _, _ => Nat.zero_le _
  | x :: l, a, n, h, hr => by
    obtain ⟨h1, h2⟩ := List.pairwise_cons.1 h
    have hx := hr x List.mem_cons_self
    have := up_len l (x + 1) (a + n - (x + 1)).toNat h2 fun k hk => by
      have := h1 k hk
      have := hr k (List.mem_cons_of_mem _ hk)
      omega
    rw [List.length_cons]; omega
theorem sets_all {n : Nat} {l : List Int} : l ∈ sets (n : Int) n ↔ List.Pairwise (· < ·) l ∧ ∀ k ∈ l, 0 ≤ k ∧ k < (n : Int) := by
  rw [sets_iff (by omega)]
  constructor
  · exact fun h => ⟨h.1, h.2.1⟩
  · exact fun h => ⟨h.1, h.2, by have := up_len l 0 n h.1 fun k hk => by have := h.2 k hk; omega
                                 omega⟩
theorem listOf_range {n m : Nat} (h : m < 2 ^ n) : ∀ k ∈ listOf m, 0 ≤ k ∧ k < (n : Int) := fun k hk => by
  obtain ⟨i, _, hi, rfl⟩ := (bits_mem m k 5).1 hk
  refine ⟨by omega, ?_⟩
  by_cases hlt : i < n
  · omega
  · have : m.testBit i = false := Nat.testBit_lt_two_pow (Nat.lt_of_lt_of_le h (Nat.pow_le_pow_right (by decide) (by omega)))
    rw [this] at hi; cases hi
theorem maskL_listOf {n m : Nat} (hn : n ≤ 5) (h : m < 2 ^ n) : maskL n (listOf m) = m := by
  refine Nat.eq_of_testBit_eq fun i => ?_
  rw [maskL_bit (listOf_range h), Bool.eq_iff_iff]
  simp only [List.contains_eq_mem, decide_eq_true_eq]
  constructor
  · intro h
    obtain ⟨j, _, hj, e⟩ := (bits_mem m _ 5).1 h
    have : i = j := by omega
    rw [this]; exact hj
  · intro hi
    refine (bits_mem m _ 5).2 ⟨i, ?_, hi, rfl⟩
    by_cases hlt : i < 5
    · exact hlt
    · have : m.testBit i = false := Nat.testBit_lt_two_pow (Nat.lt_of_lt_of_le h (Nat.pow_le_pow_right (by decide) (by omega)))
      rw [this] at hi; cases hi
theorem lists_mem {b : Bk} (hb : b.good) {P : Nat → Bool} {p : List Int → Bool} (hP : ∀ l, (∀ k ∈ l, 0 ≤ k ∧ k < (b.ws.length : Int)) → P (maskL b.ws.length l) = p l) (x : List Int) : x ∈ listsOf b P ↔ x ∈ sets (b.ws.length : Int) b.ws.length ∧ p x = true := by
  have hn := hb.nw
  rw [sets_all]
  simp only [listsOf, List.mem_map, List.mem_filter, List.mem_range]
  constructor
  · rintro ⟨m, ⟨hm, hp⟩, rfl⟩
    exact ⟨⟨bits_up m 5, listOf_range hm⟩, by rw [← hP _ (listOf_range hm), maskL_listOf hn hm]; exact hp⟩
  · rintro ⟨⟨h1, h2⟩, h3⟩
    exact ⟨maskL b.ws.length x, ⟨maskOf_lt _ _, by rw [hP _ h2]; exact h3⟩, listOf_maskL hn h1 h2⟩
end Go.Lg.B
namespace Go.Lg.B
open Go Go.Conc Go.Lg Go.Proofs Go.Proofs.Tryz
def fewL (b : Bk) : List Int := bestOf (listsOf b (fewP b))
theorem few_facts {b : Bk} (hb : b.good) : fewL b ∈ sets (b.ws.length : Int) b.ws.length ∧ soundP b (fewL b) = true ∧ ∀ x ∈ sets (b.ws.length : Int) b.ws.length, soundP b x = true → smaller x (fewL b) = false := by
  have hm := lists_mem hb (P := fewP b) (p := soundP b) fun _ h => fewP_mask hb h
  obtain ⟨h1, h2⟩ := bestOf_least (listsOf_few hb)
  obtain ⟨h3, h4⟩ := (hm _).1 h1
  exact ⟨h3, h4, fun x hx hp => by simpa [fewL] using h2 x ((hm x).2 ⟨hx, hp⟩)⟩
end Go.Lg.B
namespace Go.Lg.B
open Go Go.Conc Go.Lg Go.Proofs Go.Proofs.Tryz
theorem good_small {b : Bk} (h : checkChart b = 0) : b.cs.length ≤ 3 ∧ b.ws.length ≤ 5 := by
  have := good_iff.1 h
  exact ⟨this.nc.2, this.nw⟩
section
variable {main : Bool} {J : Goroutine → Mem → Prop} (hJ : Closed prog main J)
include hJ
theorem fitR_c {b : Bk} {v : Value} {ro : RO} (hv : BkV ro v b) : CallP prog J (fnv 47) [v] ro (.bool (checkChart b == 0)) := by
  have hvv := hv
  obtain ⟨vc, vw, rfl, hc, hw⟩ := hv
  by_cases hg : (decide (20 < b.cs.length) || decide (20 < b.ws.length)) = true
  · have hne : checkChart b ≠ 0 := fun h => by
      have := good_small h
      simp only [Bool.or_eq_true, decide_eq_true_eq] at hg; omega
    refine CallP.intro hJ (by kernel_rfl) fun c cs tail hret => enter_X (n := 11) func47 rfl rfl (Nl rfl) ?_
    have C : Ctx prog main J (bf 47 .normal) := ⟨hJ, by decide⟩
    refine Xr C rfl rfl <| R.box C rfl rfl rfl rfl fun p1 => Ad C rfl rfl <| Xr C rfl rfl <| R.loadAgg C rfl rfl rfl isAgg25 sizeOf25 (by repeat (first | exact Mh | apply Mt)) Tk5 <| R.callP C rfl rfl rfl rfl (greatR_c hJ hvv) <| R.not C rfl rfl rfl <| R.fixv (t := 5) (v' := .bool false) rfl (by (rw [hg]; rfl)) <| Rm C rfl rfl <| R.pass C rfl rfl <| R.pass C rfl rfl <| R.pass C rfl rfl <| R.pickF C rfl rfl rfl rfl <| Ad C rfl rfl <| Xt C func47 <| Hp hret ?_
    rw [beq_eq_false_iff_ne.2 hne]; rfl
  · have hg2 : (decide (20 < b.cs.length) || decide (20 < b.ws.length)) = false := by simpa using hg
    have hsh : b.short := by
      simp only [Bool.or_eq_false_iff, decide_eq_false_iff_not] at hg2
      unfold Bk.short; omega
    refine CallP.intro hJ (by kernel_rfl) fun c cs tail hret => enter_X (n := 11) func47 rfl rfl (Nl rfl) ?_
    have C : Ctx prog main J (bf 47 .normal) := ⟨hJ, by decide⟩
    refine Xr C rfl rfl <| R.box C rfl rfl rfl rfl fun p1 => Ad C rfl rfl <| Xr C rfl rfl <| R.loadAgg C rfl rfl rfl isAgg25 sizeOf25 (by repeat (first | exact Mh | apply Mt)) Tk5 <| R.callP C rfl rfl rfl rfl (greatR_c hJ hvv) <| R.not C rfl rfl rfl <| R.fixv (t := 5) (v' := .bool true) rfl (by (rw [hg2]; rfl)) <| Rm C rfl rfl <| R.loadAgg C rfl rfl rfl isAgg25 sizeOf25 (by repeat (first | exact Mh | apply Mt)) Tk5 <| R.callP C rfl rfl rfl rfl (checkChartR_c hJ hvv hsh) <| R.int C rfl rfl rfl rfl b_eql <| R.pickT C rfl rfl rfl rfl <| Ad C rfl rfl <| Xt C func47 <| Hp hret ?_
    rfl
end
end Go.Lg.B
namespace Go.Lg
open Go Go.Conc
theorem X.afterI {J : Goroutine → Mem → Prop} {b : Frame} {cs : List Frame} {n : Nat} {ds : List Deferred} {σ : Slots} {M : Mem} {k : List Item} {it : Item} {ι : Type} (Ex : ι → Prop) (σe : ι → Slots) (Me : ι → Mem) (hk : ∀ s, Ex s → X J b cs n k ds (σe s) (Me s))
    (h : (∀ s, Ex s → X J b cs n k ds (σe s) (Me s)) → X J b cs n (it :: k) ds σ M) : X J b cs n (it :: k) ds σ M := h hk
theorem X.after {J : Goroutine → Mem → Prop} {b : Frame} {cs : List Frame} {n : Nat} {ds : List Deferred} {σ : Slots} {M : Mem} {k : List Item} {id : Nat} {cc : Code} {ι : Type} (Ex : ι → Prop) (σe : ι → Slots) (Me : ι → Mem) (hk : ∀ s, Ex s → X J b cs n k ds (σe s) (Me s))
    (h : (∀ s, Ex s → X J b cs n k ds (σe s) (Me s)) → X J b cs n (.code (.block id cc) :: k) ds σ M) : X J b cs n (.code (.block id cc) :: k) ds σ M := h hk
end Go.Lg
namespace Go.Lg.B
open Go Go.Conc Go.Lg Go.Proofs Go.Proofs.Tryz
section
variable {main : Bool} {J : Goroutine → Mem → Prop} (hJ : Closed prog main J)
include hJ
end
end Go.Lg.B
namespace Go.Lg.B
open Go Go.Conc Go.Lg Go.Proofs Go.Proofs.Tryz
theorem compact_is (l : List Int) : (compactL (l.mergeSort fun x y => decide (x ≤ y))).Pairwise (· < ·) ∧ ∀ x, x ∈ compactL (l.mergeSort fun x y => decide (x ≤ y)) ↔ x ∈ l := by
  have hs : (l.mergeSort fun x y => decide (x ≤ y)).Pairwise (· ≤ ·) := by
    have := List.pairwise_mergeSort (le := fun x y : Int => decide (x ≤ y)) (by intro a b c; simp; omega) (by intro a b; simp; omega) l
    exact this.imp (by intro a b; simp)
  have hf := fold_asc _ [] .nil hs (by simp)
  refine ⟨hf.1, fun x => ?_⟩
  show x ∈ List.foldl cstep [] _ ↔ _
  rw [hf.2]
  simp [(List.mergeSort_perm l _).mem_iff]
section
variable {main : Bool} {J : Goroutine → Mem → Prop} (hJ : Closed prog main J)
include hJ
end
end Go.Lg.B
namespace Go.Lg.B
open Go Go.Conc Go.Lg Go.Proofs Go.Proofs.Tryz
theorem offsAll_snoc (l : List Rc) (x : Rc) : offsAll (l ++ [x]) = offsStep x (offsAll l) := by unfold offsAll; rw [List.foldl_append]; rfl
theorem offs_len {l : List Rc} : ∀ o ∈ offsAll l, o.length = l.length := by
  have := offsAll_each l l.length (Nat.le_refl _)
  rwa [List.take_length] at this
theorem aim_off (s : Sq) (o l : List Int) {k : Nat} (hk : k < 3) : (Cs.aim ⟨s, o, l⟩).off (k : Int) = o.getD k 0 := by
  have : k = 0 ∨ k = 1 ∨ k = 2 := by omega
  rcases this with rfl | rfl | rfl <;> rfl
theorem firsts_mem {α : Type} [DecidableEq α] {x : α} : ∀ (l acc : List α), x ∈ l.foldl addNew acc ↔ x ∈ acc ∨ x ∈ l
  | [], acc => by simp
  | y :: l, acc => by
    rw [List.foldl_cons, firsts_mem l]
    unfold addNew
    split
    · rename_i h
      constructor
      · rintro (g | g)
        · exact .inl g
        · exact .inr (List.mem_cons_of_mem _ g)
      · rintro (g | g)
        · exact .inl g
        · rcases List.mem_cons.1 g with rfl | g
          · exact .inl h
          · exact .inr g
    · simp only [List.mem_append, List.mem_cons, List.not_mem_nil, or_false]
      exact or_assoc
theorem wheres_mem {b : Bk} (h : openH b 0 = 0) (s : Sq) : s ∈ wheres b ↔ ∃ c ∈ cases b, c.a.s = s := by
  rw [wheres, if_neg (by simp [h]), firsts, firsts_mem]
  simp
theorem offOf_mem {b : Bk} {k : Int} (h : openH b (b.compass k) = 0) (x : Int) : x ∈ (offOf b k).1 ↔ ∃ c ∈ cases b, c.a.off k = x := by
  rw [offOf, if_neg (by simp [h])]
  show x ∈ compactL _ ↔ _
  rw [(compact_is _).2]
  simp
end Go.Lg.B
namespace Go.Lg.B
open Go Go.Conc Go.Lg Go.Proofs Go.Proofs.Tryz
theorem squares_mem {b : Bk} (hw : 0 < b.w) (hh : 0 < b.h) (s : Sq) : s ∈ squares b ↔ (0 ≤ s.e ∧ s.e < b.w) ∧ 0 ≤ s.n ∧ s.n < b.h := by
  have hwh : 0 ≤ b.w * b.h := Int.mul_nonneg (by omega) (by omega)
  simp only [squares, List.mem_map, List.mem_range]
  constructor
  · rintro ⟨n, hn, rfl⟩
    have h1 := Int.emod_nonneg (n : Int) (show b.w ≠ 0 by omega)
    have h2 := Int.emod_lt_of_pos (n : Int) hw
    have h3 := Int.ediv_nonneg (show (0 : Int) ≤ n by omega) (show 0 ≤ b.w by omega)
    have h4 : (n : Int) / b.w < b.h := Int.ediv_lt_of_lt_mul hw (by rw [Int.mul_comm]; omega)
    exact ⟨⟨h1, h2⟩, h3, h4⟩
  · rintro ⟨⟨h1, h2⟩, h3, h4⟩
    have h5 : 0 ≤ s.n * b.w := Int.mul_nonneg h3 (by omega)
    have h6 : (s.n + 1) * b.w ≤ b.h * b.w := Int.mul_le_mul_of_nonneg_right (by omega) (by omega)
    rw [Int.add_mul, Int.one_mul] at h6
    have h7 : b.h * b.w = b.w * b.h := Int.mul_comm _ _
    refine ⟨(s.e + s.n * b.w).toNat, by omega, ?_⟩
    rw [sqAt, show (((s.e + s.n * b.w).toNat : Nat) : Int) = s.e + s.n * b.w by omega, Int.add_mul_emod_self_right, Int.add_mul_ediv_right _ _ (by omega), Int.emod_eq_of_lt h1 h2, Int.ediv_eq_zero_of_lt h1 h2, Int.zero_add]
end Go.Lg.B
namespace Go.Lg.B
open Go Go.Conc Go.Lg Go.Proofs Go.Proofs.Tryz
structure RealC (b : Bk) (c : Cs) : Prop where
  s : b.square c.s = 0
  o : c.o ∈ offsAll b.cs
  f : c.f ∈ sets b.f b.ws.length
  sure : noSure b c.f = true
def trulyW (c : Cs) (i : Nat) (w : Wt) : Wt := if (c.f.contains (i : Int) || decide (w.s = c.s)) = true then w else { w with b := (trueOf (c.s.e - w.s.e) (c.s.n - w.s.n) + c.o.getD w.k.toNat 0 + 8) % 8 }
def truly (b : Bk) (c : Cs) : Bk := { b with ws := (List.range b.ws.length).map fun i => trulyW c i (b.wt i) }
theorem truly_len (b : Bk) (c : Cs) : (truly b c).ws.length = b.ws.length := by simp [truly]
theorem truly_wt {b : Bk} {c : Cs} {i : Nat} (h : i < b.ws.length) : (truly b c).wt i = trulyW c i (b.wt i) := by
  show ((List.range b.ws.length).map fun i => trulyW c i (b.wt i)).getD i default = _
  rw [getD_at (by simpa using h), List.getElem_map, List.getElem_range]
theorem trulyW_k (c : Cs) (i : Nat) (w : Wt) : (trulyW c i w).k = w.k ∧ (trulyW c i w).s = w.s ∧ (trulyW c i w).sure = w.sure := by
  unfold trulyW; split <;> exact ⟨rfl, rfl, rfl⟩
theorem trulyW_fine {c : Cs} {i n : Nat} {w : Wt} (h : w.fine n = true) : (trulyW c i w).fine n = true := by
  unfold trulyW
  split
  · exact h
  · simp only [Wt.fine, Bool.and_eq_true, between, decide_eq_true_eq] at h ⊢
    exact ⟨⟨h.1.1, by omega⟩, h.2⟩
theorem truly_good {b : Bk} {c : Cs} (hb : b.good) : (truly b c).good := by
  obtain ⟨g1, g2, g3, g4, g5, g6, g7⟩ := hb
  refine ⟨g1, g2, g3, g4, g5, by rw [truly_len]; exact g6, fun x hx => ?_⟩
  obtain ⟨i, hi, rfl⟩ := List.mem_map.1 (show x ∈ (List.range b.ws.length).map fun i => trulyW c i (b.wt i) from hx)
  have hi' := List.mem_range.1 hi
  have := g7 _ (List.getElem_mem hi')
  rw [Bk.wt_get hi'] at this
  exact trulyW_fine this
theorem trulyW_right {c : Cs} {i n : Nat} {w : Wt} (h : w.fine n = true) (hn : n ≤ 3) (hf : c.f.contains (i : Int) = false) : right (trulyW c i w) c.aim = true := by
  have hk : 0 ≤ w.k ∧ w.k < 3 := by
    simp only [Wt.fine, Bool.and_eq_true, decide_eq_true_eq] at h; omega
  have hoff : c.aim.off w.k = c.o.getD w.k.toNat 0 := by
    have := aim_off c.s c.o c.f (k := w.k.toNat) (by omega)
    rwa [show ((w.k.toNat : Nat) : Int) = w.k by omega] at this
  unfold trulyW
  rw [hf, Bool.false_or]
  by_cases hs : w.s = c.s
  · rw [if_pos (by simpa using hs)]
    rw [right, show c.aim.s = c.s from rfl, decide_eq_true hs]; rfl
  · rw [if_neg (by simpa using hs)]
    unfold right
    show (_ || ((bearing w.s c.s + c.aim.off w.k + 8) % 8 == (trueOf (c.s.e - w.s.e) (c.s.n - w.s.n) + c.o.getD w.k.toNat 0 + 8) % 8)) = true
    rw [trueOf_bearing, hoff]; simp
theorem truly_noSure {b : Bk} {c : Cs} {l : List Int} (h : ∀ k ∈ l, 0 ≤ k ∧ k < (b.ws.length : Int)) : noSure (truly b c) l = noSure b l := by
  unfold noSure
  congr 1
  rw [Bool.eq_iff_iff, List.any_eq_true, List.any_eq_true]
  constructor
  · rintro ⟨k, hk, h1⟩
    have := h k hk
    rw [truly_wt (by omega), (trulyW_k _ _ _).2.2] at h1
    exact ⟨k, hk, h1⟩
  · rintro ⟨k, hk, h1⟩
    have := h k hk
    exact ⟨k, hk, by rw [truly_wt (by omega), (trulyW_k _ _ _).2.2]; exact h1⟩
theorem real_in {b : Bk} {c : Cs} (hb : b.good) (hc : RealC b c) : c ∈ casesL (truly b c) := by
  obtain ⟨h1, h2, h3, h4⟩ := hc
  obtain ⟨a1, a2, a3⟩ := (sets_iff hb.f.1 _ _).1 h3
  have hsq : c.s ∈ squares b := by
    have := there_zero.1 h1
    simp only [between, Bool.and_eq_true, decide_eq_true_eq] at this
    have hw := hb.w
    have hh := hb.h
    rw [squares_mem (by omega) (by omega)]; omega
  refine List.mem_flatMap.2 ⟨c.f, List.mem_filter.2 ⟨by rw [truly_len]; exact h3, by rw [truly_noSure a2]; exact h4⟩, List.mem_flatMap.2 ⟨c.s, hsq, List.mem_map.2 ⟨c.o, List.mem_filter.2 ⟨h2, ?_⟩, rfl⟩⟩⟩
  simp only [allR, List.all_eq_true, List.mem_range, truly_len]
  intro i hi
  rw [truly_wt hi]
  cases hf : c.f.contains (i : Int)
  · have := hb.ws _ (List.getElem_mem hi)
    rw [Bk.wt_get hi] at this
    rw [show (Cs.aim ⟨c.s, c.o, c.f⟩) = c.aim from rfl, trulyW_right this hb.nc.2 hf]; rfl
  · rfl
theorem real_case {b : Bk} {c : Cs} (hb : b.good) (hc : RealC b c) : lotOf (truly b c) c ∈ cases (truly b c) :=
  (cases_perm (truly_good hb)).mem_iff.1 (List.mem_map_of_mem (real_in hb hc))
theorem falls_zero {b : Bk} : ∀ (l : List Int) (q : Option Int) (m : Nat), List.Pairwise (· < ·) l → (∀ k ∈ l, 0 ≤ k ∧ k < (b.ws.length : Int)) → (∀ x, q = some x → ∀ k ∈ l, x < k) → (falls b q m l).2 = 0
  | [], _, _, _, _, _ => rfl
  | k :: l, q, m, h1, h2, h3 => by
    obtain ⟨g1, g2⟩ := List.pairwise_cons.1 h1
    have hk := h2 k List.mem_cons_self
    have hw : b.witness k = 0 := by
      rw [Bk.witness, there_zero, between, Bool.and_eq_true, decide_eq_true_eq, decide_eq_true_eq]; omega
    have hq : q.any (fun x => decide (k ≤ x)) = false := by
      cases q with
      | none => rfl
      | some x =>
        have := h3 x rfl k List.mem_cons_self
        show decide (k ≤ x) = false
        rw [decide_eq_false_iff_not]; omega
    rw [falls, if_neg (by simp [hw]), if_neg (by simp [hq])]
    exact falls_zero l _ _ g2 (fun j hj => h2 j (List.mem_cons_of_mem _ hj)) fun x hx j hj => by
      cases hx; exact g1 j hj
theorem real_isCase {b : Bk} {c : Cs} (hb : b.good) (hc : RealC b c) : isCase (truly b c) c = (true, 0) := by
  have hg := truly_good (c := c) hb
  obtain ⟨a1, a2, a3⟩ := (sets_iff hb.f.1 _ _).1 hc.f
  have a2' : ∀ k ∈ c.f, 0 ≤ k ∧ k < ((truly b c).ws.length : Int) := by rw [truly_len]; exact a2
  have hin : ∀ n ∈ c.o, -3 ≤ n ∧ n ≤ 3 := by
    have := offsAll_in (l := b.cs) hb.cs b.cs.length (Nat.le_refl _)
    rw [List.take_length] at this
    exact this _ hc.o
  have hf := falls_zero (b := truly b c) c.f none 0 a1 a2' (fun x hx => nomatch hx)
  have hh : (handed (truly b c) c).2 = 0 := by
    have e1 : (truly b c).square c.s = 0 := hc.s
    have e2 : c.o.length = (truly b c).cs.length := offs_len _ hc.o
    rw [handed, if_neg (by simp [e1]), if_neg (by simp [e2]), if_neg, if_neg (by simp [hf])]
    rw [List.any_eq_true]
    rintro ⟨n, hn, h⟩
    have := hin n hn
    simp only [between, Bool.not_eq_true', Bool.and_eq_false_iff, decide_eq_false_iff_not] at h
    omega
  rw [isCase, good_iff.2 hg, if_neg (by simp), if_neg (by simp [hh])]
  obtain ⟨_, _, _, h4, h5⟩ := handed_ok hh
  obtain ⟨_, _, _, f4⟩ := falls_ok c.f none 0 h4
  have hm : (falls (truly b c) none 0 c.f).1 = maskL (truly b c).ws.length c.f := Nat.eq_of_testBit_eq fun i => by
    rw [f4, maskL_bit a2']; simp
  rw [h5, hm]
  exact Prod.ext (decide_eq_true (real_case hb hc)) rfl
theorem real_open {b : Bk} {c : Cs} (hb : b.good) (hc : RealC b c) : openH (truly b c) 0 = 0 := by
  have h := real_case hb hc
  rw [openH, good_iff.2 (truly_good hb), if_neg (by simp), if_neg (by simp), if_neg (fun e => by rw [e] at h; cases h)]
theorem said_known {L : List Lot} {p : Lot → Bool} {c : Lot} (h : c ∈ L) : knownZ p L = 0 ∨ (knownZ p L = 1 ∧ p c = true) ∨ (knownZ p L = 2 ∧ p c = false) := by
  unfold knownZ
  by_cases h0 : L.countP p = 0
  · rw [if_pos h0]
    rw [List.countP_eq_zero] at h0
    exact .inr (.inr ⟨rfl, by simpa using h0 c h⟩)
  · rw [if_neg h0]
    by_cases h1 : L.countP p = L.length
    · rw [if_pos h1]
      rw [List.countP_eq_length] at h1
      exact .inr (.inl ⟨rfl, h1 c h⟩)
    · rw [if_neg h1]; exact .inl rfl
def inBox (r : Rc × Rc) (s : Sq) : Prop := (r.1.lo ≤ s.e ∧ s.e ≤ r.1.hi) ∧ r.2.lo ≤ s.n ∧ s.n ≤ r.2.hi
theorem widen_in : ∀ (l : List Sq) (r : Rc × Rc) (s : Sq), s ∈ l ∨ inBox r s → inBox (l.foldl widen r) s
  | [], r, s, h => by
    rcases h with h | h
    · cases h
    · exact h
  | x :: l, r, s, h => by
    rw [List.foldl_cons]
    refine widen_in l _ s ?_
    rcases h with h | h
    · rcases List.mem_cons.1 h with rfl | h
      · right; simp only [inBox, widen]; omega
      · exact .inl h
    · right; simp only [inBox, widen] at h ⊢; omega
theorem box_has {b : Bk} (h0 : openH b 0 = 0) {s : Sq} (hs : s ∈ wheres b) : inBox (box b) s := by
  rw [box, if_neg (by simp [h0]), boxFrom]
  exact widen_in _ _ _ (.inl hs)
theorem real_few {b : Bk} {c : Cs} (hb : b.good) (hc : RealC b c) : (fewL (truly b c)).length ≤ c.f.length := by
  obtain ⟨a1, a2, _⟩ := (sets_iff hb.f.1 _ _).1 hc.f
  obtain ⟨_, _, h3⟩ := few_facts (truly_good (c := c) hb)
  rw [truly_len] at h3
  have hs : soundP (truly b c) c.f = true := by
    have := real_in hb hc
    obtain ⟨l, _, h2⟩ := List.mem_flatMap.1 this
    obtain ⟨s, hs, h3⟩ := List.mem_flatMap.1 h2
    obtain ⟨o, ho, e⟩ := List.mem_map.1 h3
    have el : l = c.f := by rw [← e]
    subst el
    unfold soundP
    rw [Bool.not_eq_true', List.isEmpty_eq_false_iff_exists_mem]
    exact ⟨c, h2⟩
  have := h3 c.f (sets_all.2 ⟨a1, a2⟩) hs
  rw [smaller] at this
  simp at this; omega
end Go.Lg.B
namespace Go.Lg.B
open Go Go.Conc Go.Lg Go.Proofs Go.Proofs.Tryz
theorem b_shr8 {P : Program} {t : TypeId} {k' : IntKind} {a : Nat} {n : Int} (h0 : 0 ≤ n) (h1 : n ≤ 8) : ∀ M K, K (.int .u8 ((a >>> n.toNat : Nat) : Int)) M → Sm P M (binOp .shr t (.int .u8 (a : Int)) (.int k' n)) K := fun M K h => by
  have e : ((a >>> n.toNat : Nat) : Int) = (a : Int) / 2 ^ n.toNat := by rw [Nat.shiftRight_eq_div_pow]; simp
  rw [e] at h
  exact b_shr h0 (by simp [IntKind.bits]; omega) (by omega) M K h
theorem bits_and8 {a : Nat} (ha : a < 256) : (Op.intBits .and .u8 (a : Int) 1 : Sem Value) = Pure.pure (.int .u8 ((a &&& 1 : Nat) : Int)) := by
  have h : ∀ a : Nat, a < 256 → IntKind.u8.wrap ((BitVec.ofInt 8 (a : Int) &&& BitVec.ofInt 8 1).toNat : Int) = ((a &&& 1 : Nat) : Int) := by
    intro a ha
    have : ((List.range 256).all fun a => IntKind.u8.wrap ((BitVec.ofInt 8 ((a : Nat) : Int) &&& BitVec.ofInt 8 1).toNat : Int) == ((a &&& 1 : Nat) : Int)) = true := by kernel_rfl
    have := List.all_eq_true.1 this a (List.mem_range.2 ha)
    simpa using this
  show (Pure.pure (Value.int IntKind.u8 (IntKind.u8.wrap ((BitVec.ofInt 8 (a : Int) &&& BitVec.ofInt 8 1).toNat : Int))) : Sem Value) = _
  rw [h a ha]
theorem b_and8 {P : Program} {t : TypeId} {a : Nat} (ha : a < 256) : ∀ M K, K (.int .u8 ((a &&& 1 : Nat) : Int)) M → Sm P M (binOp .and t (.int .u8 (a : Int)) (.int .u8 1)) K := fun M K h => by
  unfold binOp; simp only [ne_eq, not_true_eq_false, if_false, bits_and8 ha]; exact Sm.pure h
section
variable {main : Bool} {J : Goroutine → Mem → Prop} (hJ : Closed prog main J)
include hJ
end
end Go.Lg.B
namespace Go.Lg.B
open Go Go.Conc Go.Lg Go.Proofs Go.Proofs.Tryz
abbrev U16 := {n : Int // 0 ≤ n ∧ n ≤ 65535}
def uc (n : U16) : List Value := [.int .u16 n.1]
theorem uc_len (n : U16) : (uc n).length = 1 := rfl
theorem wrap_le {m : Int} (h : -1 ≤ m) : IntKind.i64.wrap m ≤ m := by
  by_cases h0 : m ≤ 9223372036854775807
  · rw [wrap64 (by omega) h0]; exact Int.le_refl _
  · unfold IntKind.wrap
    simp only [IntKind.bits, IntKind.signed]
    have : m % 18446744073709551616 < 18446744073709551616 := Int.emod_lt_of_pos _ (by decide)
    have : 0 ≤ m % 18446744073709551616 := Int.emod_nonneg _ (by decide)
    show (if (true && decide (m % 18446744073709551616 ≥ 9223372036854775808)) = true then m % 18446744073709551616 - 18446744073709551616 else m % 18446744073709551616) ≤ m
    split
    · omega
    · rename_i hn
      simp at hn; omega
def choice (p : List U16) (k : Int) : Int := if between k 0 (IntKind.i64.wrap ((p.length : Int) - 1)) = true then (p.map (·.1)).getD k.toNat 0 else 0
theorem choice_range (p : List U16) (k : Int) : 0 ≤ choice p k ∧ choice p k ≤ 65535 := by
  unfold choice
  split
  · by_cases h : k.toNat < p.length
    · rw [getD_at (by simpa using h), List.getElem_map]
      exact p[k.toNat].2
    · rw [List.getD_eq_getElem?_getD, List.getElem?_eq_none (by simp; omega)]
      decide
  · decide
def chosen (x : Rc) (n : Int) : Int := x.lo + n % (x.hi - x.lo + 1)
def falsU (b : Bk) (o : Nat) : Nat → List Int
  | 0 => []
  | i + 1 => if ((falsU b o i).length : Int) < b.f ∧ o.testBit i = true ∧ (b.wt i).sure = false then falsU b o i ++ [(i : Int)] else falsU b o i
def offsU (b : Bk) (p : List U16) (n : Nat) : List Int := (List.range n).map fun i => chosen (b.cs.getD i ⟨0, 0⟩) (choice p ((i : Int) + 1))
def realN (b : Bk) (p : List U16) : Int := choice p 0 % (b.w * b.h)
def realCs (b : Bk) (p : List U16) (o : Nat) : Cs := ⟨⟨realN b p % b.w, realN b p / b.w⟩, offsU b p b.cs.length, falsU b o b.ws.length⟩
theorem falsU_facts (b : Bk) (o : Nat) (hf : 0 ≤ b.f) : ∀ i, List.Pairwise (· < ·) (falsU b o i) ∧ (∀ k ∈ falsU b o i, 0 ≤ k ∧ k < (i : Int)) ∧ ((falsU b o i).length : Int) ≤ b.f ∧ ∀ k ∈ falsU b o i, (b.wt k.toNat).sure = false
  | 0 => ⟨.nil, fun k hk => by simp [falsU] at hk, hf, fun k hk => by simp [falsU] at hk⟩
  | i + 1 => by
    obtain ⟨h1, h2, h3, h4⟩ := falsU_facts b o hf i
    rw [falsU]
    split
    · rename_i h
      refine ⟨List.pairwise_append.2 ⟨h1, List.pairwise_singleton _ _, fun a ha c hc => ?_⟩, fun k hk => ?_, by rw [List.length_append, List.length_singleton]; omega, fun k hk => ?_⟩
      · rw [List.mem_singleton.1 hc]; exact (h2 a ha).2
      · rcases List.mem_append.1 hk with hk | hk
        · have := h2 k hk; omega
        · rw [List.mem_singleton.1 hk]; omega
      · rcases List.mem_append.1 hk with hk | hk
        · exact h4 k hk
        · rw [List.mem_singleton.1 hk]; simpa using h.2.2
    · exact ⟨h1, fun k hk => by have := h2 k hk; omega, h3, h4⟩
theorem falsU_stop {b : Bk} {o i : Nat} (h : ¬ ((falsU b o i).length : Int) < b.f) : ∀ j, falsU b o (i + j) = falsU b o i
  | 0 => rfl
  | j + 1 => by
    have ih := falsU_stop h j
    rw [show i + (j + 1) = i + j + 1 by omega, falsU, if_neg (by rw [ih]; exact fun g => h g.1), ih]
theorem falsU_len (b : Bk) (o : Nat) : ∀ i, (falsU b o i).length ≤ i
  | 0 => Nat.le_refl _
  | i + 1 => by
    have := falsU_len b o i
    rw [falsU]; split
    · rw [List.length_append, List.length_singleton]; omega
    · omega
theorem offsU_mem {b : Bk} {p : List U16} (hb : b.good) : ∀ n, n ≤ b.cs.length → offsU b p n ∈ offsAll (b.cs.take n)
  | 0, _ => by simp [offsU, offsAll]
  | n + 1, hn => by
    have ih := offsU_mem (p := p) hb n (by omega)
    have hi : n < b.cs.length := by omega
    rw [List.take_succ_eq_append_getElem hi, offsAll_snoc]
    refine List.mem_flatMap.2 ⟨_, ih, List.mem_map.2 ⟨chosen b.cs[n] (choice p ((n : Int) + 1)), ?_, ?_⟩⟩
    · have hf := hb.cs _ (List.getElem_mem hi)
      simp only [Rc.fine, isReach, Bool.and_eq_true, decide_eq_true_eq] at hf
      have h1 := Int.emod_nonneg (choice p ((n : Int) + 1)) (show (b.cs[n]).hi - (b.cs[n]).lo + 1 ≠ 0 by omega)
      have h2 := Int.emod_lt_of_pos (choice p ((n : Int) + 1)) (show 0 < (b.cs[n]).hi - (b.cs[n]).lo + 1 by omega)
      rw [rz_iff, chosen, wideRc]; omega
    · rw [offsU, offsU, List.range_succ, List.map_append, List.map_singleton, getD_at hi]
theorem real_real {b : Bk} {p : List U16} {o : Nat} (hb : b.good) : RealC b (realCs b p o) := by
  have hw := hb.w
  have hh := hb.h
  obtain ⟨f1, f2, f3, f4⟩ := falsU_facts b o hb.f.1 b.ws.length
  have hwh : 0 < b.w * b.h := Int.mul_pos (by omega) (by omega)
  have n1 := Int.emod_nonneg (choice p 0) (show b.w * b.h ≠ 0 by omega)
  have n2 := Int.emod_lt_of_pos (choice p 0) hwh
  refine ⟨?_, ?_, (sets_iff hb.f.1 _ _).2 ⟨f1, f2, f3⟩, ?_⟩
  · rw [Bk.square, there_zero]
    have h1 := Int.emod_nonneg (realN b p) (show b.w ≠ 0 by omega)
    have h2 := Int.emod_lt_of_pos (realN b p) (show 0 < b.w by omega)
    have h3 : 0 ≤ realN b p / b.w := Int.ediv_nonneg n1 (by omega)
    have h4 : realN b p / b.w < b.h := Int.ediv_lt_of_lt_mul (by omega) (by rw [Int.mul_comm]; exact n2)
    show (between (realN b p % b.w) 0 (b.w - 1) && between (realN b p / b.w) 0 (b.h - 1)) = true
    simp only [between, Bool.and_eq_true, decide_eq_true_eq]
    omega
  · have := offsU_mem (p := p) hb b.cs.length (Nat.le_refl _)
    rwa [List.take_length] at this
  · unfold noSure
    rw [Bool.not_eq_true', List.any_eq_false]
    intro k hk
    rw [f4 k hk]; decide
section
variable {main : Bool} {J : Goroutine → Mem → Prop} (hJ : Closed prog main J)
include hJ
theorem choiceR_c {v : Value} {ro : RO} {p : List U16} (hp : Ls uc 1 ro v p) (k : Int) : CallP prog J (fnv 120) [v, .int .i64 k] ro (.int .i64 (choice p k)) := by
  have hp0 := hp
  obtain ⟨pb, pc, rfl⟩ := hp.form
  refine CallP.intro hJ (by kernel_rfl) fun c cs tail hret => enter_X (n := 15) func120 rfl rfl (Nl rfl) ?_
  have C : Ctx prog main J (bf 120 .normal) := ⟨hJ, by decide⟩
  refine Xr C rfl rfl <| Ad C rfl rfl <| Xs C <| Xr C rfl rfl <| Rm C rfl rfl <| Rm C rfl rfl <| R.lenSlice C rfl rfl rfl runUnderlying65 <| R.int C rfl rfl rfl rfl b_subW <| R.callP C rfl rfl rfl rfl (betweenR_c hJ _ _ _ _) <| R.done C <| X.cond C.1 rfl (fun hq => ?_) (fun hq => ?_)
  · have hq := hq
    have hq' := hq
    simp only [between, Bool.and_eq_true, decide_eq_true_eq] at hq'
    have hw := wrap_le (m := (p.length : Int) - 1) (by omega)
    have hki : k.toNat < p.length := by omega
    obtain ⟨pp, off, cap, ll, t, fq, hsl, hrop, hsub⟩ := hp0.at uc_len (by omega)
    cases hsl
    have hx : ll[off + k.toNat * 1]? = some (.int .u16 p[k.toNat].1) := by have := (hsub k.toNat hki).get 0 (by decide); simpa [uc] using this
    have hr := p[k.toNat].2
    have hce : choice p k = p[k.toNat].1 := by rw [choice, if_pos hq, getD_at (by simpa using hki), List.getElem_map]
    rw [hce] at hret
    generalize p[k.toNat].1 = z at hx hr hret
    refine Xr C rfl rfl <| Rm C rfl rfl <| Rm C rfl rfl <| R.indexAddr C rfl rfl rfl rfl runUnderlying65 sizeOf66 hq'.1 (by omega) <| R.loadOneRo C rfl rfl rfl isAgg66 hrop hx <| R.convInt C rfl rfl rfl runUnderlying66 runUnderlying3 (wrap64 (by omega) (by omega)) <| Ad C rfl rfl <| Xt C func120 <| Hp hret ?_
    rfl
  · have hq := hq
    refine X.skip C.1 <| Xr C rfl rfl <| Ad C rfl rfl <| Xt C func120 <| Hp hret ?_
    rw [choice, if_neg (by rw [hq]; simp)]; rfl
theorem chosenR_c (x : Rc) (n : Int) (hx : -3 ≤ x.lo ∧ x.lo ≤ x.hi ∧ x.hi ≤ 3) (hn : 0 ≤ n ∧ n ≤ 65535) (ro : RO) : CallP prog J (fnv 121) [x.val, .int .i64 n] ro (.int .i64 (chosen x n)) := by
  have h1 := Int.emod_nonneg n (show x.hi - x.lo + 1 ≠ 0 by omega)
  have h2 := Int.emod_lt_of_pos n (show 0 < x.hi - x.lo + 1 by omega)
  refine CallP.intro hJ (by kernel_rfl) fun c cs tail hret => enter_X (n := 16) func121 rfl rfl (Nl rfl) ?_
  have C : Ctx prog main J (bf 121 .normal) := ⟨hJ, by decide⟩
  refine Xr C rfl rfl <| R.box C rfl rfl rfl rfl fun p2 => Ad C rfl rfl <| Xs C <| Xd C fun hok => Df (off' := 0) C 0 hok rfl rfl rfl runUnderlying46 rfl sizeOf3 rfl <| D1 C 1 hok rfl rfl isAgg3 (by repeat (first | exact Mh | apply Mt)) rfl <| Dm C 2 hok rfl rfl rfl <| Df (off' := 1) C 3 hok rfl rfl rfl runUnderlying46 rfl sizeOf3 rfl <| D1 C 4 hok rfl rfl isAgg3 (by repeat (first | exact Mh | apply Mt)) rfl <| Df (off' := 0) C 5 hok rfl rfl rfl runUnderlying46 rfl sizeOf3 rfl <| D1 C 6 hok rfl rfl isAgg3 (by repeat (first | exact Mh | apply Mt)) rfl <| Di C 7 hok rfl rfl rfl rfl rfl (b_sub (by omega) (by omega)) <| Di C 8 hok rfl rfl rfl rfl rfl (b_add (by omega) (by omega)) <| Di C 9 hok rfl rfl rfl rfl rfl (b_remP (by omega) (by omega)) <| Di C 10 hok rfl rfl rfl rfl rfl (b_add (by omega) (by omega)) <| Dp 11 hok (fun _ _ _ A h => R.asg C rfl (A.w rfl rfl) (A.x rfl rfl) h) <| D.done C hok (by kernel_rfl) <| Xt C func121 <| Hp hret ?_
  rfl
theorem saidR_c (k : Int) (is : Bool) (ro : RO) : CallP prog J (fnv 53) [.int .i64 k, .bool is] ro (.bool (k == 0 || ((k == 1) == is))) := by
  refine CallP.intro hJ (by kernel_rfl) fun c cs tail hret => enter_X (n := 13) func53 rfl rfl (Nl rfl) ?_
  have C : Ctx prog main J (bf 53 .normal) := ⟨hJ, by decide⟩
  refine Xr C rfl rfl <| Ad C rfl rfl <| Xr C rfl rfl <| Rm C rfl rfl <| R.int C rfl rfl rfl rfl b_eql <| Rm C rfl rfl <| R.fix (t := 7) rfl (fun q1 => ?_) (fun q1 => ?_)
  · have q1 := q1
    refine R.pass C rfl rfl <| R.pass C rfl rfl <| R.pass C rfl rfl <| R.pass C rfl rfl <| R.pickT C rfl rfl rfl rfl <| Ad C rfl rfl <| Xt C func53 <| Hp hret ?_
    first | (simp_all [retVal]; done)
  · have q1 := q1
    refine Rm C rfl rfl <| R.int C rfl rfl rfl rfl b_eql <| Rm C rfl rfl <| R.eqBool C rfl rfl rfl rfl runUnderlying4 <| R.pickF C rfl rfl rfl rfl <| Ad C rfl rfl <| Xt C func53 <| Hp hret ?_
    first | (simp_all [retVal]; done)
theorem realR_c {b : Bk} {v vp : Value} {ro : RO} {p : List U16} {o : Nat} (hv : BkV ro v b) (hb : b.good) (hp : Ls uc 1 ro vp p) (ho : o < 256) : CallR prog J (fnv 48) [v, vp, .int .u8 (o : Int)] ro (fun w ro' => CsV ro' w (realCs b p o)) := by
  obtain ⟨vc, vw, rfl, hc, hw⟩ := hv
  have hc0 := hc
  have hw0 := hw
  have hp0 := hp
  have hwd := hb.w
  have hht := hb.h
  have hnw := hb.nw
  have hnc := hb.nc
  obtain ⟨cb, cc, rfl⟩ := hc.form
  obtain ⟨wb, wc, rfl⟩ := hw.form
  obtain ⟨pb, pc, rfl⟩ := hp.form
  have hwh1 : 0 < b.w * b.h := Int.mul_pos (by omega) (by omega)
  have hwh2 : b.w * b.h ≤ 7 * 7 := Int.mul_le_mul hwd.2 hht.2 (by omega) (by omega)
  have hc00 := choice_range p 0
  have n1 := Int.emod_nonneg (choice p 0) (show b.w * b.h ≠ 0 by omega)
  have n2 := Int.emod_lt_of_pos (choice p 0) hwh1
  have m1 := Int.emod_nonneg (realN b p) (show b.w ≠ 0 by omega)
  have m2 := Int.emod_lt_of_pos (realN b p) (show 0 < b.w by omega)
  have hN0 : 0 ≤ realN b p := n1
  have hN1 : realN b p ≤ 48 := by show choice p 0 % (b.w * b.h) ≤ 48; omega
  refine CallR.intro hJ (by kernel_rfl) fun c cs tail hret => enter_X (n := 87) func48 rfl rfl (Nl rfl) ?_
  have C : Ctx prog main J (bf 48 .normal) := ⟨hJ, by decide⟩
  refine Xr C rfl rfl <| R.box C rfl rfl rfl rfl fun p3 => R.alloc C rfl rfl zeroValue30 rfl fun p6 => R.done C <| Xs C <| Xd C fun hok => Dm C 0 hok rfl rfl rfl <| Df (off' := 0) C 2 hok rfl rfl rfl runUnderlying25 rfl sizeOf3 rfl <| D1 C 3 hok rfl rfl isAgg3 (by repeat (first | exact Mh | apply Mt)) rfl <| Df (off' := 1) C 4 hok rfl rfl rfl runUnderlying25 rfl sizeOf3 rfl <| D1 C 5 hok rfl rfl isAgg3 (by repeat (first | exact Mh | apply Mt)) rfl <| Di C 6 hok rfl rfl rfl rfl rfl (b_mul (by omega) (by omega)) <| De 1 (some 12) [true, true] hok (fun σr rest A hk => ?_)
  refine R.callP C rfl (A.w rfl rfl) (A.x rfl rfl) (A.s rfl rfl) (choiceR_c hJ hp0 0) (hk _ _ ⟨(QFs.cons (QF.of rfl (fun _ _ A h => R.loadOne C rfl (A.w rfl rfl) (A.x rfl rfl) isAgg3 (by repeat (first | exact Mh | apply Mt)) rfl h)) (QFs.cons (QF.of rfl (fun _ _ A h => R.loadOne C rfl (A.w rfl rfl) (A.x rfl rfl) isAgg3 (by repeat (first | exact Mh | apply Mt)) rfl h)) QFs.nil)), ?_⟩)
  refine Di C 7 hok rfl rfl rfl rfl rfl (b_remP (by omega) (by omega)) <| D.fixv (t := 18) (v' := .int .i64 (realN b p)) rfl (by rfl) <| Dp 8 hok (fun _ _ _ A h => R.asg C rfl (A.w rfl rfl) (A.x rfl rfl) h) <| D.done C hok (by kernel_rfl) <| Xs C <| X.afterI (ι := Nat) (fun _ => True) (fun p8 => [(1, .slice pb p.length pc), (2, .int .u8 (o : Int)), (3, .pointer (some ⟨p3, 0, none⟩)), (6, .pointer (some ⟨p6, 0, none⟩)), (8, .pointer (some ⟨p8, 0, none⟩))]) (fun p8 => ⟨ro, (p8, .cells [.int .i64 (realN b p % b.w), .int .i64 (realN b p / b.w), .slice none 0 0, .slice none 0 0].toArray 30 (0, 0)) :: (p6, .cells [.int .i64 0, .int .i64 0, .slice none 0 0, .slice none 0 0].toArray 30 (0, 0)) :: (p3, .cells [.int .i64 b.w, .int .i64 b.h, .int .i64 b.f, .slice cb b.cs.length cc, .slice wb b.ws.length wc].toArray 25 (0, 0)) :: tail⟩) (fun p8 _ => ?_) (fun hcont => ?_)
  · have _ := hN0
    refine Xs C <| Xr C rfl rfl <| Ad C rfl rfl <| X.block C.1 <| X.loopI (ι := Nat × Value × List (Nat × Obj)) C.1 (fun s => s.1 ≤ b.cs.length ∧ Buf 3 1 [] s.2.1 ((offsU b p s.1).flatMap ic) s.2.2) (fun s => [(1, .slice pb p.length pc), (2, .int .u8 (o : Int)), (3, .pointer (some ⟨p3, 0, none⟩)), (6, .pointer (some ⟨p6, 0, none⟩)), (8, .pointer (some ⟨p8, 0, none⟩)), (9, .int .i64 (s.1 : Int))])
      (fun s => ⟨ro, s.2.2 ++ (p8, .cells [.int .i64 (realN b p % b.w), .int .i64 (realN b p / b.w), s.2.1, .slice none 0 0].toArray 30 (0, 0)) :: (p6, .cells [.int .i64 0, .int .i64 0, .slice none 0 0, .slice none 0 0].toArray 30 (0, 0)) :: (p3, .cells [.int .i64 b.w, .int .i64 b.h, .int .i64 b.f, .slice cb b.cs.length cc, .slice wb b.ws.length wc].toArray 25 (0, 0)) :: tail⟩) (fun s => b.cs.length - s.1) (0, .slice none 0 0, []) ⟨Nat.zero_le _, by exact .nil⟩ rfl ⟨rfl, rfl, rfl, rfl, rfl, rfl, trivial⟩ fun s hs' hnext => ?_
    obtain ⟨i, v2, own2⟩ := s
    obtain ⟨hi, hb2⟩ := hs'
    simp only at hi hb2 hnext ⊢
    have hfl : ((offsU b p i).flatMap ic).length = i := by rw [flat_len, offsU, List.length_map, List.length_range]
    refine Xs C <| Xr C rfl rfl <| Rm C rfl rfl <| Rf C 3 rfl rfl runUnderlying25 rfl sizeOf22 <| R.loadOne C rfl rfl rfl isAgg22 (by repeat (first | exact Mh | apply Mt | apply List.mem_append_right)) rfl <| R.lenSlice C rfl rfl rfl runUnderlying22 <| R.int C rfl rfl rfl rfl b_lss <| R.done C <| X.cond C.1 rfl (fun hlt => ?_) (fun hlt => ?_)
    · have hlt := hlt
      simp only [decide_eq_true_eq] at hlt
      have hi' : i < b.cs.length := by omega
      obtain ⟨pr, offr, capr, lr, tr, fqr, hslr, hropr, hsubr⟩ := hc0.at Rc.len (by omega)
      cases hslr
      have hrx := hsubr i hi'
      have hfin := hb.cs _ (List.getElem_mem hi')
      simp only [Rc.fine, isReach, Bool.and_eq_true, decide_eq_true_eq] at hfin
      have hstep : offsU b p (i + 1) = offsU b p i ++ [chosen b.cs[i] (choice p ((i : Int) + 1))] := by rw [offsU, offsU, List.range_succ, List.map_append, List.map_singleton, getD_at hi']
      generalize b.cs[i] = x at hrx hfin hstep
      have hrx2 : Sub (offr + i * 2) 2 lr [.int .i64 x.lo, .int .i64 x.hi] := hrx
      obtain ⟨bs0, cap0, rfl⟩ := hb2.form (by decide)
      refine X.skip C.1 <| Xs C <| X.block C.1 <| Xd C fun hok => Df (off' := 2) C 0 hok rfl rfl rfl runUnderlying30 rfl sizeOf28 rfl <| Dl 1 hok (fun _ _ A h => R.loadOne C rfl (A.w rfl rfl) (A.x rfl rfl) isAgg28 (by repeat (first | exact Mh | apply Mt | apply List.mem_append_right)) rfl h) <| Df (off' := 3) C 2 hok rfl rfl rfl runUnderlying25 rfl sizeOf22 rfl <| Dl 3 hok (fun _ _ A h => R.loadOne C rfl (A.w rfl rfl) (A.x rfl rfl) isAgg22 (by repeat (first | exact Mh | apply Mt | apply List.mem_append_right)) rfl h) <| Dm C 4 hok rfl rfl rfl <| Dx C 5 hok rfl rfl rfl runUnderlying22 sizeOf46 <| Dl 6 hok (fun _ _ A h => R.loadAggRo C rfl (A.w rfl rfl) (A.x rfl rfl) isAgg46 sizeOf46 hropr hrx2 h) <| Dm C 7 hok rfl rfl rfl <| Dm C 8 hok rfl rfl rfl <| Di C 9 hok rfl rfl rfl rfl rfl (b_add (by omega) (by omega)) <| De 10 (some 46) [true, true, true] hok (fun σr rest A hk => ?_)
      refine R.callP C rfl (A.w rfl rfl) (A.x rfl rfl) (A.s rfl rfl) (choiceR_c hJ hp0 ((i : Int) + 1)) (hk _ _ ⟨(QFs.cons (QF.of rfl (fun _ _ A h => R.loadAggRo C rfl (A.w rfl rfl) (A.x rfl rfl) isAgg46 sizeOf46 hropr hrx2 h)) (QFs.cons (QF.of rfl (fun _ _ A h => R.loadOne C rfl (A.w rfl rfl) (A.x rfl rfl) isAgg22 (by repeat (first | exact Mh | apply Mt | apply List.mem_append_right)) rfl h)) (QFs.cons (QF.of rfl (fun _ _ A h => R.loadOne C rfl (A.w rfl rfl) (A.x rfl rfl) isAgg28 (by repeat (first | exact Mh | apply Mt | apply List.mem_append_right)) rfl h)) QFs.nil))), ?_⟩)
      refine De 11 (some 47) [false, false, true] hok (fun σr rest A hk => ?_)
      refine R.callP C rfl (A.w rfl rfl) (A.x rfl rfl) (A.s rfl rfl) (chosenR_c hJ x _ (by omega) (choice_range p _) _) (hk _ _ ⟨(QFs.cons (QF.of rfl (fun _ _ A h => R.loadOne C rfl (A.w rfl rfl) (A.x rfl rfl) isAgg28 (by repeat (first | exact Mh | apply Mt | apply List.mem_append_right)) rfl h)) QFs.nil), ?_⟩)
      refine De 12 (some 48) [true] hok (fun σr rest A hk => ?_)
      refine R.buildSlice C (vs := _) rfl (A.w rfl rfl) (show pvals _ _ = some (numbered 0 [_]) from (A.p rfl rfl)) rfl runUnderlying28 sizeOf3 zeroValue3 (by decide) (Cat.one rfl rfl) fun p48 => hk _ _ ⟨(QFs.cons (QF.of rfl (fun _ _ A h => R.loadOne C rfl (A.w rfl rfl) (A.x rfl rfl) isAgg28 (by repeat (first | exact Mh | apply Mt | apply List.mem_append_right)) rfl h)) QFs.nil), ?_⟩
      refine De 13 (some 49) [false] hok (fun σr rest A hk => ?_)
      refine R.append1 (kk := 1) C rfl (A.w rfl rfl) (A.x rfl rfl) (A.x rfl rfl) runUnderlying28 runUnderlying28 (fun _ => nofun) (show prog.info? 3 = some Tryz.t3 by kernel_rfl) rfl rfl rfl (by decide) (by decide) (hb2.app _) rfl rfl (by simp only [List.length_append, List.length_cons, List.length_nil]; omega) fun v' own' hb' => hk _ _ ⟨QFs.nil, ?_⟩
      refine Df (off' := 2) C 14 hok rfl rfl rfl runUnderlying30 rfl sizeOf28 rfl <| De 15 none [] hok (fun σr rest A hk => ?_)
      obtain ⟨own3, rfl, hb3⟩ := Buf.unapp (tail := []) hb'
      replace hb3 : Buf 3 1 [] v' ((offsU b p (i + 1)).flatMap ic) own3 := by rw [hstep, List.flatMap_append]; exact hb3
      obtain ⟨bs1, cap1, rfl⟩ := hb3.form (by decide)
      refine R.store C rfl (A.w rfl rfl) (A.x rfl rfl) (A.x rfl rfl) sizeOf28 rfl rfl rfl (by repeat (first | exact Uh | apply Ut | apply Upd.app)) (.skip (.skip (.here .nil))) (hk undef _ ⟨QFs.nil, ?_⟩)
      refine D.done C hok (by kernel_rfl) <| X.inBlock C.1 <| X.region C rfl rfl <| Rm C rfl rfl <| R.int C rfl rfl rfl rfl (b_add (by omega) (by omega)) <| Ad C rfl rfl <| X.weaken ?_ (hnext (i + 1, _, own3) ⟨hi', hb3⟩ (by omega))
      exact ⟨rfl, rfl, rfl, rfl, rfl, by simp [look], trivial⟩
    · have hlt := hlt
      simp only [decide_eq_false_iff_not] at hlt
      obtain rfl : i = b.cs.length := by omega
      refine X.exit C.1 rfl <| Xs C <| Xs C <| X.finish C.1 ic_len (by decide) (hb2.app _) fun ro3 hl3 hls3 => ?_
      obtain ⟨bo, co, rfl⟩ := hls3.form
      have hro3 := hl3
      refine X.region C rfl rfl <| Ad C rfl rfl <| X.block C.1 <| X.loopI (ι := Nat × Value × List (Nat × Obj)) C.1 (fun s => s.1 ≤ b.ws.length ∧ Buf 3 1 [] s.2.1 ((falsU b o s.1).flatMap ic) s.2.2) (fun s => [(2, .int .u8 (o : Int)), (3, .pointer (some ⟨p3, 0, none⟩)), (6, .pointer (some ⟨p6, 0, none⟩)), (8, .pointer (some ⟨p8, 0, none⟩)), (10, .int .i64 (s.1 : Int))])
        (fun s => ⟨ro3, s.2.2 ++ (p8, .cells [.int .i64 (realN b p % b.w), .int .i64 (realN b p / b.w), .slice bo (offsU b p b.cs.length).length co, s.2.1].toArray 30 (0, 0)) :: (p6, .cells [.int .i64 0, .int .i64 0, .slice none 0 0, .slice none 0 0].toArray 30 (0, 0)) :: (p3, .cells [.int .i64 b.w, .int .i64 b.h, .int .i64 b.f, .slice cb b.cs.length cc, .slice wb b.ws.length wc].toArray 25 (0, 0)) :: tail⟩) (fun s => b.ws.length - s.1) (0, .slice none 0 0, []) ⟨Nat.zero_le _, .nil⟩ rfl ⟨rfl, rfl, rfl, rfl, rfl, trivial⟩ fun s hs' hnext => ?_
      obtain ⟨i, v2, own2⟩ := s
      obtain ⟨hi, hb2⟩ := hs'
      simp only at hi hb2 hnext ⊢
      have hfl := flat_len (falsU b o i)
      have hfl2 := falsU_len b o i
      have hsh : o >>> i < 256 := Nat.lt_of_le_of_lt (Nat.shiftRight_le _ _) ho
      obtain ⟨bs0, cap0, hvq⟩ := hb2.form (by decide)
      rw [hfl, Nat.div_one] at hvq
      subst hvq
      refine Xs C <| Xr C rfl rfl <| Rm C rfl rfl <| Rf C 4 rfl rfl runUnderlying25 rfl sizeOf23 <| R.loadOne C rfl rfl rfl isAgg23 (by repeat (first | exact Mh | apply Mt | apply List.mem_append_right)) rfl <| R.lenSlice C rfl rfl rfl runUnderlying23 <| R.int C rfl rfl rfl rfl b_lss <| Rm C rfl rfl <| R.fix (t := 56) rfl (fun hA => ?_) (fun hA => ?_)
      · have hA := hA
        simp only [decide_eq_true_eq] at hA
        have hi' : i < b.ws.length := by omega
        have hwt := Bk.wt_get hi'
        obtain ⟨pw, offw, capw, lw, tw, fqw, hslw, hropw, hsubw⟩ := hw0.at Wt.len (by omega)
        cases hslw
        have hsu : lw[offw + i * 5 + 4]? = some (.bool (b.wt i).sure) := by
          have := (hsubw i hi').get 4 (by decide)
          rw [hwt] at this
          simpa [Wt.cells] using this
        have hstep : falsU b o (i + 1) = if ((falsU b o i).length : Int) < b.f ∧ o.testBit i = true ∧ (b.wt i).sure = false then falsU b o i ++ [(i : Int)] else falsU b o i := rfl
        refine Rf C 3 rfl rfl runUnderlying30 rfl sizeOf28 <| R.loadOne C rfl rfl rfl isAgg28 (by repeat (first | exact Mh | apply Mt | apply List.mem_append_right)) rfl <| R.lenSlice C rfl rfl rfl runUnderlying28 <| Rf C 2 rfl rfl runUnderlying25 rfl sizeOf3 <| R.loadOne C rfl rfl rfl isAgg3 (by repeat (first | exact Mh | apply Mt | apply List.mem_append_right)) rfl <| R.int C rfl rfl rfl rfl b_lss <| R.pickT C rfl rfl rfl rfl <| R.done C <| X.cond C.1 rfl (fun hB => ?_) (fun hB => ?_)
        · have hB := hB
          simp only [decide_eq_true_eq] at hB
          refine X.skip C.1 <| Xs C <| X.block C.1 <| Xr C rfl rfl <| Rm C rfl rfl <| Rm C rfl rfl <| R.shift C rfl rfl rfl rfl (b_shr8 (by omega) (by omega)) <| R.int C rfl rfl rfl rfl (b_and8 hsh) <| R.int C rfl rfl rfl rfl b_eql <| Rm C rfl rfl <| R.fix (t := 71) rfl (fun hC => ?_) (fun hC => ?_)
          · have hC := hC
            have hC' : o.testBit i = true := by
              simp only [Int.toNat_natCast] at hC
              rw [bit_cases] at hC
              by_cases h : o.testBit i = true
              · exact h
              · rw [if_neg h] at hC; cases hC
            refine Rf C 4 rfl rfl runUnderlying25 rfl sizeOf23 <| R.loadOne C rfl rfl rfl isAgg23 (by repeat (first | exact Mh | apply Mt | apply List.mem_append_right)) rfl <| Rm C rfl rfl <| Rx C rfl rfl rfl runUnderlying23 sizeOf58 <| R.fieldAddr C rfl rfl rfl runUnderlying58 rfl sizeOf4 rfl <| R.loadOneRo C rfl rfl rfl isAgg4 (hl3 _ _ hropw) hsu <| R.not C rfl rfl rfl <| R.pickT C rfl rfl rfl rfl <| R.done C <| X.cond C.1 rfl (fun hD => ?_) (fun hD => ?_)
            · have hD := hD
              rw [if_pos ⟨hB, hC', by simpa using hD⟩] at hstep
              refine X.region C rfl rfl <| Rf C 3 rfl rfl runUnderlying30 rfl sizeOf28 <| R.loadOne C rfl rfl rfl isAgg28 (by repeat (first | exact Mh | apply Mt | apply List.mem_append_right)) rfl <| Rm C rfl rfl <| R.buildSlice C (vs := _) rfl rfl (show pvals _ _ = some (numbered 0 [_]) from rfl) rfl runUnderlying28 sizeOf3 zeroValue3 (by decide) (Cat.one rfl rfl) fun p83 => R.append1 (kk := 1) C rfl rfl rfl rfl runUnderlying28 runUnderlying28 (fun _ => nofun) (show prog.info? 3 = some Tryz.t3 by kernel_rfl) rfl rfl rfl (by decide) (by decide) (hb2.app _) rfl rfl (by simp only [List.length_append, List.length_cons, List.length_nil]; omega) fun v' own' hb' => Rf C 3 rfl rfl runUnderlying30 rfl sizeOf28 ?_
              obtain ⟨own3, rfl, hb3⟩ := Buf.unapp (tail := []) hb'
              replace hb3 : Buf 3 1 [] v' ((falsU b o (i + 1)).flatMap ic) own3 := by rw [hstep, List.flatMap_append]; exact hb3
              obtain ⟨bs1, cap1, rfl⟩ := hb3.form (by decide)
              refine R.store C rfl rfl rfl rfl sizeOf28 rfl rfl rfl (by repeat (first | exact Uh | apply Ut | apply Upd.app)) (.skip (.skip (.skip (.here .nil)))) <| R.done C <| X.inBlock C.1 <| X.region C rfl rfl <| Rm C rfl rfl <| R.int C rfl rfl rfl rfl (b_add (by omega) (by omega)) <| Ad C rfl rfl <| X.weaken ?_ (hnext (i + 1, _, own3) ⟨hi', hb3⟩ (by omega))
              exact ⟨rfl, rfl, rfl, rfl, by simp [look], trivial⟩
            · have hD := hD
              rw [if_neg (by rintro ⟨_, _, h⟩; rw [h] at hD; cases hD)] at hstep
              refine X.skip C.1 <| X.inBlock C.1 <| X.region C rfl rfl <| Rm C rfl rfl <| R.int C rfl rfl rfl rfl (b_add (by omega) (by omega)) <| Ad C rfl rfl <| X.weaken ?_ (hnext (i + 1, _, own2) ⟨hi', by rw [hstep]; exact hb2⟩ (by omega))
              exact ⟨rfl, rfl, rfl, rfl, by simp [look], trivial⟩
          · have hC := hC
            have hC' : ¬ o.testBit i = true := by
              simp only [Int.toNat_natCast] at hC
              rw [bit_cases] at hC
              intro h
              rw [if_pos h] at hC; cases hC
            rw [if_neg fun h => hC' h.2.1] at hstep
            refine R.pass C rfl rfl <| R.pass C rfl rfl <| R.pass C rfl rfl <| R.pass C rfl rfl <| R.pass C rfl rfl <| R.pass C rfl rfl <| R.pass C rfl rfl <| R.pickF C rfl rfl rfl rfl <| R.done C <| X.cond C.1 rfl (fun h => nomatch h) (fun _ => ?_)
            refine X.skip C.1 <| X.inBlock C.1 <| X.region C rfl rfl <| Rm C rfl rfl <| R.int C rfl rfl rfl rfl (b_add (by omega) (by omega)) <| Ad C rfl rfl <| X.weaken ?_ (hnext (i + 1, _, own2) ⟨hi', by rw [hstep]; exact hb2⟩ (by omega))
            exact ⟨rfl, rfl, rfl, rfl, by simp [look], trivial⟩
        · have hB := hB
          simp only [decide_eq_false_iff_not] at hB
          have hE : falsU b o b.ws.length = falsU b o i := by have := falsU_stop hB (b.ws.length - i); rwa [show i + (b.ws.length - i) = b.ws.length by omega] at this
          refine X.exit C.1 rfl <| Xr C rfl rfl <| R.finish C.1 ic_len (by decide) (hb2.app _) fun ro4 hl4 hls4 => R.loadAgg C rfl rfl rfl isAgg30 sizeOf30 (by repeat (first | exact Mh | apply Mt)) Tk4 <| R.store C rfl rfl rfl rfl sizeOf30 rfl rfl rfl (by repeat (first | exact Uh | apply Ut)) (.here (.here (.here (.here .nil)))) <| R.done C <| X.ret C rfl rfl func48 rfl (by exact (.agg rfl isAgg30 sizeOf30 (by repeat (first | exact Mh | apply Mt)) Tk4 .nil)) <| Hr hret (RO.le_trans hl3 hl4) ?_
          exact ⟨_, _, rfl, hls3.mono hl4, by show LsI _ _ (falsU b o b.ws.length); rw [hE]; exact hls4⟩
      · have hA := hA
        simp only [decide_eq_false_iff_not] at hA
        obtain rfl : i = b.ws.length := by omega
        refine R.pass C rfl rfl <| R.pass C rfl rfl <| R.pass C rfl rfl <| R.pass C rfl rfl <| R.pass C rfl rfl <| R.pass C rfl rfl <| R.pickF C rfl rfl rfl rfl <| R.done C <| X.cond C.1 rfl (fun h => nomatch h) (fun _ => ?_)
        refine X.exit C.1 rfl <| Xr C rfl rfl <| R.finish C.1 ic_len (by decide) (hb2.app _) fun ro4 hl4 hls4 => R.loadAgg C rfl rfl rfl isAgg30 sizeOf30 (by repeat (first | exact Mh | apply Mt)) Tk4 <| R.store C rfl rfl rfl rfl sizeOf30 rfl rfl rfl (by repeat (first | exact Uh | apply Ut)) (.here (.here (.here (.here .nil)))) <| R.done C <| X.ret C rfl rfl func48 rfl (by exact (.agg rfl isAgg30 sizeOf30 (by repeat (first | exact Mh | apply Mt)) Tk4 .nil)) <| Hr hret (RO.le_trans hl3 hl4) ?_
        exact ⟨_, _, rfl, hls3.mono hl4, hls4⟩
  · have _ := hcont
    refine Xd C fun hok => Dm C 0 hok rfl rfl rfl <| Df (off' := 0) C 1 hok rfl rfl rfl runUnderlying25 rfl sizeOf3 rfl <| D1 C 2 hok rfl rfl isAgg3 (by repeat (first | exact Mh | apply Mt)) rfl <| Di C 3 hok rfl rfl rfl rfl rfl (b_remP (by omega) (by omega)) <| Dm C 4 hok rfl rfl rfl <| Df (off' := 0) C 5 hok rfl rfl rfl runUnderlying25 rfl sizeOf3 rfl <| D1 C 6 hok rfl rfl isAgg3 (by repeat (first | exact Mh | apply Mt)) rfl <| Di C 7 hok rfl rfl rfl rfl rfl (b_quoP (by omega) (by omega) (by omega)) <| D.eP2 (i := 8) (i' := 10) (dst := (some 27)) (dst' := (some 8)) [false, false] [true, true] hok rfl rfl (by kernel_rfl) (by kernel_rfl) (by kernel_rfl) (fun σr rest A hk => ?_) (fun σr rest A hk => ?_)
    ·
      refine R.callP C rfl (A.w rfl rfl) (A.x rfl rfl) (A.s rfl rfl) (sq_c hJ _ _ _) (hk _ _ ⟨QFs.nil, ?_⟩)
      refine Dp 9 hok (fun _ _ _ A h => R.build C rfl (A.w rfl rfl) (A.p rfl rfl) zeroValue30 rfl runUnderlying30 (by kernel_rfl) (Fills.part rfl rfl sizeOf27 rfl (.here (.here .nil)) .nil) h) <| De 10 (some 8) [] hok (fun σr rest A hk => ?_)
      refine R.alloc C rfl (A.w rfl rfl) zeroValue30 rfl fun p8 => hk _ _ ⟨QFs.nil, ?_⟩
      refine De 11 none [] hok (fun σr rest A hk => ?_)
      refine R.store C rfl (A.w rfl rfl) (A.x rfl rfl) (A.x rfl rfl) sizeOf30 rfl rfl rfl (by repeat (first | exact Uh | apply Ut)) (.here (.here (.here (.here .nil)))) (hk undef _ ⟨QFs.nil, ?_⟩)
      refine D.done C hok (by kernel_rfl) <| X.weaken ?_ (hcont p8 trivial)
      exact ⟨rfl, rfl, rfl, rfl, rfl, trivial⟩
    ·
      refine R.alloc C rfl (A.w rfl rfl) zeroValue30 rfl fun p8 => hk _ _ ⟨(QFs.cons (QF.of rfl (fun _ _ A h => R.loadOne C rfl (A.w rfl rfl) (A.x rfl rfl) isAgg3 (by repeat (first | exact Mh | apply Mt)) rfl h)) (QFs.cons (QF.of rfl (fun _ _ A h => R.loadOne C rfl (A.w rfl rfl) (A.x rfl rfl) isAgg3 (by repeat (first | exact Mh | apply Mt)) rfl h)) QFs.nil)), ?_⟩
      refine De 8 (some 27) [false, false] hok (fun σr rest A hk => ?_)
      refine R.callP C rfl (A.w rfl rfl) (A.x rfl rfl) (A.s rfl rfl) (sq_c hJ _ _ _) (hk _ _ ⟨QFs.nil, ?_⟩)
      refine Dp 9 hok (fun _ _ _ A h => R.build C rfl (A.w rfl rfl) (A.p rfl rfl) zeroValue30 rfl runUnderlying30 (by kernel_rfl) (Fills.part rfl rfl sizeOf27 rfl (.here (.here .nil)) .nil) h) <| De 11 none [] hok (fun σr rest A hk => ?_)
      refine R.store C rfl (A.w rfl rfl) (A.x rfl rfl) (A.x rfl rfl) sizeOf30 rfl rfl rfl (by repeat (first | exact Uh | apply Ut)) (.here (.here (.here (.here .nil)))) (hk undef _ ⟨QFs.nil, ?_⟩)
      refine D.done C hok (by kernel_rfl) <| X.weaken ?_ (hcont p8 trivial)
      exact ⟨rfl, rfl, rfl, rfl, rfl, trivial⟩
end
end Go.Lg.B
namespace Go.Lg.B
open Go Go.Conc Go.Lg Go.Proofs Go.Proofs.Tryz
set_option maxRecDepth 100000
def trulyU (b : Bk) (c : Cs) (i : Nat) : List Wt := (List.range b.ws.length).map fun j => if j < i then trulyW c j (b.wt j) else b.wt j
theorem trulyU_len (b : Bk) (c : Cs) (i : Nat) : (trulyU b c i).length = b.ws.length := by simp [trulyU]
theorem trulyU_at {b : Bk} {c : Cs} {i j : Nat} (h : j < (trulyU b c i).length) : (trulyU b c i)[j] = if j < i then trulyW c j (b.wt j) else b.wt j := by simp [trulyU]
theorem trulyU_zero (b : Bk) (c : Cs) : trulyU b c 0 = b.ws := by
  refine List.ext_getElem (trulyU_len _ _ _) fun j h h' => ?_
  rw [trulyU_at, if_neg (Nat.not_lt_zero _), Bk.wt_get h']
theorem trulyU_all (b : Bk) (c : Cs) : trulyU b c b.ws.length = (truly b c).ws := by
  refine List.ext_getElem (by rw [trulyU_len, truly_len]) fun j h h' => ?_
  rw [truly_len] at h'
  rw [trulyU_at, if_pos h']
  simp [truly]
theorem trulyU_set {b : Bk} {c : Cs} {i : Nat} : trulyU b c (i + 1) = (trulyU b c i).set i (trulyW c i (b.wt i)) := by
  refine List.ext_getElem (by rw [List.length_set, trulyU_len, trulyU_len]) fun j h h' => ?_
  rw [trulyU_at, List.getElem_set]
  by_cases e : i = j
  · subst e; rw [if_pos rfl, if_pos (by omega)]
  · rw [if_neg e, trulyU_at]
    by_cases hl : j < i
    · rw [if_pos hl, if_pos (by omega)]
    · rw [if_neg hl, if_neg (by omega)]
theorem trulyU_same {b : Bk} {c : Cs} {i : Nat} (h : trulyW c i (b.wt i) = b.wt i) : trulyU b c (i + 1) = trulyU b c i := by
  refine List.ext_getElem (by rw [trulyU_len, trulyU_len]) fun j _ _ => ?_
  rw [trulyU_at, trulyU_at]
  by_cases hl : j < i
  · rw [if_pos hl, if_pos (by omega)]
  · rw [if_neg hl]
    by_cases e : j = i
    · subst e; rw [if_pos (by omega), h]
    · rw [if_neg (by omega)]
theorem wt_sub (L : List Wt) (sp : List Value) {i : Nat} (h : i < L.length) : Sub (0 + i * 5) 5 (L.flatMap Wt.cells ++ sp) (L[i]).cells := by
  have hfl := flatMap_len Wt.len L
  refine Sub.of_get (by rw [List.length_append, hfl]; omega) rfl fun j hj => ?_
  rw [Nat.zero_add]
  clear hfl
  induction L generalizing i with
  | nil => cases h
  | cons x L ih =>
    rw [List.flatMap_cons, List.append_assoc]
    cases i with
    | zero => rw [List.getElem?_append_left (by rw [Wt.len]; omega), Nat.zero_mul, Nat.zero_add]; rfl
    | succ i =>
      rw [List.getElem?_append_right (by rw [Wt.len]; omega), Wt.len, show (i + 1) * 5 + j - 5 = i * 5 + j by omega]
      exact ih (by simpa using h)
section
variable {main : Bool} {J : Goroutine → Mem → Prop} (hJ : Closed prog main J)
include hJ
theorem trulyR_c {b : Bk} {c0 : Cs} {v vk : Value} {ro : RO} (hv : BkV ro v b) (hb : b.good) (hk : CsV ro vk c0) (hr : RealC b c0) : CallR prog J (fnv 49) [v, vk] ro (fun w ro' => BkV ro' w (truly b c0)) := by
  obtain ⟨vc, vw, rfl, hc, hw⟩ := hv
  obtain ⟨vo, vf, rfl, ho, hf⟩ := hk
  have hc0 := hc
  have hw0 := hw
  have ho0 := ho
  have hf0 := hf
  have hnw := hb.nw
  have hnc := hb.nc
  have hwd := hb.w
  have hht := hb.h
  have hs := there_zero.1 hr.s
  simp only [between, Bool.and_eq_true, decide_eq_true_eq] at hs
  have hol := offs_len _ hr.o
  have hoin : ∀ n ∈ c0.o, -3 ≤ n ∧ n ≤ 3 := by
    have := offsAll_in (l := b.cs) hb.cs b.cs.length (Nat.le_refl _)
    rw [List.take_length] at this
    exact this _ hr.o
  have hfl5 : c0.f.length ≤ 5 := Nat.le_trans (sets_each _ _ _ hr.f) hnw
  obtain ⟨cb, cc, rfl⟩ := hc.form
  obtain ⟨wb, wc, rfl⟩ := hw.form
  obtain ⟨ob, oc, rfl⟩ := ho.form
  obtain ⟨fb, fc, rfl⟩ := hf.form
  have hfl := flatMap_len Wt.len b.ws
  refine CallR.intro hJ (by kernel_rfl) fun c cs tail hret => enter_X (n := 67) func49 rfl rfl (Nl rfl) ?_
  have C : Ctx prog main J (bf 49 .normal) := ⟨hJ, by decide⟩
  refine Xr C rfl rfl <| R.box C rfl rfl rfl rfl fun p2 => R.box C rfl rfl rfl rfl fun p3 => R.alloc C rfl rfl zeroValue25 rfl fun p4 => R.done C <| Xr C rfl rfl <| R.loadAgg C rfl rfl rfl isAgg25 sizeOf25 (by repeat (first | exact Mh | apply Mt)) Tk5 <| R.alloc C rfl rfl zeroValue25 rfl fun p5 => R.store C rfl rfl rfl rfl sizeOf25 rfl rfl rfl (by repeat (first | exact Uh | apply Ut)) (.here (.here (.here (.here (.here .nil))))) <| R.done C <| Xr C rfl rfl <| R.buildSlice C (vs := _) rfl rfl (show pvals _ _ = some (numbered 0 []) from rfl) rfl runUnderlying23 sizeOf58 zeroValue58 (by decide) (.nil) fun p9 => Rf C 4 rfl rfl runUnderlying25 rfl sizeOf23 <| R.loadOne C rfl rfl rfl isAgg23 (by repeat (first | exact Mh | apply Mt)) rfl <| R.append (kk := 5) C rfl rfl rfl rfl runUnderlying23 runUnderlying23 (fun _ => nofun) (show prog.info? 58 = some Tryz.t58 by kernel_rfl) rfl rfl rfl (by decide) (by decide) (Buf.blk (cells := []) (spare := []) (len := 0) (cap := 0) rfl rfl (Nat.le_refl _)) (hw0.rd Wt.len) (ones_W b.ws) (by simp only [List.length_nil]; omega) fun v' own' hb' => ?_
  obtain ⟨own0, rfl, hb0⟩ := Buf.unapp (tail := []) (H := (p5, .cells [.int .i64 b.w, .int .i64 b.h, .int .i64 b.f, .slice cb b.cs.length cc, .slice wb b.ws.length wc].toArray 25 (0, 0)) :: (p4, .cells [.int .i64 0, .int .i64 0, .int .i64 0, .slice none 0 0, .slice none 0 0].toArray 25 (0, 0)) :: (p3, .cells [.int .i64 c0.s.e, .int .i64 c0.s.n, .slice ob c0.o.length oc, .slice fb c0.f.length fc].toArray 30 (0, 0)) :: (p2, .cells [.int .i64 b.w, .int .i64 b.h, .int .i64 b.f, .slice cb b.cs.length cc, .slice wb b.ws.length wc].toArray 25 (0, 0)) :: tail) hb'
  by_cases hne : b.ws = []
  · have hn0 : b.ws.length = 0 := by rw [hne]; rfl
    have hte : (truly b c0).ws = b.ws := by rw [← trulyU_all, hn0, trulyU_zero]
    have hcells : ([] : List Value) ++ b.ws.flatMap Wt.cells = b.ws.flatMap Wt.cells := List.nil_append _
    rw [hcells] at hb0
    obtain ⟨bs0, cap0, hvq⟩ := hb0.form (by decide)
    rw [hfl, hn0] at hvq
    subst hvq
    refine Rf C 4 rfl rfl runUnderlying25 rfl sizeOf23 <| R.store C rfl rfl rfl rfl sizeOf23 rfl rfl rfl (by repeat (first | exact Uh | apply Ut | apply Upd.app)) (.skip (.skip (.skip (.skip (.here .nil))))) <| R.done C <| Xs C <| Xr C rfl rfl <| Ad C rfl rfl <| X.block C.1 <| X.loopI (ι := Unit) C.1 (fun _ => True) (fun _ => [(2, .pointer (some ⟨p2, 0, none⟩)), (3, .pointer (some ⟨p3, 0, none⟩)), (4, .pointer (some ⟨p4, 0, none⟩)), (5, .pointer (some ⟨p5, 0, none⟩)), (6, .int .i64 0)])
      (fun _ => ⟨ro, own0 ++ (p5, .cells [.int .i64 b.w, .int .i64 b.h, .int .i64 b.f, .slice cb b.cs.length cc, .slice bs0 0 cap0].toArray 25 (0, 0)) :: (p4, .cells [.int .i64 0, .int .i64 0, .int .i64 0, .slice none 0 0, .slice none 0 0].toArray 25 (0, 0)) :: (p3, .cells [.int .i64 c0.s.e, .int .i64 c0.s.n, .slice ob c0.o.length oc, .slice fb c0.f.length fc].toArray 30 (0, 0)) :: (p2, .cells [.int .i64 b.w, .int .i64 b.h, .int .i64 b.f, .slice cb b.cs.length cc, .slice wb b.ws.length wc].toArray 25 (0, 0)) :: tail⟩) (fun _ => 0) () trivial rfl ⟨rfl, rfl, rfl, rfl, rfl, trivial⟩ fun _ _ hnext => ?_
    refine Xs C <| Xr C rfl rfl <| Rm C rfl rfl <| Rf C 4 rfl rfl runUnderlying25 rfl sizeOf23 <| R.loadOne C rfl rfl rfl isAgg23 (by repeat (first | exact Mh | apply Mt | apply List.mem_append_right)) rfl <| R.lenSlice C rfl rfl rfl runUnderlying23 <| R.int C rfl rfl rfl rfl b_lss <| R.done C <| X.cond C.1 rfl (fun hlt => ?_) (fun hlt => ?_)
    · have hlt := hlt
      simp at hlt
    · have hlt := hlt
      refine X.exit C.1 rfl <| Xr C rfl rfl <| R.finish C.1 Wt.len (by decide) (hb0.app _) fun ro3 hl3 hls3 => R.loadAgg C rfl rfl rfl isAgg25 sizeOf25 (by repeat (first | exact Mh | apply Mt)) Tk5 <| R.store C rfl rfl rfl rfl sizeOf25 rfl rfl rfl (by repeat (first | exact Uh | apply Ut)) (.here (.here (.here (.here (.here .nil))))) <| R.done C <| X.ret C rfl rfl func49 rfl (by exact (.agg rfl isAgg25 sizeOf25 (by repeat (first | exact Mh | apply Mt)) Tk5 .nil)) <| Hr hret hl3 <| ⟨_, _, rfl, hc0.mono hl3, ?_⟩
      rw [hte]
      exact hls3
  · have hpos := List.length_pos_iff.2 hne
    obtain ⟨pW, len, capW, spare, rfl, hlen, rfl, hset⟩ := hb0.at (by simp only [List.nil_append]; omega)
    simp only [List.nil_append] at hlen
    obtain rfl : len = b.ws.length := by omega
    refine Rf C 4 rfl rfl runUnderlying25 rfl sizeOf23 <| R.store C rfl rfl rfl rfl sizeOf23 rfl rfl rfl (by repeat (first | exact Uh | apply Ut)) (.skip (.skip (.skip (.skip (.here .nil))))) <| R.done C <| Xs C <| Xr C rfl rfl <| Ad C rfl rfl <| X.block C.1 <| X.loopI (ι := Nat) C.1 (fun i => i ≤ b.ws.length) (fun i => [(2, .pointer (some ⟨p2, 0, none⟩)), (3, .pointer (some ⟨p3, 0, none⟩)), (4, .pointer (some ⟨p4, 0, none⟩)), (5, .pointer (some ⟨p5, 0, none⟩)), (6, .int .i64 (i : Int))])
      (fun i => ⟨ro, (pW, .cells ((trulyU b c0 i).flatMap Wt.cells ++ spare).toArray 58 (0, 0)) :: (p5, .cells [.int .i64 b.w, .int .i64 b.h, .int .i64 b.f, .slice cb b.cs.length cc, .slice (some ⟨pW, 0, none⟩) b.ws.length capW].toArray 25 (0, 0)) :: (p4, .cells [.int .i64 0, .int .i64 0, .int .i64 0, .slice none 0 0, .slice none 0 0].toArray 25 (0, 0)) :: (p3, .cells [.int .i64 c0.s.e, .int .i64 c0.s.n, .slice ob c0.o.length oc, .slice fb c0.f.length fc].toArray 30 (0, 0)) :: (p2, .cells [.int .i64 b.w, .int .i64 b.h, .int .i64 b.f, .slice cb b.cs.length cc, .slice wb b.ws.length wc].toArray 25 (0, 0)) :: tail⟩) (fun i => b.ws.length - i) 0 (Nat.zero_le _) (by rw [trulyU_zero]; rfl) ⟨rfl, rfl, rfl, rfl, rfl, trivial⟩ fun i hi hnext => ?_
    have htl := trulyU_len b c0 i
    refine Xs C <| Xr C rfl rfl <| Rm C rfl rfl <| Rf C 4 rfl rfl runUnderlying25 rfl sizeOf23 <| R.loadOne C rfl rfl rfl isAgg23 (by repeat (first | exact Mh | apply Mt)) rfl <| R.lenSlice C rfl rfl rfl runUnderlying23 <| R.int C rfl rfl rfl rfl b_lss <| R.done C <| X.cond C.1 rfl (fun hlt => ?_) (fun hlt => ?_)
    · have hlt := hlt
      simp only [decide_eq_true_eq] at hlt
      have hi' : i < b.ws.length := by omega
      have hi2 : i < (trulyU b c0 i).length := by omega
      have hsub := wt_sub (trulyU b c0 i) spare hi2
      have hget : (trulyU b c0 i)[i] = b.wt i := by rw [trulyU_at, if_neg (Nat.lt_irrefl _)]
      rw [hget] at hsub
      have hfine := hb.ws _ (List.getElem_mem hi')
      rw [Bk.wt_get hi'] at hfine
      obtain ⟨⟨k1, k2, k3, k4⟩, _, k5, k6⟩ := Wt.fine.ok hfine
      have hstep := trulyU_set (b := b) (c := c0) (i := i)
      have hsame := trulyU_same (b := b) (c := c0) (i := i)
      have hput : ∀ B : Int, Put (0 + i * 5 + 2) [.int .i64 B] ((trulyU b c0 i).flatMap Wt.cells ++ spare) (((trulyU b c0 i).set i { b.wt i with b := B }).flatMap Wt.cells ++ spare) := fun B => by
        rw [Nat.zero_add]
        exact Put.flat Wt.len (trulyU b c0 i) i hi2 _ spare (by rw [hget]; exact .skip (.skip (.here .nil)))
      generalize hW : b.wt i = W at hsub k1 k2 k3 k4 k5 k6 hstep hsame hput
      have hsub2 : Sub (0 + i * 5) 5 ((trulyU b c0 i).flatMap Wt.cells ++ spare) [.int .i64 W.s.e, .int .i64 W.s.n, .int .i64 W.b, .int .i64 W.k, .bool W.sure] := hsub
      refine X.skip C.1 <| Xs C <| X.block C.1 <| Xr C rfl rfl <| Rf C 4 rfl rfl runUnderlying25 rfl sizeOf23 <| R.loadOne C rfl rfl rfl isAgg23 (by repeat (first | exact Mh | apply Mt)) rfl <| Rm C rfl rfl <| Rx C rfl rfl rfl runUnderlying23 sizeOf58 <| R.loadAgg C rfl rfl rfl isAgg58 sizeOf58 (by repeat (first | exact Mh | apply Mt)) hsub2 <| R.alloc C rfl rfl zeroValue58 rfl fun p7 => R.store C rfl rfl rfl rfl sizeOf58 rfl rfl rfl (by repeat (first | exact Uh | apply Ut)) (.here (.here (.here (.here (.here .nil))))) <| R.done C <| Xs C <| Xr C rfl rfl <| Rf C 3 rfl rfl runUnderlying30 rfl sizeOf28 <| R.loadOne C rfl rfl rfl isAgg28 (by repeat (first | exact Mh | apply Mt)) rfl <| Rm C rfl rfl <| R.callP C rfl rfl rfl rfl (holdsR_c hJ hf0 (by omega) (i : Int)) <| Rm C rfl rfl <| R.fix (t := 30) rfl (fun hA => ?_) (fun hA => ?_)
      · have hA := hA
        have hw1 : trulyW c0 i W = W := by rw [trulyW, hA]; rfl
        refine R.pass C rfl rfl <| R.pass C rfl rfl <| R.pass C rfl rfl <| R.pass C rfl rfl <| R.pass C rfl rfl <| R.pickT C rfl rfl rfl rfl <| R.done C <| X.cond C.1 rfl (fun _ => ?_) (fun h => nomatch h)
        refine X.exit C.1 rfl <| X.region C rfl rfl <| Rm C rfl rfl <| R.int C rfl rfl rfl rfl (b_add (by omega) (by omega)) <| Ad C rfl rfl ?_
        have hn := hnext (i + 1) hi' (by omega)
        rw [hsame hw1] at hn
        refine X.drop C.1 (List.sublist_cons_self _ _) <| X.weaken ?_ hn
        exact ⟨rfl, rfl, rfl, rfl, by simp [look], trivial⟩
      · have hA := hA
        refine Rf C 0 rfl rfl runUnderlying58 rfl sizeOf27 <| R.loadAgg C rfl rfl rfl isAgg27 sizeOf27 (by repeat (first | exact Mh | apply Mt)) Tk2 <| Rf C 0 rfl rfl runUnderlying30 rfl sizeOf27 <| R.loadAgg C rfl rfl rfl isAgg27 sizeOf27 (by repeat (first | exact Mh | apply Mt)) Tk2 <| R.eqAgg (p := [W.s.e, W.s.n]) (q := [c0.s.e, c0.s.n]) C rfl rfl rfl rfl eqT27 rfl rfl (by kernel_rfl) <| R.pickF C rfl rfl rfl rfl <| R.done C <| X.cond C.1 rfl (fun hB => ?_) (fun hB => ?_)
        · have hB := hB
          have hws : W.s = c0.s := by
            obtain ⟨⟨a1, a2⟩, _⟩ := W
            obtain ⟨⟨d1, d2⟩, _, _⟩ := c0
            simpa using hB
          have hw1 : trulyW c0 i W = W := by rw [trulyW, hws]; simp
          refine X.exit C.1 rfl <| X.region C rfl rfl <| Rm C rfl rfl <| R.int C rfl rfl rfl rfl (b_add (by omega) (by omega)) <| Ad C rfl rfl ?_
          have hn := hnext (i + 1) hi' (by omega)
          rw [hsame hw1] at hn
          refine X.drop C.1 (List.sublist_cons_self _ _) <| X.weaken ?_ hn
          exact ⟨rfl, rfl, rfl, rfl, by simp [look], trivial⟩
        · have hB := hB
          have hws : ¬ W.s = c0.s := by
            obtain ⟨⟨a1, a2⟩, _⟩ := W
            obtain ⟨⟨d1, d2⟩, _, _⟩ := c0
            intro h
            simp only [Sq.mk.injEq] at h
            simp [h] at hB
          have hw1 : trulyW c0 i W = { W with b := (trueOf (c0.s.e - W.s.e) (c0.s.n - W.s.n) + c0.o.getD W.k.toNat 0 + 8) % 8 } := by
            rw [trulyW, if_neg]
            simp only [hA, Bool.false_or, decide_eq_true_eq]
            exact hws
          have hki : W.k.toNat < c0.o.length := by omega
          obtain ⟨po, offo, capo, lo, to, fqo, hslo, hropo, hsubo⟩ := ho0.at ic_len (by omega)
          cases hslo
          have hx := ic_at hsubo hki
          have hxr := hoin _ (List.getElem_mem hki)
          have hxd : c0.o.getD W.k.toNat 0 = c0.o[W.k.toNat] := getD_at hki
          rw [hxd] at hw1
          generalize c0.o[W.k.toNat] = z at hx hxr hw1
          have hbr := bearing_range W.s c0.s
          rw [← trueOf_bearing] at hbr
          generalize hTO : trueOf (c0.s.e - W.s.e) (c0.s.n - W.s.n) = TO at hw1 hbr
          obtain ⟨B, hBq⟩ : ∃ B, B = (TO + z + 8) % 8 := ⟨_, rfl⟩
          rw [← hBq] at hw1
          refine X.skip C.1 <| Xd C fun hok => Df (off' := 4) C 0 hok rfl rfl rfl runUnderlying25 rfl sizeOf23 rfl <| D1 C 1 hok rfl rfl isAgg23 (by repeat (first | exact Mh | apply Mt)) rfl <| Dm C 2 hok rfl rfl rfl <| Df (off' := 0) C 3 hok rfl rfl rfl runUnderlying30 rfl sizeOf27 rfl <| Df (off' := 0) C 4 hok rfl rfl rfl runUnderlying27 rfl sizeOf3 rfl <| D1 C 5 hok rfl rfl isAgg3 (by repeat (first | exact Mh | apply Mt)) rfl <| Df (off' := 0) C 6 hok rfl rfl rfl runUnderlying58 rfl sizeOf27 rfl <| Df (off' := 0) C 7 hok rfl rfl rfl runUnderlying27 rfl sizeOf3 rfl <| D1 C 8 hok rfl rfl isAgg3 (by repeat (first | exact Mh | apply Mt)) rfl <| Di C 9 hok rfl rfl rfl rfl rfl (b_sub (by omega) (by omega)) <| Df (off' := 0) C 10 hok rfl rfl rfl runUnderlying30 rfl sizeOf27 rfl <| Df (off' := 1) C 11 hok rfl rfl rfl runUnderlying27 rfl sizeOf3 rfl <| D1 C 12 hok rfl rfl isAgg3 (by repeat (first | exact Mh | apply Mt)) rfl <| Df (off' := 0) C 13 hok rfl rfl rfl runUnderlying58 rfl sizeOf27 rfl <| Df (off' := 1) C 14 hok rfl rfl rfl runUnderlying27 rfl sizeOf3 rfl <| D1 C 15 hok rfl rfl isAgg3 (by repeat (first | exact Mh | apply Mt)) rfl <| Di C 16 hok rfl rfl rfl rfl rfl (b_sub (by omega) (by omega)) <| Df (off' := 2) C 18 hok rfl rfl rfl runUnderlying30 rfl sizeOf28 rfl <| D1 C 19 hok rfl rfl isAgg28 (by repeat (first | exact Mh | apply Mt)) rfl <| Df (off' := 3) C 20 hok rfl rfl rfl runUnderlying58 rfl sizeOf3 rfl <| D1 C 21 hok rfl rfl isAgg3 (by repeat (first | exact Mh | apply Mt)) rfl <| Dp 22 hok (fun _ _ _ A h => R.indexAddr C rfl (A.w rfl rfl) (A.x rfl rfl) (A.x rfl rfl) runUnderlying28 sizeOf3 k5 (by omega) h) <| Dl 23 hok (fun _ _ A h => R.loadOneRo C rfl (A.w rfl rfl) (A.x rfl rfl) isAgg3 hropo hx h) <| De 17 (some 54) [true, true, true, false, false, false, false, true] hok (fun σr rest A hk => ?_)
          refine R.callP C rfl (A.w rfl rfl) (A.x rfl rfl) (A.s rfl rfl) (trueOfR_c hJ (c0.s.e - W.s.e) (c0.s.n - W.s.n) (by omega) (by omega) _) (hk _ _ ⟨(QFs.cons (QF.of rfl (fun _ _ A h => R.loadOneRo C rfl (A.w rfl rfl) (A.x rfl rfl) isAgg3 hropo hx h)) (QFs.cons (QF.of rfl (fun _ _ A h => R.loadOne C rfl (A.w rfl rfl) (A.x rfl rfl) isAgg3 (by repeat (first | exact Mh | apply Mt)) rfl h)) (QFs.cons (QF.of rfl (fun _ _ A h => R.loadOne C rfl (A.w rfl rfl) (A.x rfl rfl) isAgg28 (by repeat (first | exact Mh | apply Mt)) rfl h)) (QFs.cons (QF.of rfl (fun _ _ A h => R.loadOne C rfl (A.w rfl rfl) (A.x rfl rfl) isAgg23 (by repeat (first | exact Mh | apply Mt)) rfl h)) QFs.nil)))), ?_⟩)
          refine D.fixv (t := 54) (v' := .int .i64 TO) rfl (by exact congrArg (Value.int .i64) hTO) <| Di C 24 hok rfl rfl rfl rfl rfl (b_add (by omega) (by omega)) <| Di C 25 hok rfl rfl rfl rfl rfl (b_add (by omega) (by omega)) <| Di C 26 hok rfl rfl rfl rfl rfl (b_remP (by omega) (by omega)) <| D.fixv (t := 63) (v' := .int .i64 B) rfl (by exact congrArg (Value.int .i64) hBq.symm) <| Dx C 27 hok rfl rfl rfl runUnderlying23 sizeOf58 <| Df C 28 hok rfl rfl rfl runUnderlying58 rfl sizeOf3 rfl <| De 29 none [false, false, false, false] hok (fun σr rest A hk => ?_)
          refine R.store C rfl (A.w rfl rfl) (A.x rfl rfl) (A.x rfl rfl) sizeOf3 rfl rfl rfl (by repeat (first | exact Uh | apply Ut)) (hput B) (hk undef _ ⟨QFs.nil, ?_⟩)
          refine D.done C hok (by kernel_rfl) <| X.inBlock C.1 <| X.region C rfl rfl <| Rm C rfl rfl <| R.int C rfl rfl rfl rfl (b_add (by omega) (by omega)) <| Ad C rfl rfl ?_
          have hn := hnext (i + 1) hi' (by omega)
          rw [hstep, hw1] at hn
          refine X.drop C.1 (List.sublist_cons_self _ _) <| X.weaken ?_ hn
          exact ⟨rfl, rfl, rfl, rfl, by simp [look], trivial⟩
    · have hlt := hlt
      simp only [decide_eq_false_iff_not] at hlt
      obtain rfl : i = b.ws.length := by omega
      refine X.exit C.1 rfl <| Xr C rfl rfl ?_
      have hfl2 := flatMap_len Wt.len (trulyU b c0 b.ws.length)
      have hb1 := hset ((trulyU b c0 b.ws.length).flatMap Wt.cells) (by simp only [List.nil_append]; omega)
      refine R.finish C.1 Wt.len (by decide) (hb1.app _) fun ro3 hl3 hls3 => ?_
      rw [trulyU_all] at hls3
      refine R.loadAgg C rfl rfl rfl isAgg25 sizeOf25 (by repeat (first | exact Mh | apply Mt)) Tk5 <| R.store C rfl rfl rfl rfl sizeOf25 rfl rfl rfl (by repeat (first | exact Uh | apply Ut)) (.here (.here (.here (.here (.here .nil))))) <| R.done C <| X.ret C rfl rfl func49 rfl (by exact (.agg rfl isAgg25 sizeOf25 (by repeat (first | exact Mh | apply Mt)) Tk5 .nil)) <| Hr hret hl3 ?_
      exact ⟨_, _, rfl, hc0.mono hl3, hls3⟩
end
end Go.Lg.B
namespace Go.Lg.B
open Go Go.Conc Go.Lg Go.Proofs Go.Proofs.Tryz
theorem wheresR_len {b : Bk} (h : knownH b true = 0) : (wheresR b).length ≤ 49 := by
  rw [wheresR, if_neg (by simp [h])]
  exact Nat.le_trans (List.length_filter_le _ _) (squares_len (known_good h).1)
section
variable {main : Bool} {J : Goroutine → Mem → Prop} (hJ : Closed prog main J)
include hJ
end
end Go.Lg.B
namespace Go.Lg.B
open Go Go.Conc Go.Lg Go.Proofs Go.Proofs.Tryz
theorem wheresR_small (b : Bk) : (wheresR b).length ≤ 1000000 := by
  by_cases h : knownH b true = 0
  · have := wheresR_len h; omega
  · rw [wheresR, if_pos h]; exact Nat.zero_le _
theorem offOf_small (b : Bk) (k : Int) : (offOf b k).1.length ≤ 1000000 := by
  rw [offOf]
  by_cases h : openH b (b.compass k) = 0
  · rw [if_neg (by simp [h])]
    have hg := (openH_good h).1
    have h1 := compact_len (((cases b).map fun c => c.a.off k).mergeSort fun x y => decide (x ≤ y)) (((cases b).map fun c => c.a.off k).mergeSort fun x y => decide (x ≤ y)).length
    rw [List.take_length, List.length_mergeSort, List.length_map] at h1
    have h2 := cases_le hg
    simp only; omega
  · rw [if_pos h]; exact Nat.zero_le _
end Go.Lg.B
namespace Go.Lg.B
open Go Go.Conc Go.Lg Go.Proofs Go.Proofs.Tryz
section
variable {main : Bool} {J : Goroutine → Mem → Prop} (hJ : Closed prog main J)
include hJ
theorem hasSquareR_c {v : Value} {ro : RO} {l : List Sq} (hl : LsS ro v l) (hn : l.length ≤ 1000000) (s : Sq) : CallP prog J (fnv 52) [v, s.val] ro (.bool (l.any fun q => decide (q = s))) := by
  have hl0 := hl
  obtain ⟨lb, lc, rfl⟩ := hl.form
  refine CallP.intro hJ (by kernel_rfl) fun c cs tail hret => enter_X (n := 18) func52 rfl rfl (Nl rfl) ?_
  have C : Ctx prog main J (bf 52 .normal) := ⟨hJ, by decide⟩
  refine Xr C rfl rfl <| R.box C rfl rfl rfl rfl fun p3 => Ad C rfl rfl <| Xs C <| Xr C rfl rfl <| Ad C rfl rfl <| X.block C.1 <| X.loopI (ι := Nat) C.1 (fun i => i ≤ l.length ∧ (l.any fun q => decide (q = s)) = ((l.drop i).any fun q => decide (q = s))) (fun i => [(0, .slice lb l.length lc), (3, .pointer (some ⟨p3, 0, none⟩)), (5, .int .i64 (i : Int))])
    (fun _ => ⟨ro, (p3, .cells s.cells.toArray 27 (0, 0)) :: tail⟩) (fun i => l.length - i) 0 ⟨Nat.zero_le _, rfl⟩ rfl ⟨rfl, rfl, rfl, trivial⟩ fun i hi hnext => ?_
  obtain ⟨hi, hr⟩ := hi
  refine Xs C <| Xr C rfl rfl <| Rm C rfl rfl <| Rm C rfl rfl <| R.lenSlice C rfl rfl rfl runUnderlying41 <| R.int C rfl rfl rfl rfl b_lss <| R.done C <| X.cond C.1 rfl (fun hlt => ?_) (fun hlt => ?_)
  · have hlt := hlt
    simp only [decide_eq_true_eq] at hlt
    have hi' : i < l.length := by omega
    obtain ⟨pp, off, cap, ll, t, fq, hsl, hrop, hsub⟩ := hl0.at Sq.len (by omega)
    cases hsl
    have hq := hsub i hi'
    rw [List.drop_eq_getElem_cons hi', List.any_cons] at hr
    refine X.skip C.1 <| Xs C <| X.block C.1 <| Xs C <| Xd C fun hok => Dm C 0 hok rfl rfl rfl <| Dm C 1 hok rfl rfl rfl <| Dx C 2 hok rfl rfl rfl runUnderlying41 sizeOf27 <| Dl 3 hok (fun _ _ A h => R.loadAggRo C rfl (A.w rfl rfl) (A.x rfl rfl) isAgg27 sizeOf27 hrop hq h) <| D5 C 4 hok rfl rfl isAgg27 sizeOf27 (by repeat (first | exact Mh | apply Mt)) Tk2 <| Dp 5 hok (fun _ _ _ A h => R.eqAgg (p := [l[i].e, l[i].n]) (q := [s.e, s.n]) C rfl (A.w rfl rfl) (A.x rfl rfl) (A.x rfl rfl) eqT27 rfl rfl (by kernel_rfl) h) <| D.done C hok (by kernel_rfl) <| X.cond C.1 rfl (fun he => ?_) (fun he => ?_)
    · have he := he
      have he2 : decide (l[i] = s) = true := by
        obtain ⟨se, sn⟩ := s
        generalize l[i] = q at he ⊢
        obtain ⟨qe, qn⟩ := q
        simpa using he
      rw [he2, Bool.true_or] at hr
      refine Xr C rfl rfl <| Ad C rfl rfl <| Xt C func52 <| Hp hret ?_
      rw [hr]; rfl
    · have he := he
      have he2 : decide (l[i] = s) = false := by
        obtain ⟨se, sn⟩ := s
        generalize l[i] = q at he ⊢
        obtain ⟨qe, qn⟩ := q
        simpa using he
      rw [he2, Bool.false_or] at hr
      refine X.skip C.1 <| X.inBlock C.1 <| X.region C rfl rfl <| Rm C rfl rfl <| R.int C rfl rfl rfl rfl (b_add (by omega) (by omega)) <| Ad C rfl rfl <| X.weaken ?_ (hnext (i + 1) ⟨hi', hr⟩ (by omega))
      exact ⟨rfl, rfl, by simp [look], trivial⟩
  · have hlt := hlt
    simp only [decide_eq_false_iff_not] at hlt
    obtain rfl : i = l.length := by omega
    rw [List.drop_length] at hr
    refine X.exit C.1 rfl <| Xr C rfl rfl <| Ad C rfl rfl <| Xt C func52 <| Hp hret ?_
    rw [hr]; rfl
end
end Go.Lg.B
namespace Go.Lg.B
open Go Go.Conc Go.Lg Go.Proofs Go.Proofs.Tryz
set_option maxRecDepth 100000
theorem square_mod {b : Bk} (hg : b.good) {q : Int} : b.square ⟨q % b.w, q / 8 % b.h⟩ = 0 := by
  have hw := hg.w
  have hh := hg.h
  have h1 := Int.emod_nonneg q (show b.w ≠ 0 by omega)
  have h2 := Int.emod_lt_of_pos q (show 0 < b.w by omega)
  have h3 := Int.emod_nonneg (q / 8) (show b.h ≠ 0 by omega)
  have h4 := Int.emod_lt_of_pos (q / 8) (show 0 < b.h by omega)
  rw [Bk.square, there_zero]
  simp only [between, Bool.and_eq_true, decide_eq_true_eq]
  omega
theorem compass_mod {b : Bk} (hg : b.good) (q : Int) : b.compass (q % (b.cs.length : Int)) = 0 := by
  have hn := hg.nc
  have h1 := Int.emod_nonneg q (show (b.cs.length : Int) ≠ 0 by omega)
  have h2 := Int.emod_lt_of_pos q (show 0 < (b.cs.length : Int) by omega)
  rw [Bk.compass, there_zero]
  simp only [between, Bool.and_eq_true, decide_eq_true_eq]
  omega
end Go.Lg.B
namespace Go.Lg.B
open Go Go.Conc Go.Lg Go.Proofs Go.Proofs.Tryz
set_option maxRecDepth 100000
theorem sure_never {b : Bk} {i : Nat} (hi : i < b.ws.length) (hs : (b.wt i).sure = true) : knownZ (fun c => c.m.testBit i) (cases b) = 2 := by
  rw [knownZ, if_pos]
  rw [List.countP_eq_zero]
  intro c hc
  obtain ⟨_, _, h3⟩ := cases_iff.1 hc
  simp only [okMask, Bool.and_eq_true] at h3
  intro hb
  have := and_zero.1 h3.2.1 i hb
  rw [sureM, maskOf_bit, decide_eq_true hi, hs] at this
  cases this
theorem real_root {b : Bk} {vb vp : Value} {p : List U16} {o sq kq wq : Int} (h1 : 0 ≤ o ∧ o ≤ 255) (h2 : 0 ≤ sq ∧ sq ≤ 65535) (h3 : 0 ≤ kq ∧ kq ≤ 255) (h4 : 0 ≤ wq ∧ wq ≤ 255) {ro : RO} (he : Env ro) (hv : BkV ro vb b) (hp : Ls uc 1 ro vp p) : Root prog 6 [vb, vp, .int .u8 o, .int .u16 sq, .int .u8 kq, .int .u8 wq] ro (fun w _ => w = .bool true) := by
  obtain ⟨bits, rfl⟩ := Int.eq_ofNat_of_zero_le h1.1
  have hbits : bits < 256 := by omega
  intro Post hret
  have hJ : Closed prog true (JM prog (Go.Conc.Good prog Post)) := JM.closed
  have hvv := hv
  obtain ⟨vc, vw, rfl, hc, hw⟩ := hv
  obtain ⟨cb, cc, rfl⟩ := hc.form
  obtain ⟨wb, wc, rfl⟩ := hw.form
  have hpp := hp
  obtain ⟨pb, pc, rfl⟩ := hp.form
  let main := true
  let J := JM prog (Go.Conc.Good prog Post)
  refine enter_X (n := 248) func6 rfl rfl (Nl rfl) ?_
  have C : Ctx prog main J (bf 6 .normal) := ⟨hJ, by decide⟩
  refine Xr C rfl rfl <| R.box C rfl rfl rfl rfl fun p6 => Ad C rfl rfl <| Xs C <| Xr C rfl rfl <| R.loadAgg C rfl rfl rfl isAgg25 sizeOf25 (by repeat (first | exact Mh | apply Mt)) Tk5 <| R.callP C rfl rfl rfl rfl (fitR_c hJ hvv) <| R.not C rfl rfl rfl <| R.done C <| X.cond C.1 rfl (fun hfit => ?_) (fun hfit => ?_)
  · have hfit := hfit
    refine Xr C rfl rfl <| R.callR C rfl rfl rfl rfl ((found_c _ he)) fun v9 ro9 hl9 hq9 => Ad C rfl rfl <| X.ret0 C (by kernel_rfl) rfl rfl func6 rfl (by exact (.tmp rfl .nil)) fun w9 hs9 => hret _ _ _ hl9 ?_ w9 hs9
    exact hq9
  · have hfit := hfit
    have hch : checkChart b = 0 := by simpa using hfit
    have hg := good_iff.1 hch
    have hnw := hg.nw
    have hnc := hg.nc
    have hwd := hg.w
    have hht := hg.h
    have hsh : b.short := ⟨by omega, by omega⟩
    have hrc := real_real (p := p) (o := bits) hg
    refine X.skip C.1 <| Xr C rfl rfl <| R.loadAgg C rfl rfl rfl isAgg25 sizeOf25 (by repeat (first | exact Mh | apply Mt)) Tk5 <| Rm C rfl rfl <| Rm C rfl rfl <| R.callR C rfl rfl rfl rfl ((realR_c hJ hvv hg hpp hbits)) fun w1 ro1 hl1 hp1 => ?_
    have hcs := hp1
    obtain ⟨vo1, vf1, rfl, ho1, hf1⟩ := hp1
    have ho10 := ho1
    have hf10 := hf1
    generalize realCs b p bits = Q at *
    obtain ⟨ob, oc, rfl⟩ := ho1.form
    obtain ⟨fb, fc, rfl⟩ := hf1.form
    refine R.alloc C rfl rfl zeroValue30 rfl fun p13 => R.store C rfl rfl rfl rfl sizeOf30 rfl rfl rfl (by repeat (first | exact Uh | apply Ut)) (.here (.here (.here (.here .nil)))) <| R.done C <| Xr C rfl rfl <| R.loadAgg C rfl rfl rfl isAgg25 sizeOf25 (by repeat (first | exact Mh | apply Mt)) Tk5 <| R.loadAgg C rfl rfl rfl isAgg30 sizeOf30 (by repeat (first | exact Mh | apply Mt)) Tk4 <| R.callR C rfl rfl rfl rfl ((trulyR_c hJ (hvv.mono hl1) hg hcs hrc)) fun w2 ro2 hl2 hp2 => ?_
    have hvO := hp2
    have hgO := truly_good (c := Q) hg
    have hchO := good_iff.2 hgO
    have hin := real_in hg hrc
    have hL0 := real_case hg hrc
    have hisc := real_isCase hg hrc
    have hopO := real_open hg hrc
    have hfewR := real_few hg hrc
    have hOcs : (truly b Q).cs = b.cs := rfl
    have hOw : (truly b Q).w = b.w := rfl
    have hOh : (truly b Q).h = b.h := rfl
    have hOn := truly_len b Q
    have hRs : (truly b Q).square Q.s = 0 := hrc.s
    have hRo := offs_len _ hrc.o
    have hRf : Q.f.length ≤ 5 := Nat.le_trans (sets_each _ _ _ hrc.f) hnw
    have hRfr := ((sets_iff hg.f.1 _ _).1 hrc.f).2.1
    have hRin : ∀ n ∈ Q.o, -3 ≤ n ∧ n ≤ 3 := by
      have := offsAll_in (l := b.cs) hg.cs b.cs.length (Nat.le_refl _)
      rw [List.take_length] at this
      exact this _ hrc.o
    generalize truly b Q = O at *
    obtain ⟨vc2, vw2, rfl, hc2, hw2⟩ := hp2
    have hw20 := hw2
    obtain ⟨cb2, cc2, rfl⟩ := hc2.form
    obtain ⟨wb2, wc2, rfl⟩ := hw2.form
    have heO := (he.mono hl1).mono hl2
    have hcsO := hcs.mono hl2
    have hshO : O.short := ⟨by rw [hOcs]; omega, by omega⟩
    obtain ⟨se, hse⟩ : ∃ se, se = sq % O.w := ⟨_, rfl⟩
    obtain ⟨sn, hsn⟩ : ∃ sn, sn = sq / 8 % O.h := ⟨_, rfl⟩
    obtain ⟨k, hk⟩ : ∃ k, k = kq % (O.cs.length : Int) := ⟨_, rfl⟩
    have hncO := hgO.nc
    have hwdO := hgO.w
    have hhtO := hgO.h
    have hsqO : O.square ⟨se, sn⟩ = 0 := by rw [hse, hsn]; exact square_mod hgO
    have hkcO : O.compass k = 0 := by rw [hk]; exact compass_mod hgO _
    have hk01 : 0 ≤ k ∧ k < (O.cs.length : Int) := by rw [hk]; exact ⟨Int.emod_nonneg _ (by omega), Int.emod_lt_of_pos _ (by omega)⟩
    have hki : k.toNat < Q.o.length := by rw [hRo, ← hOcs]; omega
    refine R.store C rfl rfl rfl rfl sizeOf25 rfl rfl rfl (by repeat (first | exact Uh | apply Ut)) (.here (.here (.here (.here (.here .nil))))) <| R.done C <| Xs C <| X.afterI (ι := Nat) (fun _ => True) (fun p14 => [(5, .int .u8 wq), (6, .pointer (some ⟨p6, 0, none⟩)), (13, .pointer (some ⟨p13, 0, none⟩)), (14, .pointer (some ⟨p14, 0, none⟩)), (15, .int .i64 k)]) (fun p14 => ⟨ro2, (p14, .cells [.int .i64 se, .int .i64 sn].toArray 27 (0, 0)) :: (p13, .cells [.int .i64 Q.s.e, .int .i64 Q.s.n, .slice ob Q.o.length oc, .slice fb Q.f.length fc].toArray 30 (0, 0)) :: (p6, .cells [.int .i64 O.w, .int .i64 O.h, .int .i64 O.f, .slice cb2 O.cs.length cc2, .slice wb2 O.ws.length wc2].toArray 25 (0, 0)) :: []⟩) (fun p14 _ => ?_) (fun hcont => ?_)
    · have hM : ro2.le ro2 := RO.le_refl _
      have hRsh : Q.short := ⟨by omega, by omega⟩
      have hinR : Q.s ∈ wheres O := (wheres_mem hopO _).2 ⟨_, hL0, rfl⟩
      have hbox := box_has hopO hinR
      have htR : told O (O.square Q.s) (fun c => decide (c.a.s = Q.s)) = (knownZ (fun c => decide (c.a.s = Q.s)) (cases O), 0) := by rw [told, hRs, if_neg (by simp [hopO])]
      have htS : told O (O.square ⟨se, sn⟩) (fun c => decide (c.a.s = ⟨se, sn⟩)) = (knownZ (fun c => decide (c.a.s = ⟨se, sn⟩)) (cases O), 0) := by rw [told, hsqO, if_neg (by simp [hopO])]
      have hkR := said_known (p := fun c : Lot => decide (c.a.s = Q.s)) hL0
      have hkS := said_known (p := fun c : Lot => decide (c.a.s = ⟨se, sn⟩)) hL0
      have hnO : openH O (O.compass k) = 0 := by rw [hkcO]; exact hopO
      have hoff2 : (offOf O k).2 = 0 := by rw [offOf, if_neg (by simp [hnO])]
      have hoffk : (Q.o[k.toNat]'hki) ∈ (offOf O k).1 := (offOf_mem hnO _).2 ⟨_, hL0, by
        show (Cs.aim Q).off k = _
        have := aim_off Q.s Q.o Q.f (k := k.toNat) (by omega)
        rw [show ((k.toNat : Nat) : Int) = k by omega] at this
        rw [show Cs.aim Q = Cs.aim ⟨Q.s, Q.o, Q.f⟩ from rfl, this]
        exact getD_at hki⟩
      have hfew : fewest O = (fewL O, 0) := by rw [fewest, if_neg (by simp [hchO])]; rfl
      have hwl : (wheres O).length ≤ 1000000 := by rw [where_law]; exact wheresR_small O
      have hol := offOf_small O k
      have hpos := List.length_pos_iff.2 (openH_good hopO).2.2
      have hle := cases_le hgO
      refine Xr C rfl rfl <| R.loadAgg C rfl rfl rfl isAgg25 sizeOf25 (by repeat (first | exact Mh | apply Mt)) Tk5 <| R.loadAgg C rfl rfl rfl isAgg30 sizeOf30 (by repeat (first | exact Mh | apply Mt)) Tk4 <| R.callR C rfl rfl rfl rfl ((isCase_c hJ (heO.mono hM) (hvO.mono hM) hshO (hcsO.mono hM) hRsh)) fun x1 so1 hm1 hq1 => ?_
      subst hq1
      rw [hisc]
      replace hM := RO.le_trans hM hm1
      refine Rm C rfl rfl <| R.ext C rfl rfl rfl rfl <| R.ext C rfl rfl rfl rfl <| R.asg C rfl rfl rfl <| Ad C rfl rfl <| Xr C rfl rfl <| R.loadAgg C rfl rfl rfl isAgg25 sizeOf25 (by repeat (first | exact Mh | apply Mt)) Tk5 <| R.callR C rfl rfl rfl rfl ((cases_c hJ (heO.mono hM) (hvO.mono hM) hshO)) fun x2 so2 hm2 hq2 => ?_
      subst hq2
      rw [if_neg (show ¬ checkChart O ≠ 0 by simp [hchO]), hchO]
      replace hM := RO.le_trans hM hm2
      refine Rm C rfl rfl <| R.ext C rfl rfl rfl rfl <| R.ext C rfl rfl rfl rfl <| R.asg C rfl rfl rfl <| Ad C rfl rfl <| Xr C rfl rfl <| R.loadAgg C rfl rfl rfl isAgg25 sizeOf25 (by repeat (first | exact Mh | apply Mt)) Tk5 <| R.callR C rfl rfl rfl rfl ((where_c hJ (heO.mono hM) (hvO.mono hM) hshO)) fun x3 so3 hm3 hq3 => ?_
      obtain ⟨vs3, hs3, rfl⟩ := hq3
      rw [hopO]
      replace hM := RO.le_trans hM hm3
      refine Rm C rfl rfl <| R.ext C rfl rfl rfl rfl <| R.ext C rfl rfl rfl rfl <| R.asg C rfl rfl rfl <| Ad C rfl rfl <| Xr C rfl rfl <| R.loadAgg C rfl rfl rfl isAgg25 sizeOf25 (by repeat (first | exact Mh | apply Mt)) Tk5 <| R.callR C rfl rfl rfl rfl ((box_c hJ (heO.mono hM) (hvO.mono hM) hshO)) fun x4 so4 hm4 hq4 => ?_
      subst hq4
      rw [hopO]
      generalize box O = BX at *
      obtain ⟨⟨e1, e2⟩, ⟨n1, n2⟩⟩ := BX
      simp only [inBox] at hbox
      replace hM := RO.le_trans hM hm4
      refine Rm C rfl rfl <| R.ext C rfl rfl rfl rfl <| R.ext C rfl rfl rfl rfl <| R.ext C rfl rfl rfl rfl <| R.alloc C rfl rfl zeroValue46 rfl fun p22 => R.alloc C rfl rfl zeroValue46 rfl fun p23 => R.store C rfl rfl rfl rfl sizeOf46 rfl rfl rfl (by repeat (first | exact Uh | apply Ut)) (.here (.here .nil)) <| R.store C rfl rfl rfl rfl sizeOf46 rfl rfl rfl (by repeat (first | exact Uh | apply Ut)) (.here (.here .nil)) <| Ad C rfl rfl <| Xr C rfl rfl <| R.loadAgg C rfl rfl rfl isAgg25 sizeOf25 (by repeat (first | exact Mh | apply Mt)) Tk5 <| Rf C 0 rfl rfl runUnderlying30 rfl sizeOf27 <| R.loadAgg C rfl rfl rfl isAgg27 sizeOf27 (by repeat (first | exact Mh | apply Mt)) Tk2 <| R.callR C rfl rfl rfl rfl ((at_c hJ (heO.mono hM) (hvO.mono hM) hshO Q.s)) fun x5 so5 hm5 hq5 => ?_
      subst hq5
      rw [htR]
      replace hM := RO.le_trans hM hm5
      refine Rm C rfl rfl <| R.ext C rfl rfl rfl rfl <| R.ext C rfl rfl rfl rfl <| R.asg C rfl rfl rfl <| Ad C rfl rfl <| Xr C rfl rfl <| R.loadAgg C rfl rfl rfl isAgg25 sizeOf25 (by repeat (first | exact Mh | apply Mt)) Tk5 <| R.loadAgg C rfl rfl rfl isAgg27 sizeOf27 (by repeat (first | exact Mh | apply Mt)) Tk2 <| R.callR C rfl rfl rfl rfl ((at_c hJ (heO.mono hM) (hvO.mono hM) hshO ⟨se, sn⟩)) fun x6 so6 hm6 hq6 => ?_
      subst hq6
      rw [htS]
      replace hM := RO.le_trans hM hm6
      refine Rm C rfl rfl <| R.ext C rfl rfl rfl rfl <| R.ext C rfl rfl rfl rfl <| R.asg C rfl rfl rfl <| Ad C rfl rfl <| Xr C rfl rfl <| R.loadAgg C rfl rfl rfl isAgg25 sizeOf25 (by repeat (first | exact Mh | apply Mt)) Tk5 <| Rm C rfl rfl <| R.callR C rfl rfl rfl rfl ((off_c hJ (heO.mono hM) (hvO.mono hM) hshO k)) fun x7 so7 hm7 hq7 => ?_
      obtain ⟨vs7, hs7, rfl⟩ := hq7
      rw [hoff2]
      replace hM := RO.le_trans hM hm7
      refine Rm C rfl rfl <| R.ext C rfl rfl rfl rfl <| R.ext C rfl rfl rfl rfl <| R.asg C rfl rfl rfl <| Ad C rfl rfl <| Xr C rfl rfl <| R.loadAgg C rfl rfl rfl isAgg25 sizeOf25 (by repeat (first | exact Mh | apply Mt)) Tk5 <| R.callR C rfl rfl rfl rfl ((fewest_c (heO.mono hM) (hvO.mono hM) hshO)) fun x8 so8 hm8 hq8 => ?_
      obtain ⟨vs8, hs8, rfl⟩ := hq8
      replace hs8 : LsI so8 vs8 (fewL O) := by rw [hfew] at hs8; exact hs8
      rw [hfew]
      replace hM := RO.le_trans hM hm8
      have hs3b := hs3.mono (RO.le_trans hm4 (RO.le_trans hm5 (RO.le_trans hm6 (RO.le_trans hm7 hm8))))
      have hs7b := hs7.mono hm8
      obtain ⟨sb, sc, rfl⟩ := hs8.form
      have fl1 : (fewL O).length ≤ 5 := Nat.le_trans (sets_each _ _ _ (few_facts hgO).1) hgO.nw
      generalize hU : knownZ (fun c : Lot => decide (c.a.s = Q.s)) (cases O) = U at *
      generalize hV : knownZ (fun c : Lot => decide (c.a.s = ⟨se, sn⟩)) (cases O) = V at *
      have hU2 : U ≠ 2 := by
        rcases hkR with h | ⟨h, _⟩ | ⟨_, h⟩
        · rw [h]; decide
        · rw [h]; decide
        · have h' : decide (Q.s = Q.s) = false := h
          simp at h'
      have hVs : (V == 0 || ((V == 1) == decide ([se, sn] = [Q.s.e, Q.s.n]))) = true := by
        have he' : decide ([se, sn] = [Q.s.e, Q.s.n]) = decide (Q.s = ⟨se, sn⟩) := by
          obtain ⟨⟨a1, a2⟩, _, _⟩ := Q
          rw [decide_eq_decide]; simp; omega
        rw [he']
        rcases hkS with h | ⟨h, h'⟩ | ⟨h, h'⟩
        · rw [h]; rfl
        · have h2 : decide (Q.s = ⟨se, sn⟩) = true := h'
          rw [h, h2]; rfl
        · have h2 : decide (Q.s = ⟨se, sn⟩) = false := h'
          rw [h, h2]; rfl
      have hany : ((wheres O).any fun q => decide (q = Q.s)) = true := List.any_eq_true.2 ⟨_, hinR, by simp⟩
      have hcon : ((offOf O k).1.contains (Q.o[k.toNat]'hki)) = true := by simpa using hoffk
      obtain ⟨po, offo, capo, lo, to, fqo, hslo, hropo, hsubo⟩ := ho10.at ic_len (by omega)
      cases hslo
      have hx := ic_at hsubo hki
      generalize Q.o[k.toNat]'hki = z at *
      have hropo2 := (RO.le_trans hl2 hM) _ _ hropo
      refine Rm C rfl rfl <| R.ext C rfl rfl rfl rfl <| R.ext C rfl rfl rfl rfl <| R.asg C rfl rfl rfl <| Ad C rfl rfl <| Xs C <| Xr C rfl rfl <| Rm C rfl rfl <| R.int C rfl rfl rfl rfl b_neq <| R.fixv (t := 110) (v' := .bool false) rfl (by rfl) <| Rm C rfl rfl <| R.fixv (t := 111) (v' := .bool false) rfl (by rfl) <| Rm C rfl rfl <| R.int C rfl rfl rfl rfl b_neq <| R.fixv (t := 113) (v' := .bool false) rfl (by rfl) <| R.pickF C rfl rfl rfl rfl <| Rm C rfl rfl <| R.fixv (t := 115) (v' := .bool false) rfl (by rfl) <| Rm C rfl rfl <| R.int C rfl rfl rfl rfl b_neq <| R.fixv (t := 117) (v' := .bool false) rfl (by rfl) <| R.pickF C rfl rfl rfl rfl <| Rm C rfl rfl <| R.fixv (t := 119) (v' := .bool false) rfl (by rfl) <| Rm C rfl rfl <| R.int C rfl rfl rfl rfl b_neq <| R.fixv (t := 121) (v' := .bool false) rfl (by rfl) <| R.pickF C rfl rfl rfl rfl <| Rm C rfl rfl <| R.fixv (t := 123) (v' := .bool false) rfl (by rfl) <| Rm C rfl rfl <| R.int C rfl rfl rfl rfl b_neq <| R.fixv (t := 125) (v' := .bool false) rfl (by rfl) <| R.pickF C rfl rfl rfl rfl <| Rm C rfl rfl <| R.fixv (t := 127) (v' := .bool false) rfl (by rfl) <| Rm C rfl rfl <| R.int C rfl rfl rfl rfl b_neq <| R.fixv (t := 129) (v' := .bool false) rfl (by rfl) <| R.pickF C rfl rfl rfl rfl ?_; refine Rm C rfl rfl <| R.fixv (t := 131) (v' := .bool false) rfl (by rfl) <| Rm C rfl rfl <| R.int C rfl rfl rfl rfl b_neq <| R.fixv (t := 133) (v' := .bool false) rfl (by rfl) <| R.pickF C rfl rfl rfl rfl <| Rm C rfl rfl <| R.fixv (t := 135) (v' := .bool false) rfl (by rfl) <| Rm C rfl rfl <| R.int C rfl rfl rfl rfl b_neq <| R.fixv (t := 137) (v' := .bool false) rfl (by rfl) <| R.pickF C rfl rfl rfl rfl <| Rm C rfl rfl <| R.fixv (t := 139) (v' := .bool false) rfl (by rfl) <| Rm C rfl rfl <| R.not C rfl rfl rfl <| R.fixv (t := 141) (v' := .bool false) rfl (by rfl) <| R.pickF C rfl rfl rfl rfl <| Rm C rfl rfl <| R.fixv (t := 143) (v' := .bool false) rfl (by rfl) <| Rm C rfl rfl <| R.int C rfl rfl rfl rfl b_lss <| R.fixv (t := 145) (v' := .bool false) rfl (by (exact congrArg Value.bool (by simp; omega))) <| R.pickF C rfl rfl rfl rfl <| Rm C rfl rfl <| R.fixv (t := 147) (v' := .bool false) rfl (by rfl) <| Rm C rfl rfl <| Rf C 0 rfl rfl runUnderlying30 rfl sizeOf27 <| R.loadAgg C rfl rfl rfl isAgg27 sizeOf27 (by repeat (first | exact Mh | apply Mt)) Tk2 <| R.callP C rfl rfl rfl rfl (hasSquareR_c hJ hs3b hwl Q.s) <| R.not C rfl rfl rfl <| R.fixv (t := 152) (v' := .bool false) rfl (by (exact congrArg Value.bool (by rw [hany]; rfl))) <| R.pickF C rfl rfl rfl rfl <| Rm C rfl rfl <| R.fixv (t := 154) (v' := .bool false) rfl (by rfl) <| Rm C rfl rfl <| R.int C rfl rfl rfl rfl b_eql <| R.fixv (t := 156) (v' := .bool false) rfl (by (exact congrArg Value.bool (by simp [hU2]))) <| R.pickF C rfl rfl rfl rfl <| Rm C rfl rfl ?_; refine R.fixv (t := 158) (v' := .bool false) rfl (by rfl) <| Rm C rfl rfl <| R.loadAgg C rfl rfl rfl isAgg27 sizeOf27 (by repeat (first | exact Mh | apply Mt)) Tk2 <| Rf C 0 rfl rfl runUnderlying30 rfl sizeOf27 <| R.loadAgg C rfl rfl rfl isAgg27 sizeOf27 (by repeat (first | exact Mh | apply Mt)) Tk2 <| R.eqAgg (p := [se, sn]) (q := [Q.s.e, Q.s.n]) C rfl rfl rfl rfl eqT27 rfl rfl (by kernel_rfl) <| R.callP C rfl rfl rfl rfl (saidR_c hJ V _ _) <| R.not C rfl rfl rfl <| R.fixv (t := 165) (v' := .bool false) rfl (by (exact congrArg Value.bool (by rw [hVs]; rfl))) <| R.pickF C rfl rfl rfl rfl <| Rm C rfl rfl <| R.fixv (t := 167) (v' := .bool false) rfl (by rfl) <| Rm C rfl rfl <| Rf C 2 rfl rfl runUnderlying30 rfl sizeOf28 <| R.loadOne C rfl rfl rfl isAgg28 (by repeat (first | exact Mh | apply Mt)) rfl <| Rm C rfl rfl <| R.indexAddr C rfl rfl rfl rfl runUnderlying28 sizeOf3 hk01.1 (by omega) <| R.loadOneRo C rfl rfl rfl isAgg3 hropo2 hx <| R.callP C rfl rfl rfl rfl (holdsR_c hJ hs7b hol z) <| R.not C rfl rfl rfl <| R.fixv (t := 175) (v' := .bool false) rfl (by (exact congrArg Value.bool (by rw [hcon]; rfl))) <| R.pickF C rfl rfl rfl rfl <| Rm C rfl rfl <| R.fixv (t := 177) (v' := .bool false) rfl (by rfl) <| Rm C rfl rfl <| R.lenSlice C rfl rfl rfl runUnderlying28 <| Rf C 3 rfl rfl runUnderlying30 rfl sizeOf28 <| R.loadOne C rfl rfl rfl isAgg28 (by repeat (first | exact Mh | apply Mt)) rfl <| R.lenSlice C rfl rfl rfl runUnderlying28 <| R.int C rfl rfl rfl rfl b_gtr <| R.fixv (t := 183) (v' := .bool false) rfl (by (exact congrArg Value.bool (by simp; omega))) <| R.pickF C rfl rfl rfl rfl <| R.done C <| X.cond C.1 rfl (fun h => nomatch h) (fun _ => ?_)
      refine X.skip C.1 <| Xs C <| Xr C rfl rfl <| Rf C 0 rfl rfl runUnderlying30 rfl sizeOf27 <| Rf C 0 rfl rfl runUnderlying27 rfl sizeOf3 <| R.loadOne C rfl rfl rfl isAgg3 (by repeat (first | exact Mh | apply Mt)) rfl <| Rf C 0 rfl rfl runUnderlying46 rfl sizeOf3 <| R.loadOne C rfl rfl rfl isAgg3 (by repeat (first | exact Mh | apply Mt)) rfl <| Rf C 1 rfl rfl runUnderlying46 rfl sizeOf3 <| R.loadOne C rfl rfl rfl isAgg3 (by repeat (first | exact Mh | apply Mt)) rfl <| R.callP C rfl rfl rfl rfl (betweenR_c hJ _ _ _ _) <| R.fixv (t := 192) (v' := .bool true) rfl (by (exact congrArg Value.bool (by simp [between]; omega))) <| R.not C rfl rfl rfl <| R.fixv (t := 193) (v' := .bool false) rfl rfl <| R.fixv (t := 193) (v' := .bool false) rfl (by rfl) <| Rm C rfl rfl <| R.fixv (t := 194) (v' := .bool false) rfl (by rfl) <| Rf C 0 rfl rfl runUnderlying30 rfl sizeOf27 <| Rf C 1 rfl rfl runUnderlying27 rfl sizeOf3 <| R.loadOne C rfl rfl rfl isAgg3 (by repeat (first | exact Mh | apply Mt)) rfl <| Rf C 0 rfl rfl runUnderlying46 rfl sizeOf3 <| R.loadOne C rfl rfl rfl isAgg3 (by repeat (first | exact Mh | apply Mt)) rfl <| Rf C 1 rfl rfl runUnderlying46 rfl sizeOf3 <| R.loadOne C rfl rfl rfl isAgg3 (by repeat (first | exact Mh | apply Mt)) rfl <| R.callP C rfl rfl rfl rfl (betweenR_c hJ _ _ _ _) <| R.fixv (t := 202) (v' := .bool true) rfl (by (exact congrArg Value.bool (by simp [between]; omega))) <| R.not C rfl rfl rfl <| R.fixv (t := 203) (v' := .bool false) rfl rfl <| R.fixv (t := 203) (v' := .bool false) rfl (by rfl) <| R.pickF C rfl rfl rfl rfl <| R.done C <| X.cond C.1 rfl (fun h => nomatch h) (fun _ => ?_)
      refine X.skip C.1 <| Xs C <| Xr C rfl rfl <| Rf C 4 rfl rfl runUnderlying25 rfl sizeOf23 <| R.loadOne C rfl rfl rfl isAgg23 (by repeat (first | exact Mh | apply Mt)) rfl <| R.lenSlice C rfl rfl rfl runUnderlying23 <| R.int C rfl rfl rfl rfl b_eql <| R.done C <| X.cond C.1 rfl (fun hz => ?_) (fun hz => ?_)
      · have hz := hz
        refine Xr C rfl rfl <| R.callR C rfl rfl rfl rfl ((found_c _ (heO.mono hM))) fun v9 ro9 hl9 hq9 => Ad C rfl rfl <| X.ret0 C (by kernel_rfl) rfl rfl func6 rfl (by exact (.tmp rfl .nil)) fun w9 hs9 => hret _ _ _ (RO.le_trans hl1 (RO.le_trans hl2 (RO.le_trans hM hl9))) ?_ w9 hs9
        exact hq9
      · have hz := hz
        have hnp : 0 < O.ws.length := List.length_pos_iff.2 (by simpa using hz)
        obtain ⟨j, hj⟩ : ∃ j : Nat, (j : Int) = wq % (O.ws.length : Int) := ⟨(wq % (O.ws.length : Int)).toNat, by have := Int.emod_nonneg wq (show (O.ws.length : Int) ≠ 0 by omega); omega⟩
        have hj1 : j < O.ws.length := by have := Int.emod_lt_of_pos wq (show (0 : Int) < O.ws.length by omega); omega
        have hwj : O.witness (j : Int) = 0 := by rw [Bk.witness, there_zero, between, Bool.and_eq_true, decide_eq_true_eq, decide_eq_true_eq]; omega
        have htF : told O (O.witness (j : Int)) (fun c => c.m.testBit (j : Int).toNat) = (knownZ (fun c => c.m.testBit j) (cases O), 0) := by rw [told, hwj, if_neg (by simp [hopO]), Int.toNat_natCast]
        have hkF := said_known (p := fun c : Lot => c.m.testBit j) hL0
        have hbit : (lotOf O Q).m.testBit j = Q.f.contains (j : Int) := by
          show (maskL O.ws.length Q.f).testBit j = _
          exact maskL_bit (by rw [hOn]; exact hRfr) j
        have hnev := sure_never (b := O) hj1
        obtain ⟨pw, offw, capw, lw, tw, fqw, hslw, hropw, hsubw⟩ := hw20.at Wt.len (by omega)
        cases hslw
        have hsu : lw[offw + j * 5 + 4]? = some (.bool (O.wt j).sure) := by
          have := (hsubw j hj1).get 4 (by decide)
          rw [Bk.wt_get hj1] at this
          simpa [Wt.cells] using this
        refine X.skip C.1 <| Xr C rfl rfl <| Rm C rfl rfl <| R.convInt C rfl rfl rfl runUnderlying5 runUnderlying3 (wrap64 (by omega) (by omega)) <| Rf C 4 rfl rfl runUnderlying25 rfl sizeOf23 <| R.loadOne C rfl rfl rfl isAgg23 (by repeat (first | exact Mh | apply Mt)) rfl <| R.lenSlice C rfl rfl rfl runUnderlying23 <| R.int C rfl rfl rfl rfl (b_remP (by omega) (by omega)) <| R.fixv (t := 215) (v' := .int .i64 (j : Int)) rfl (by exact congrArg (Value.int .i64) hj.symm) <| Ad C rfl rfl <| Xr C rfl rfl <| R.loadAgg C rfl rfl rfl isAgg25 sizeOf25 (by repeat (first | exact Mh | apply Mt)) Tk5 <| Rm C rfl rfl <| R.callR C rfl rfl rfl rfl ((false_c hJ (heO.mono hM) (hvO.mono hM) hshO (j : Int))) fun x20 so20 hm20 hq20 => ?_
        subst hq20
        rw [htF]
        replace hM := RO.le_trans hM hm20
        have hropw2 := hM _ _ hropw
        generalize knownZ (fun c : Lot => c.m.testBit j) (cases O) = W at *
        have hWs : (W == 0 || ((W == 1) == Q.f.contains (j : Int))) = true := by
          rcases hkF with h | ⟨h, h'⟩ | ⟨h, h'⟩
          · rw [h]; rfl
          · rw [h, ← hbit, h']; rfl
          · rw [h, ← hbit, h']; rfl
        by_cases hsure : (O.wt j).sure = true
        · have hW2 := hnev hsure
          refine Rm C rfl rfl <| R.ext C rfl rfl rfl rfl <| R.ext C rfl rfl rfl rfl <| R.asg C rfl rfl rfl <| Ad C rfl rfl <| Xr C rfl rfl <| Rm C rfl rfl <| R.int C rfl rfl rfl rfl b_eql <| R.fixv (t := 223) (v' := .bool true) rfl (by rfl) <| Rm C rfl rfl <| R.fixv (t := 224) (v' := .bool true) rfl (by rfl) <| Rm C rfl rfl <| Rf C 3 rfl rfl runUnderlying30 rfl sizeOf28 <| R.loadOne C rfl rfl rfl isAgg28 (by repeat (first | exact Mh | apply Mt)) rfl <| Rm C rfl rfl <| R.callP C rfl rfl rfl rfl (holdsR_c hJ ((hf10.mono hl2).mono hM) (by omega) (j : Int)) <| R.callP C rfl rfl rfl rfl (saidR_c hJ W _ _) <| R.fixv (t := 230) (v' := .bool true) rfl (by (exact congrArg Value.bool (by exact hWs))) <| R.pickT C rfl rfl rfl rfl <| Rm C rfl rfl <| R.fixv (t := 232) (v' := .bool true) rfl (by rfl) <| Rf C 4 rfl rfl runUnderlying25 rfl sizeOf23 <| R.loadOne C rfl rfl rfl isAgg23 (by repeat (first | exact Mh | apply Mt)) rfl <| Rm C rfl rfl <| Rx C rfl rfl rfl runUnderlying23 sizeOf58 <| R.fieldAddr C rfl rfl rfl runUnderlying58 rfl sizeOf4 rfl <| R.loadOneRo C rfl rfl rfl isAgg4 hropw2 hsu <| R.not C rfl rfl rfl <| R.fixv (t := 239) (v' := .bool false) rfl (by (exact congrArg Value.bool (by rw [hsure]; rfl))) <| Rm C rfl rfl <| R.fixv (t := 240) (v' := .bool false) rfl (by rfl) <| Rm C rfl rfl <| R.int C rfl rfl rfl rfl b_eql <| R.fixv (t := 242) (v' := .bool true) rfl (by (exact congrArg Value.bool (by rw [hW2]; rfl))) <| R.pickF C rfl rfl rfl rfl <| R.pickT C rfl rfl rfl rfl <| Rm C rfl rfl <| R.fixv (t := 245) (v' := .bool true) rfl (by rfl) <| R.callR C rfl rfl rfl rfl ((found_c _ (heO.mono hM))) fun v9 ro9 hl9 hq9 => R.pickT C rfl rfl rfl rfl ?_; refine Ad C rfl rfl <| X.ret0 C (by kernel_rfl) rfl rfl func6 rfl (by exact (.tmp rfl .nil)) fun w9 hs9 => hret _ _ _ (RO.le_trans hl1 (RO.le_trans hl2 (RO.le_trans hM hl9))) ?_ w9 hs9
          exact hq9
        · have hsure' : (O.wt j).sure = false := by simpa using hsure
          refine Rm C rfl rfl <| R.ext C rfl rfl rfl rfl <| R.ext C rfl rfl rfl rfl <| R.asg C rfl rfl rfl <| Ad C rfl rfl <| Xr C rfl rfl <| Rm C rfl rfl <| R.int C rfl rfl rfl rfl b_eql <| R.fixv (t := 223) (v' := .bool true) rfl (by rfl) <| Rm C rfl rfl <| R.fixv (t := 224) (v' := .bool true) rfl (by rfl) <| Rm C rfl rfl <| Rf C 3 rfl rfl runUnderlying30 rfl sizeOf28 <| R.loadOne C rfl rfl rfl isAgg28 (by repeat (first | exact Mh | apply Mt)) rfl <| Rm C rfl rfl <| R.callP C rfl rfl rfl rfl (holdsR_c hJ ((hf10.mono hl2).mono hM) (by omega) (j : Int)) <| R.callP C rfl rfl rfl rfl (saidR_c hJ W _ _) <| R.fixv (t := 230) (v' := .bool true) rfl (by (exact congrArg Value.bool (by exact hWs))) <| R.pickT C rfl rfl rfl rfl <| Rm C rfl rfl <| R.fixv (t := 232) (v' := .bool true) rfl (by rfl) <| Rf C 4 rfl rfl runUnderlying25 rfl sizeOf23 <| R.loadOne C rfl rfl rfl isAgg23 (by repeat (first | exact Mh | apply Mt)) rfl <| Rm C rfl rfl <| Rx C rfl rfl rfl runUnderlying23 sizeOf58 <| R.fieldAddr C rfl rfl rfl runUnderlying58 rfl sizeOf4 rfl <| R.loadOneRo C rfl rfl rfl isAgg4 hropw2 hsu <| R.not C rfl rfl rfl <| R.fixv (t := 239) (v' := .bool true) rfl (by (exact congrArg Value.bool (by rw [hsure']; rfl))) <| Rm C rfl rfl <| R.fixv (t := 240) (v' := .bool true) rfl (by rfl) <| R.pass C rfl rfl <| R.pass C rfl rfl <| R.pickT C rfl rfl rfl rfl <| R.pickT C rfl rfl rfl rfl <| Rm C rfl rfl <| R.fixv (t := 245) (v' := .bool true) rfl (by rfl) <| R.callR C rfl rfl rfl rfl ((found_c _ (heO.mono hM))) fun v9 ro9 hl9 hq9 => R.pickT C rfl rfl rfl rfl <| Ad C rfl rfl ?_; refine X.ret0 C (by kernel_rfl) rfl rfl func6 rfl (by exact (.tmp rfl .nil)) fun w9 hs9 => hret _ _ _ (RO.le_trans hl1 (RO.le_trans hl2 (RO.le_trans hM hl9))) ?_ w9 hs9
          exact hq9
    · have _ := hcont
      refine Xd C fun hok => Dm C 0 hok rfl rfl rfl <| Dp 1 hok (fun _ _ _ A h => R.convInt C rfl (A.w rfl rfl) (A.x rfl rfl) runUnderlying66 runUnderlying3 (wrap64 (by omega) (by omega)) h) <| Df (off' := 0) C 2 hok rfl rfl rfl runUnderlying25 rfl sizeOf3 rfl <| D1 C 3 hok rfl rfl isAgg3 (by repeat (first | exact Mh | apply Mt)) rfl <| Di C 4 hok rfl rfl rfl rfl rfl (b_remP (by omega) (by omega)) <| D.fixv (t := 49) (v' := .int .i64 se) rfl (by exact congrArg (Value.int .i64) hse.symm) <| Dm C 5 hok rfl rfl rfl <| Dp 6 hok (fun _ _ _ A h => R.convInt C rfl (A.w rfl rfl) (A.x rfl rfl) runUnderlying66 runUnderlying3 (wrap64 (by omega) (by omega)) h) <| Di C 7 hok rfl rfl rfl rfl rfl (b_quoP (by omega) (by omega) (by omega)) <| Df (off' := 1) C 8 hok rfl rfl rfl runUnderlying25 rfl sizeOf3 rfl <| D1 C 9 hok rfl rfl isAgg3 (by repeat (first | exact Mh | apply Mt)) rfl <| Di C 10 hok rfl rfl rfl rfl rfl (b_remP (by omega) (by omega)) <| D.fixv (t := 55) (v' := .int .i64 sn) rfl (by exact congrArg (Value.int .i64) hsn.symm) <| Dm C 12 hok rfl rfl rfl <| Dp 13 hok (fun _ _ _ A h => R.convInt C rfl (A.w rfl rfl) (A.x rfl rfl) runUnderlying5 runUnderlying3 (wrap64 (by omega) (by omega)) h) <| Df (off' := 3) C 14 hok rfl rfl rfl runUnderlying25 rfl sizeOf22 rfl <| D1 C 15 hok rfl rfl isAgg22 (by repeat (first | exact Mh | apply Mt)) rfl <| Dp 16 hok (fun _ _ _ A h => R.lenSlice C rfl (A.w rfl rfl) (A.x rfl rfl) runUnderlying22 h) <| Di C 17 hok rfl rfl rfl rfl rfl (b_remP (by omega) (by omega)) <| D.fixv (t := 62) (v' := .int .i64 k) rfl (by exact congrArg (Value.int .i64) hk.symm) <| D.eP2 (i := 11) (i' := 18) (dst := (some 56)) (dst' := (some 14)) [true, false, false] [true, true, true] hok rfl rfl (by kernel_rfl) (by kernel_rfl) (by kernel_rfl) (fun σr rest A hk => ?_) (fun σr rest A hk => ?_)
      ·
        refine R.callP C rfl (A.w rfl rfl) (A.x rfl rfl) (A.s rfl rfl) (sq_c hJ _ _ _) (hk _ _ ⟨(QFs.cons (QF.of rfl (fun _ _ A h => R.loadOne C rfl (A.w rfl rfl) (A.x rfl rfl) isAgg22 (by repeat (first | exact Mh | apply Mt)) rfl h)) QFs.nil), ?_⟩)
        refine De 18 (some 14) [true] hok (fun σr rest A hk => ?_)
        refine R.alloc C rfl (A.w rfl rfl) zeroValue27 rfl fun p14 => hk _ _ ⟨(QFs.cons (QF.of rfl (fun _ _ A h => R.loadOne C rfl (A.w rfl rfl) (A.x rfl rfl) isAgg22 (by repeat (first | exact Mh | apply Mt)) rfl h)) QFs.nil), ?_⟩
        refine De 19 none [true] hok (fun σr rest A hk => ?_)
        refine R.store C rfl (A.w rfl rfl) (A.x rfl rfl) (A.x rfl rfl) sizeOf27 rfl rfl rfl (by repeat (first | exact Uh | apply Ut)) (.here (.here .nil)) (hk undef _ ⟨(QFs.cons (QF.of rfl (fun _ _ A h => R.loadOne C rfl (A.w rfl rfl) (A.x rfl rfl) isAgg22 (by repeat (first | exact Mh | apply Mt)) rfl h)) QFs.nil), ?_⟩)
        refine Dp 20 hok (fun _ _ _ A h => R.asg C rfl (A.w rfl rfl) (A.x rfl rfl) h) <| D.done C hok (by kernel_rfl) <| X.weaken ?_ (hcont p14 trivial)
        exact ⟨rfl, rfl, rfl, rfl, rfl, trivial⟩
      ·
        refine R.alloc C rfl (A.w rfl rfl) zeroValue27 rfl fun p14 => hk _ _ ⟨(QFs.cons (QF.of rfl (fun _ _ A h => R.loadOne C rfl (A.w rfl rfl) (A.x rfl rfl) isAgg22 (by repeat (first | exact Mh | apply Mt)) rfl h)) (QFs.cons (QF.of rfl (fun _ _ A h => R.loadOne C rfl (A.w rfl rfl) (A.x rfl rfl) isAgg3 (by repeat (first | exact Mh | apply Mt)) rfl h)) (QFs.cons (QF.of rfl (fun _ _ A h => R.loadOne C rfl (A.w rfl rfl) (A.x rfl rfl) isAgg3 (by repeat (first | exact Mh | apply Mt)) rfl h)) QFs.nil))), ?_⟩
        refine De 11 (some 56) [true, false, false] hok (fun σr rest A hk => ?_)
        refine R.callP C rfl (A.w rfl rfl) (A.x rfl rfl) (A.s rfl rfl) (sq_c hJ _ _ _) (hk _ _ ⟨(QFs.cons (QF.of rfl (fun _ _ A h => R.loadOne C rfl (A.w rfl rfl) (A.x rfl rfl) isAgg22 (by repeat (first | exact Mh | apply Mt)) rfl h)) QFs.nil), ?_⟩)
        refine De 19 none [true] hok (fun σr rest A hk => ?_)
        refine R.store C rfl (A.w rfl rfl) (A.x rfl rfl) (A.x rfl rfl) sizeOf27 rfl rfl rfl (by repeat (first | exact Uh | apply Ut)) (.here (.here .nil)) (hk undef _ ⟨(QFs.cons (QF.of rfl (fun _ _ A h => R.loadOne C rfl (A.w rfl rfl) (A.x rfl rfl) isAgg22 (by repeat (first | exact Mh | apply Mt)) rfl h)) QFs.nil), ?_⟩)
        refine Dp 20 hok (fun _ _ _ A h => R.asg C rfl (A.w rfl rfl) (A.x rfl rfl) h) <| D.done C hok (by kernel_rfl) <| X.weaken ?_ (hcont p14 trivial)
        exact ⟨rfl, rfl, rfl, rfl, rfl, trivial⟩
end Go.Lg.B
namespace Go.Lg.B
open Go Go.Conc Go.Lg Go.Proofs Go.WideShapes Go.ChangeShapes Go.Proofs.Tryz
set_option maxRecDepth 100000
theorem cells66 : prog.cellsOf 66 = 1 := by kernel_rfl
section
variable {H : Type} {enc0 : TypeId × Value → H} {W : World} {base : Nat} {sp : Nat → Bool} {held : Bool}
theorem uc_of {n : Nat} {cs : List Value} {z : DataW H × List MemPlace} (h : DataW.trod enc0 prog W base sp held n 66 cs = some z) : ∃ s : U16, cs = uc s := by
  obtain ⟨x, e, w⟩ := int_of_trod underlying66 h
  have hw : 0 ≤ x ∧ x ≤ 65535 := by simpa [Lit.wf, IntKind.min, IntKind.max, IntKind.signed, IntKind.bits] using w
  exact ⟨⟨x, hw⟩, e⟩
theorem u16s_of {n : Nat} {cs : List Value} {z : DataW H × List MemPlace} (h : DataW.trod enc0 prog W base sp held n 65 cs = some z) : ∃ v xs, cs = [v] ∧ Ls uc 1 (roOf W) v xs :=
  ls_of_trod underlying65 cells66 (by decide) uc_len (fun _ _ _ h => uc_of h) h
theorem argU16 {r : Reach} {b0 : Nat} {v : Value} {d : DataW H} {p : List MemPlace} (hv : Value.okWide prog W r b0 66 v) (h : DataW.Trod enc0 prog W base sp held 66 v d p) : ∃ n, v = .int .u16 n ∧ 0 ≤ n ∧ n ≤ 65535 := by
  obtain ⟨x, rfl, _, _, wx⟩ := open_int underlying66 hv h
  exact ⟨x, rfl, by simpa [Lit.wf, IntKind.min, IntKind.max, IntKind.signed, IntKind.bits] using wx⟩
theorem argU16s {r : Reach} {b0 : Nat} {v : Value} {d : DataW H} {p : List MemPlace} (hv : Value.okWide prog W r b0 65 v) (h : DataW.Trod enc0 prog W base sp held 65 v d p) : ∃ xs, Ls uc 1 (fun b => W.heap[b]?) v xs := by
  obtain ⟨a, len, cap, rfl⟩ := okWide_slice underlying65 hv
  obtain ⟨n, h⟩ := h
  obtain ⟨v', xs, e, hl⟩ := u16s_of (cs := [Value.slice a len cap]) h
  cases e
  exact ⟨xs, hl⟩
end
end Go.Lg.B
namespace Go.Lg.B
open Go Go.Proofs Go.Proofs.YtlkmnfdipiielaaGreatDoor Go.Proofs.Tryz
set_option maxRecDepth 100000
theorem real_k1 : (Rows.bearingRealRow.inPlace == prog.inPlace 6) = true := by kernel_rfl
theorem real_k2 : (Rows.bearingRealRow.unfollowed == prog.unfollowed 6) = true := by kernel_rfl
theorem real_k3 : (Rows.bearingRealRow.recurses == prog.recurses 6) = true := by kernel_rfl
theorem real_k4 : (Rows.bearingRealRow.named == prog.varsNamed 6) = true := by kernel_rfl
theorem real_name : prog.funcNamed "lagan/laganlaw01.BearingReal" = some 6 := by kernel_rfl
theorem real_goes : true = Rows.bearingRealRow.goesBy prog := by kernel_rfl
theorem real_wf : Rows.bearingRealRow.wfByText (OpenSpec.ofChange Rows.bearingRealSpec) = true := by kernel_rfl
theorem real_facts : joinedFacts prog 6 Tryz.f6 Rows.bearingRealSpec Rows.bearingRealRow = true := by
  unfold joinedFacts
  exact (and_mk (and_mk (and_mk (and_mk (and_mk (and_mk (and_mk (and_mk (and_mk (and_mk (and_mk (and_mk (and_mk (and_mk (and_mk (and_mk (and_mk (and_mk (and_mk (and_mk (and_mk (and_mk (and_mk (and_mk (and_mk (and_mk (and_mk (and_mk (and_mk (and_mk (and_mk (by as_aux_lemma => kernel_rfl)
    k_lo)
    k_mr)
    (by as_aux_lemma => kernel_rfl))
    (by as_aux_lemma => kernel_rfl))
    (by as_aux_lemma => kernel_rfl))
    k_stops)
    (by as_aux_lemma => kernel_rfl))
    k_knobs)
    real_k1)
    real_k2)
    real_k3)
    real_k4)
    (by as_aux_lemma => kernel_rfl))
    (by as_aux_lemma => kernel_rfl))
    (by as_aux_lemma => kernel_rfl))
    (by as_aux_lemma => kernel_rfl))
    (by as_aux_lemma => kernel_rfl))
    (by as_aux_lemma => kernel_rfl))
    (by as_aux_lemma => kernel_rfl))
    (by as_aux_lemma => kernel_rfl))
    (by as_aux_lemma => kernel_rfl))
    (beq_iff_eq.2 k_pk.symm))
    (by as_aux_lemma => kernel_rfl))
    k_heard)
    k_may)
    (beq_iff_eq.2 k_lift.symm))
    (beq_iff_eq.2 k_make))
    (by as_aux_lemma => kernel_rfl))
    (by as_aux_lemma => kernel_rfl))
    (by as_aux_lemma => kernel_rfl))
    (by as_aux_lemma => kernel_rfl))
end Go.Lg.B
namespace Go.Proofs.YtlkmnfdipiielaaGreatDoor
open Go Go.Conc Go.Lg Go.Lg.B Go.ChangeShapes Go.RowKit Go.WideShapes
set_option maxRecDepth 100000
theorem real_lifted (os : Os) (started : os.Started) (H : Type) (enc : TypeId × Value → H) :
    ReturnsInLeavingWide {} Tryz.checked os 6 .any (fun w args => (Rows.bearingRealSpec.pre enc Tryz.prog Tryz.f6 [] false w args ∧ laidMetH Tryz.prog laid1 w) ∧ sizedMet enc Tryz.prog Tryz.f6 (OpenSpec.ofChange Rows.bearingRealSpec) false w args)
      (Rows.bearingRealSpec.post enc Tryz.prog Tryz.f6 false true false false) := by
  refine leaving_of_root (C := Tryz.checked) (tb := 4) (X := fun w _ => laidMetH Tryz.prog laid1 w) (fun _ _ _ hh h => h.of_heap hh) own0 started Tryz.func6 laid0 (by
      intro t ht
      rw [Tryz.params6] at ht
      have hm : t ∈ [25, 65, 5, 66, 5, 5] := ht
      have hall : ([25, 65, 5, 66, 5, 5].all fun u => Tryz.prog.readableRec u && decide (u < Tryz.prog.types.size)) = true := by kernel_rfl
      have := List.all_eq_true.1 hall t hm
      rw [Bool.and_eq_true, decide_eq_true_eq] at this
      exact this) rfl (by kernel_rfl) Tryz.underlying4
    (ChangeSpec.witness_shaped (enc := enc) (C := Tryz.checked) (os := os) (X := fun w _ => laidMetH Tryz.prog laid1 w) false (World.doorLaid Tryz.prog 89 os) #[.agg #[.int .i64 0, .int .i64 0, .int .i64 0, .slice none 0 0, .slice none 0 0], .slice none 0 0, .int .u8 0, .int .u16 0, .int .u8 0, .int .u8 0] 8 rfl (door_shaped os _) (by kernel_rfl) (by kernel_rfl) (by kernel_rfl) (door_met os _)) ?_
  intro W base args ds gs before hval hW _ _ hL
  obtain ⟨p, q, hA, hV, rfl, _, _⟩ := hW
  obtain ⟨rfl, rfl⟩ := trodVars_none hV
  have hA : DataW.TrodAll enc Tryz.prog W 0 (fun _ => true) true Tryz.f6.params.toList args.toList ds p := hA
  have hval : ∀ (j : Nat) t v, Tryz.f6.params[j]? = some t → args[j]? = some v → Value.okWide Tryz.prog W .any base t v := hval
  rw [Tryz.params6] at hA hval
  obtain ⟨v1, l1, d1, k1, p1, q1, e1, rfl, rfl, h1, hA⟩ := trodAll_cons hA
  obtain ⟨v2, l2, d2, k2, p2, q2, rfl, rfl, rfl, h2, hA⟩ := trodAll_cons hA
  obtain ⟨v3, l3, d3, k3, p3, q3, rfl, rfl, rfl, h3, hA⟩ := trodAll_cons hA
  obtain ⟨v4, l4, d4, k4, p4, q4, rfl, rfl, rfl, h4, hA⟩ := trodAll_cons hA
  obtain ⟨v5, l5, d5, k5, p5, q5, rfl, rfl, rfl, h5, hA⟩ := trodAll_cons hA
  obtain ⟨v6, l6, d6, k6, p6, q6, rfl, rfl, rfl, h6, hA⟩ := trodAll_cons hA
  obtain ⟨rfl, rfl, rfl⟩ := trodAll_nil hA
  have ea : args = #[v1, v2, v3, v4, v5, v6] := Array.toList_inj.1 e1
  subst ea
  obtain ⟨b, b1⟩ := argBk (hval 0 25 v1 rfl rfl) h1
  obtain ⟨pk, p1⟩ := argU16s (hval 1 65 v2 rfl rfl) h2
  obtain ⟨o, rfl, o1⟩ := argU8 (hval 2 5 v3 rfl rfl) h3
  obtain ⟨u, rfl, o2⟩ := argU16 (hval 3 66 v4 rfl rfl) h4
  obtain ⟨q, rfl, o3⟩ := argU8 (hval 4 5 v5 rfl rfl) h5
  obtain ⟨z, rfl, o4⟩ := argU8 (hval 5 5 v6 rfl rfl) h6
  exact ⟨rfl, real_root o1 o2 o3 o4 (env_of_laid hL) b1 p1⟩
theorem real_row : Rows.BearingRealSaid :=
  OpenClaim.holds_of_wide_leaving 6 Tryz.f6 rfl rfl rfl rfl rfl rfl rfl ⟨rfl, rfl, rfl, rfl, rfl⟩ rfl rfl rfl rfl rfl real_name Tryz.func6 real_facts
    (of_decide_eq_true (by kernel_rfl)) (by unfold Func.isWrapper; first | (rw [if_pos (by decide +kernel)]; kernel_rfl) | (rw [if_neg (by decide +kernel)]; exact ⟨rfl, rfl⟩))
    (fun os started H enc _ => real_lifted os started H enc)
theorem real_holds : Rows.BearingRealCardSaid :=
  card_goes .later [.funcs] true (true, "6da441031df1273c87b994104071112c0d6d76e328f9edd428a3df0ab3bd48e1") true
    real_row real_wf bearingReal_row_tie rfl ⟨rfl, rfl⟩ k_main rfl
    (fun f fn hf hfn => by
      obtain rfl : f = 6 := Option.some.inj (real_name.symm.trans hf) |>.symm
      obtain rfl : fn = Tryz.f6 := (Option.some.inj (Tryz.func6.symm.trans hfn)).symm
      exact ⟨k_looks, fun j t ht => by
        rw [Tryz.params6] at ht
        have hm : t ∈ [25, 65, 5, 66, 5, 5] := by simpa using Array.mem_of_getElem? ht
        have hall : ([25, 65, 5, 66, 5, 5].all fun u => !Tryz.prog.wantsStandIn u) = true := by kernel_rfl
        exact (show Tryz.prog.wantsStandIn t = false by simpa using List.all_eq_true.1 hall t hm)⟩)
    real_goes
end Go.Proofs.YtlkmnfdipiielaaGreatDoor
