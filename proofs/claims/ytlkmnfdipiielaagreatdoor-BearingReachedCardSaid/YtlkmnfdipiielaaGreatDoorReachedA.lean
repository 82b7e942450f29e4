/-
  It is proved that the given function answers true for every input, whatever is scheduled: the statement Reached of the seat. Conditions: none but those of the given statement itself.
-/
import Derived.Test.YtlkmnfdipiielaaGreatDoorKE
import Derived.ChangeArms
import Derived.WideShapes
import Derived.ChangeShapes
import Derived.Conc.Holds
set_option maxRecDepth 100000
set_option maxHeartbeats 2000000
set_option linter.all false
set_option linter.unusedVariables false
set_option linter.unusedSimpArgs false
set_option linter.unusedSectionVars false
namespace Go.Lg
open Go Go.Conc
end Go.Lg
namespace Go.Lg.B
open Go Go.Conc Go.Lg Go.Proofs Go.Proofs.Tryz
theorem sameInts_iff {a c : List Int} : sameInts a c = decide (a = c) := by
  unfold sameInts earlier
  have h := cmpL_flip a c
  by_cases e : a = c
  · subst e; simp [cmpL_refl]
  · have : cmpL a c ≠ 0 := fun h => e (cmpL_zero h)
    rw [decide_eq_false e]
    by_cases h1 : cmpL a c < 0
    · simp [h1]
    · have h2 : cmpL c a < 0 := by omega
      simp [h2]
variable {main : Bool} {J : Goroutine → Mem → Prop} (hJ : Closed prog main J)
include hJ
end Go.Lg.B
namespace Go.Lg
open Go Go.Conc
theorem R.eqBool {P : Program} {main : Bool} {J : Goroutine → Mem → Prop} {b : Frame} (C : Ctx P main J b) {cs : List Frame} {n : Nat} {ds : List Deferred} {σ : Slots} {k : List Item} {ops : Array Oper} {i : Nat} {rest : List Nat} {d : Nat} {ty : TypeId} {pos : String} {af : Array Edge} {g : Option (Nat × Bool)}
    {t t' : TypeId} {x y : Operand} {p q : Bool} {M : Mem} (ho : ops[i]? = some ⟨some d, .binOp .eql t x y t', ty, pos, af, g⟩) (hg : wantedS ops σ ⟨some d, .binOp .eql t x y t', ty, pos, af, g⟩ = some true)
    (hx : ev σ x = some (.bool p)) (hy : ev σ y = some (.bool q)) (hu : ∀ w, Sem.run P (Go.underlying t) w = .ok .bool w)
    (h : R J b cs n ops rest k ds ((d, .bool (p == q)) :: σ) M) : R J b cs n ops (i :: rest) k ds σ M :=
  R.v C ho hg rfl (fun a ha K hk => by
    unfold execOp
    simp only [ha.ev hx, ha.ev hy]
    refine ex_v (Sm.bind ?_)
    unfold eqGuard
    refine Sm.pure ?_
    show Sm P M (binOp .eql t (.bool p) (.bool q)) _
    unfold binOp
    simp only
    refine Sm.bind ?_
    unfold Op.equal Op.equalIn
    refine Sm.bind (Sm.underlying hu ?_)
    exact Sm.pure (Sm.pure hk)) h
end Go.Lg
namespace Go.Lg.B
open Go Go.Conc Go.Lg Go.Proofs Go.Proofs.Tryz
section
variable {main : Bool} {J : Goroutine → Mem → Prop} (hJ : Closed prog main J)
include hJ
end
end Go.Lg.B
namespace Go.Lg
open Go
abbrev roOf (W : World) : RO := fun b => W.heap[b]?
theorem Sub.of_get {off n : Nat} {l out : List Value} (hn : off + n ≤ l.length) (ho : out.length = n) (h : ∀ i, i < n → l[off + i]? = out[i]?) : Sub off n l out := by
  have e : out = (l.drop off).take n := by
    refine List.ext_getElem? fun i => ?_
    by_cases hi : i < n
    · rw [← h i hi, List.getElem?_take_of_lt hi, List.getElem?_drop]
    · rw [List.getElem?_eq_none (by omega), List.getElem?_eq_none (by simp; omega)]
  rw [e]; exact Sub.of hn
theorem cell_block {W : World} {a : Addr} {v : Value} (h : W.cell? a = some v) : a.spot = none ∧ ∃ l t fq, W.heap[a.block]? = some (.cells l t fq) ∧ l[a.off]? = some v := by
  unfold World.cell? at h
  split at h
  · rename_i c t fq hc
    split at h
    · cases h
    · rename_i hs
      exact ⟨by simpa using hs, c, t, fq, hc, h⟩
  · cases h
theorem cells_get {W : World} {base : Nat} {a : Addr} {n : Nat} {l : List Value} (h : W.cells? base a n = some l) : l.length = n ∧ ∀ i, i < n → W.cell? (a.add i) = l[i]? := by
  unfold World.cells? at h
  split at h
  · refine ⟨by simpa using mapM_some_length h, fun i hi => mapM_some_get h i i (by simp [hi])⟩
  · cases h
theorem add_add (a : Addr) (i j : Nat) : (a.add i).add j = a.add (i + j) := by
  by_cases h1 : i = 0 <;> by_cases h2 : j = 0 <;> simp [Addr.add, h1, h2] <;> omega
theorem add_none {a : Addr} (h : a.spot = none) (i : Nat) : a.add i = ⟨a.block, a.off + i, none⟩ := by
  obtain ⟨b, o, s⟩ := a
  subst h
  by_cases h1 : i = 0 <;> simp [Addr.add, h1]
section
variable {H : Type} {enc0 : TypeId × Value → H} {P : Program} {W : World} {base : Nat} {sp : Nat → Bool} {held : Bool}
theorem ls_of_trod {α : Type} {enc : α → List Value} {k : Nat} {t e : TypeId} {fuel : Nat} {cs : List Value} {x : DataW H × List MemPlace} (ht : P.underlying t = some (.slice e)) (hc : P.cellsOf e = k) (hk : 0 < k) (hlen : ∀ x, (enc x).length = k)
    (hel : ∀ n cs z, DataW.trod enc0 P W base sp held n e cs = some z → ∃ y, cs = enc y) (h : DataW.trod enc0 P W base sp held fuel t cs = some x) : ∃ v xs, cs = [v] ∧ Ls enc k (roOf W) v xs := by
  subst hc
  rcases DataW.trod_slice ht h with ⟨rfl, _⟩ | ⟨a, len, cap, elems, rest, n, _, rfl, _, hb, hl, _, hlen2, hel2, _⟩
  · exact ⟨_, [], rfl, .nil⟩
  · have one : ∀ i, i < len → ∃ y : α, W.cells? base (a.add (i * P.cellsOf e)) (P.cellsOf e) = some (enc y) := fun i hi => by
      have h1 := hel2 i hi
      rw [List.getElem?_eq_getElem (by omega)] at h1
      obtain ⟨l, h2, h3⟩ := Option.bind_eq_some_iff.1 h1
      obtain ⟨y, rfl⟩ := hel _ _ _ h3
      exact ⟨y, h2⟩
    have all : ∀ m, m ≤ len → ∃ ys : List α, ys.length = m ∧ ∀ j, j < m * P.cellsOf e → W.cell? (a.add j) = (ys.flatMap enc)[j]? := by
      intro m
      induction m with
      | zero => exact fun _ => ⟨[], rfl, fun j hj => by omega⟩
      | succ m ih =>
        intro hm
        obtain ⟨ys, h1, h2⟩ := ih (by omega)
        obtain ⟨y, hy⟩ := one m (by omega)
        refine ⟨ys ++ [y], by simp [h1], fun j hj => ?_⟩
        have hfl : (ys.flatMap enc).length = m * P.cellsOf e := by rw [flatMap_len hlen, h1]
        rw [List.flatMap_append]
        by_cases hjm : j < m * P.cellsOf e
        · rw [List.getElem?_append_left (by omega)]; exact h2 j hjm
        · rw [List.getElem?_append_right (by omega), hfl]
          have := (cells_get hy).2 (j - m * P.cellsOf e) (by rw [Nat.succ_mul] at hj; omega)
          simp only [List.flatMap_cons, List.flatMap_nil, List.append_nil]
          rw [← this, add_add]
          congr 2
          omega
    obtain ⟨ys, h1, h2⟩ := all len (Nat.le_refl _)
    refine ⟨_, ys, rfl, some a, cap, by rw [h1], ?_⟩
    by_cases h0 : len = 0
    · exact .inl (List.eq_nil_of_length_eq_zero (by omega))
    · right
      have hfl : (ys.flatMap enc).length = len * P.cellsOf e := by rw [flatMap_len hlen, h1]
      have hpos : 0 < len * P.cellsOf e := Nat.mul_pos (by omega) hk
      have hlast := h2 (len * P.cellsOf e - 1) (by omega)
      rw [List.getElem?_eq_getElem (by omega)] at hlast
      have hfirst := h2 0 hpos
      rw [List.getElem?_eq_getElem (by omega)] at hfirst
      have hs : a.spot = none := (cell_block hfirst).1
      rw [add_none hs] at hlast
      obtain ⟨_, l, t', fq, hh, hl2⟩ := cell_block hlast
      refine ⟨a.block, a.off, l.toList, t', fq, by obtain ⟨ab, ao, az⟩ := a; subst hs; rfl, by rw [Array.toArray_toList]; exact hh, ?_⟩
      rw [h1]
      have hlt : a.off + (len * P.cellsOf e - 1) < l.size := (Array.getElem?_eq_some_iff.1 hl2).1
      refine Sub.of_get (by simp; omega) hfl fun i hi => ?_
      have := h2 i hi
      rw [add_none hs] at this
      unfold World.cell? at this
      simp only at this
      rw [hh] at this
      simpa using this
theorem int_of_trod {t : TypeId} {k : IntKind} {fuel : Nat} {cs : List Value} {x : DataW H × List MemPlace} (ht : P.underlying t = some (.int k)) (h : DataW.trod enc0 P W base sp held fuel t cs = some x) : ∃ n, cs = [.int k n] ∧ (Lit.int k n).wf = true := by
  cases fuel with
  | zero => simp [DataW.trod] at h
  | succ n =>
    unfold DataW.trod at h
    rw [ht] at h
    split at h <;> simp_all
theorem bool_of_trod {t : TypeId} {fuel : Nat} {cs : List Value} {x : DataW H × List MemPlace} (ht : P.underlying t = some .bool) (h : DataW.trod enc0 P W base sp held fuel t cs = some x) : ∃ b, cs = [.bool b] := by
  cases fuel with
  | zero => simp [DataW.trod] at h
  | succ n =>
    unfold DataW.trod at h
    rw [ht] at h
    split at h <;> simp_all
end
end Go.Lg
namespace Go.Lg.B
open Go Go.Conc Go.Lg Go.Proofs Go.WideShapes Go.ChangeShapes Go.Proofs.Tryz
set_option maxRecDepth 100000
theorem cells3 : prog.cellsOf 3 = 1 := by kernel_rfl
theorem cells4 : prog.cellsOf 4 = 1 := by kernel_rfl
theorem cells22 : prog.cellsOf 22 = 1 := by kernel_rfl
theorem cells23 : prog.cellsOf 23 = 1 := by kernel_rfl
theorem cells25 : prog.cellsOf 25 = 5 := by kernel_rfl
theorem cells27 : prog.cellsOf 27 = 2 := by kernel_rfl
theorem cells46 : prog.cellsOf 46 = 2 := by kernel_rfl
theorem cells58 : prog.cellsOf 58 = 5 := by kernel_rfl
section
variable {H : Type} {enc0 : TypeId × Value → H} {W : World} {base : Nat} {sp : Nat → Bool} {held : Bool}
theorem field_of {P : Program} {t : TypeId} {fs : Array Field} {fuel : Nat} {cs : List Value} {x : DataW H × List MemPlace} (ht : P.underlying t = some (.struct fs)) (h : DataW.trod enc0 P W base sp held fuel t cs = some x) :
    cs.length = P.cellsOf t ∧ ∀ (i : Nat) (f : Field), fs[i]? = some f → ∃ n z, DataW.trod enc0 P W base sp held n f.type ((cs.drop f.offset).take (P.cellsOf f.type)) = some z := by
  obtain ⟨xs, n, _, _, h1, h2, h3⟩ := DataW.trod_struct ht h
  refine ⟨h1, fun i f hf => ?_⟩
  have hi : i < xs.length := by rw [h2]; exact (Array.getElem?_eq_some_iff.1 hf).1
  exact ⟨n, xs[i], by rw [h3 i f hf, List.getElem?_eq_getElem hi]⟩
theorem sq_of {n : Nat} {cs : List Value} {z : DataW H × List MemPlace} (h : DataW.trod enc0 prog W base sp held n 27 cs = some z) : ∃ s : Sq, cs = s.cells := by
  obtain ⟨hl, hf⟩ := field_of underlying27 h
  rw [cells27] at hl
  match cs, hl with
  | [a, c], _ =>
    have g0 : ∃ n z, DataW.trod enc0 prog W base sp held n 3 (([a, c].drop 0).take (prog.cellsOf 3)) = some z := hf 0 _ rfl
    rw [cells3] at g0
    obtain ⟨_, _, h0⟩ := g0
    have g1 : ∃ n z, DataW.trod enc0 prog W base sp held n 3 (([a, c].drop 1).take (prog.cellsOf 3)) = some z := hf 1 _ rfl
    rw [cells3] at g1
    obtain ⟨_, _, h1⟩ := g1
    obtain ⟨x0, e0, _⟩ := int_of_trod underlying3 h0
    obtain ⟨x1, e1, _⟩ := int_of_trod underlying3 h1
    simp at e0 e1
    subst e0; subst e1
    exact ⟨⟨x0, x1⟩, rfl⟩
theorem rc_of {n : Nat} {cs : List Value} {z : DataW H × List MemPlace} (h : DataW.trod enc0 prog W base sp held n 46 cs = some z) : ∃ s : Rc, cs = s.cells := by
  obtain ⟨hl, hf⟩ := field_of underlying46 h
  rw [cells46] at hl
  match cs, hl with
  | [a, c], _ =>
    have g0 : ∃ n z, DataW.trod enc0 prog W base sp held n 3 (([a, c].drop 0).take (prog.cellsOf 3)) = some z := hf 0 _ rfl
    rw [cells3] at g0
    obtain ⟨_, _, h0⟩ := g0
    have g1 : ∃ n z, DataW.trod enc0 prog W base sp held n 3 (([a, c].drop 1).take (prog.cellsOf 3)) = some z := hf 1 _ rfl
    rw [cells3] at g1
    obtain ⟨_, _, h1⟩ := g1
    obtain ⟨x0, e0, _⟩ := int_of_trod underlying3 h0
    obtain ⟨x1, e1, _⟩ := int_of_trod underlying3 h1
    simp at e0 e1
    subst e0; subst e1
    exact ⟨⟨x0, x1⟩, rfl⟩
theorem wt_of {n : Nat} {cs : List Value} {z : DataW H × List MemPlace} (h : DataW.trod enc0 prog W base sp held n 58 cs = some z) : ∃ s : Wt, cs = s.cells := by
  obtain ⟨hl, hf⟩ := field_of underlying58 h
  rw [cells58] at hl
  match cs, hl with
  | [a, c, d, e, f], _ =>
    have g0 : ∃ n z, DataW.trod enc0 prog W base sp held n 27 (([a, c, d, e, f].drop 0).take (prog.cellsOf 27)) = some z := hf 0 _ rfl
    rw [cells27] at g0
    obtain ⟨_, _, h0⟩ := g0
    have g1 : ∃ n z, DataW.trod enc0 prog W base sp held n 3 (([a, c, d, e, f].drop 2).take (prog.cellsOf 3)) = some z := hf 1 _ rfl
    rw [cells3] at g1
    obtain ⟨_, _, h1⟩ := g1
    have g2 : ∃ n z, DataW.trod enc0 prog W base sp held n 3 (([a, c, d, e, f].drop 3).take (prog.cellsOf 3)) = some z := hf 2 _ rfl
    rw [cells3] at g2
    obtain ⟨_, _, h2⟩ := g2
    have g3 : ∃ n z, DataW.trod enc0 prog W base sp held n 4 (([a, c, d, e, f].drop 4).take (prog.cellsOf 4)) = some z := hf 3 _ rfl
    rw [cells4] at g3
    obtain ⟨_, _, h3⟩ := g3
    obtain ⟨s, e0⟩ := sq_of h0
    obtain ⟨x1, e1, _⟩ := int_of_trod underlying3 h1
    obtain ⟨x2, e2, _⟩ := int_of_trod underlying3 h2
    obtain ⟨x3, e3⟩ := bool_of_trod underlying4 h3
    simp [Sq.cells] at e0 e1 e2 e3
    obtain ⟨rfl, rfl⟩ := e0
    subst e1; subst e2; subst e3
    exact ⟨⟨s, x1, x2, x3⟩, rfl⟩
theorem rcs_of {n : Nat} {cs : List Value} {z : DataW H × List MemPlace} (h : DataW.trod enc0 prog W base sp held n 22 cs = some z) : ∃ v xs, cs = [v] ∧ Ls Rc.cells 2 (fun b => W.heap[b]?) v xs :=
  ls_of_trod underlying22 cells46 (by decide) Rc.len (fun _ _ _ h => rc_of h) h
theorem wts_of {n : Nat} {cs : List Value} {z : DataW H × List MemPlace} (h : DataW.trod enc0 prog W base sp held n 23 cs = some z) : ∃ v xs, cs = [v] ∧ Ls Wt.cells 5 (fun b => W.heap[b]?) v xs :=
  ls_of_trod underlying23 cells58 (by decide) Wt.len (fun _ _ _ h => wt_of h) h
theorem argBk {r : Reach} {b0 : Nat} {v : Value} {d : DataW H} {p : List MemPlace} (hv : Value.okWide prog W r b0 25 v) (h : DataW.Trod enc0 prog W base sp held 25 v d p) : ∃ b, BkV (fun b => W.heap[b]?) v b := by
  obtain ⟨⟨cs⟩, rfl, _⟩ := okWide_struct underlying25 hv
  obtain ⟨n, h⟩ := h
  obtain ⟨hl, hf⟩ := field_of (cs := cs) underlying25 h
  rw [cells25] at hl
  match cs, hl with
  | [a, c, d, e, f], _ =>
    have g0 : ∃ n z, DataW.trod enc0 prog W base sp held n 3 (([a, c, d, e, f].drop 0).take (prog.cellsOf 3)) = some z := hf 0 _ rfl
    rw [cells3] at g0
    obtain ⟨_, _, h0⟩ := g0
    have g1 : ∃ n z, DataW.trod enc0 prog W base sp held n 3 (([a, c, d, e, f].drop 1).take (prog.cellsOf 3)) = some z := hf 1 _ rfl
    rw [cells3] at g1
    obtain ⟨_, _, h1⟩ := g1
    have g2 : ∃ n z, DataW.trod enc0 prog W base sp held n 3 (([a, c, d, e, f].drop 2).take (prog.cellsOf 3)) = some z := hf 2 _ rfl
    rw [cells3] at g2
    obtain ⟨_, _, h2⟩ := g2
    have g3 : ∃ n z, DataW.trod enc0 prog W base sp held n 22 (([a, c, d, e, f].drop 3).take (prog.cellsOf 22)) = some z := hf 3 _ rfl
    rw [cells22] at g3
    obtain ⟨_, _, h3⟩ := g3
    have g4 : ∃ n z, DataW.trod enc0 prog W base sp held n 23 (([a, c, d, e, f].drop 4).take (prog.cellsOf 23)) = some z := hf 4 _ rfl
    rw [cells23] at g4
    obtain ⟨_, _, h4⟩ := g4
    obtain ⟨x0, e0, _⟩ := int_of_trod underlying3 h0
    obtain ⟨x1, e1, _⟩ := int_of_trod underlying3 h1
    obtain ⟨x2, e2, _⟩ := int_of_trod underlying3 h2
    obtain ⟨v3, x3, e3, l3⟩ := rcs_of h3
    obtain ⟨v4, x4, e4, l4⟩ := wts_of h4
    simp at e0 e1 e2 e3 e4
    subst e0; subst e1; subst e2; subst e3; subst e4
    exact ⟨⟨x0, x1, x2, x3, x4⟩, _, _, rfl, l3, l4⟩
end
end Go.Lg.B
namespace Go.Lg.B
open Go Go.Conc Go.Lg Go.Proofs Go.Proofs.Tryz
section
variable {main : Bool} {J : Goroutine → Mem → Prop} (hJ : Closed prog main J)
include hJ
theorem nearR_c (s : Sq) (ro : RO) : CallP prog J (fnv 83) [s.val] ro (.bool (isPlace s)) := by
  refine CallP.intro hJ (by kernel_rfl) fun c cs tail hret => enter_X (n := 11) func83 rfl rfl (Nl rfl) ?_
  have C : Ctx prog main J (bf 83 .normal) := ⟨hJ, by decide⟩
  refine Xr C rfl rfl <| R.box C rfl rfl rfl rfl fun p1 => Ad C rfl rfl <| Xr C rfl rfl <| Rf C 0 rfl rfl runUnderlying27 rfl sizeOf3 <| R.loadOne C rfl rfl rfl isAgg3 (by repeat (first | exact Mh | apply Mt)) rfl <| R.callP C rfl rfl rfl rfl (betweenR_c hJ _ _ _ _) <| Rm C rfl rfl <| R.fix (t := 6) rfl (fun q1 => ?_) (fun q1 => ?_)
  · have q1 := q1
    refine Rf C 1 rfl rfl runUnderlying27 rfl sizeOf3 <| R.loadOne C rfl rfl rfl isAgg3 (by repeat (first | exact Mh | apply Mt)) rfl <| R.callP C rfl rfl rfl rfl (betweenR_c hJ _ _ _ _) <| R.pickT C rfl rfl rfl rfl <| Ad C rfl rfl <| Xt C func83 <| Hp hret ?_
    simp_all [isPlace, retVal]
  · have q1 := q1
    refine R.pass C rfl rfl <| R.pass C rfl rfl <| R.pass C rfl rfl <| R.pickF C rfl rfl rfl rfl <| Ad C rfl rfl <| Xt C func83 <| Hp hret ?_
    simp_all [isPlace, retVal]
theorem insideR_c (x : Rc) (l m : Int) (ro : RO) : CallP prog J (fnv 90) [x.val, .int .i64 l, .int .i64 m] ro (.bool (isReach x l m)) := by
  refine CallP.intro hJ (by kernel_rfl) fun c cs tail hret => enter_X (n := 24) func90 rfl rfl (Nl rfl) ?_
  have C : Ctx prog main J (bf 90 .normal) := ⟨hJ, by decide⟩
  refine Xr C rfl rfl <| R.box C rfl rfl rfl rfl fun p3 => Ad C rfl rfl <| Xr C rfl rfl <| Rm C rfl rfl <| Rf C 0 rfl rfl runUnderlying46 rfl sizeOf3 <| R.loadOne C rfl rfl rfl isAgg3 (by repeat (first | exact Mh | apply Mt)) rfl <| R.int C rfl rfl rfl rfl b_leq <| Rm C rfl rfl <| R.fix (t := 11) rfl (fun q1 => ?_) (fun q1 => ?_)
  · have q1 := q1
    refine Rf C 0 rfl rfl runUnderlying46 rfl sizeOf3 <| R.loadOne C rfl rfl rfl isAgg3 (by repeat (first | exact Mh | apply Mt)) rfl <| Rf C 1 rfl rfl runUnderlying46 rfl sizeOf3 <| R.loadOne C rfl rfl rfl isAgg3 (by repeat (first | exact Mh | apply Mt)) rfl <| R.int C rfl rfl rfl rfl b_leq <| R.pickT C rfl rfl rfl rfl <| Rm C rfl rfl <| R.fix (t := 18) rfl (fun q2 => ?_) (fun q2 => ?_)
    · have q2 := q2
      refine Rf C 1 rfl rfl runUnderlying46 rfl sizeOf3 <| R.loadOne C rfl rfl rfl isAgg3 (by repeat (first | exact Mh | apply Mt)) rfl <| Rm C rfl rfl <| R.int C rfl rfl rfl rfl b_leq <| R.pickT C rfl rfl rfl rfl <| Ad C rfl rfl <| Xt C func90 <| Hp hret ?_
      first | (simp_all [isReach, retVal]; done) | (simp_all [isReach, retVal]; omega)
    · have q2 := q2
      refine R.pass C rfl rfl <| R.pass C rfl rfl <| R.pass C rfl rfl <| R.pass C rfl rfl <| R.pickF C rfl rfl rfl rfl <| Ad C rfl rfl <| Xt C func90 <| Hp hret ?_
      first | (simp_all [isReach, retVal]; done) | (simp_all [isReach, retVal]; omega)
  · have q1 := q1
    refine R.pass C rfl rfl <| R.pass C rfl rfl <| R.pass C rfl rfl <| R.pass C rfl rfl <| R.pass C rfl rfl <| R.pickF C rfl rfl rfl rfl <| Rm C rfl rfl <| R.pass C rfl rfl <| R.pass C rfl rfl <| R.pass C rfl rfl <| R.pass C rfl rfl <| R.pickF C rfl rfl rfl rfl <| Ad C rfl rfl <| Xt C func90 <| Hp hret ?_
    first | (simp_all [isReach, retVal]; done) | (simp_all [isReach, retVal]; omega)
theorem isCompassR_c {b : Bk} {v : Value} {ro : RO} (hv : BkV ro v b) (hb : b.short) (k : Int) : CallP prog J (fnv 91) [v, .int .i64 k] ro (.bool (between k 0 (b.cs.length - 1))) := by
  obtain ⟨vc, vw, rfl, hc, hw⟩ := hv
  obtain ⟨h1, h2⟩ := hb
  obtain ⟨b1, c1, rfl⟩ := hc.form
  refine CallP.intro hJ (by kernel_rfl) fun c cs tail hret => enter_X (n := 11) func91 rfl rfl (Nl rfl) ?_
  have C : Ctx prog main J (bf 91 .normal) := ⟨hJ, by decide⟩
  refine Xr C rfl rfl <| R.box C rfl rfl rfl rfl fun p2 => Ad C rfl rfl <| Xr C rfl rfl <| Rm C rfl rfl <| Rf C 3 rfl rfl runUnderlying25 rfl sizeOf22 <| R.loadOne C rfl rfl rfl isAgg22 (by repeat (first | exact Mh | apply Mt)) rfl <| R.lenSlice C rfl rfl rfl runUnderlying22 <| R.int C rfl rfl rfl rfl (b_sub (by omega) (by omega)) <| R.callP C rfl rfl rfl rfl (betweenR_c hJ _ _ _ _) <| Ad C rfl rfl <| Xt C func91 <| Hp hret ?_
  simp_all [retVal]
theorem greatR_c {b : Bk} {v : Value} {ro : RO} (hv : BkV ro v b) : CallP prog J (fnv 18) [v] ro (.bool (decide (20 < b.cs.length) || decide (20 < b.ws.length))) := by
  obtain ⟨vc, vw, rfl, hc, hw⟩ := hv
  obtain ⟨b1, c1, rfl⟩ := hc.form
  obtain ⟨b2, c2, rfl⟩ := hw.form
  refine CallP.intro hJ (by kernel_rfl) fun c cs tail hret => enter_X (n := 13) func18 rfl rfl (Nl rfl) ?_
  have C : Ctx prog main J (bf 18 .normal) := ⟨hJ, by decide⟩
  refine Xr C rfl rfl <| R.box C rfl rfl rfl rfl fun p1 => Ad C rfl rfl <| Xr C rfl rfl <| Rf C 3 rfl rfl runUnderlying25 rfl sizeOf22 <| R.loadOne C rfl rfl rfl isAgg22 (by repeat (first | exact Mh | apply Mt)) rfl <| R.lenSlice C rfl rfl rfl runUnderlying22 <| R.int C rfl rfl rfl rfl b_gtr <| Rm C rfl rfl <| R.fix (t := 7) rfl (fun q1 => ?_) (fun q1 => ?_)
  · have q1 := q1
    refine R.pass C rfl rfl <| R.pass C rfl rfl <| R.pass C rfl rfl <| R.pass C rfl rfl <| R.pickT C rfl rfl rfl rfl <| Ad C rfl rfl <| Xt C func18 <| Hp hret ?_
    (simp only [decide_eq_true_eq, decide_eq_false_iff_not, retVal] at *; refine congrArg Value.bool ?_; rw [Bool.eq_iff_iff]; simp; try omega)
  · have q1 := q1
    refine Rf C 4 rfl rfl runUnderlying25 rfl sizeOf23 <| R.loadOne C rfl rfl rfl isAgg23 (by repeat (first | exact Mh | apply Mt)) rfl <| R.lenSlice C rfl rfl rfl runUnderlying23 <| R.int C rfl rfl rfl rfl b_gtr <| R.pickF C rfl rfl rfl rfl <| Ad C rfl rfl <| Xt C func18 <| Hp hret ?_
    (simp only [decide_eq_true_eq, decide_eq_false_iff_not, retVal] at *; refine congrArg Value.bool ?_; rw [Bool.eq_iff_iff]; simp; try omega)
end
end Go.Lg.B
namespace Go.Lg.B
open Go Go.Conc Go.Lg Go.Proofs Go.Proofs.Tryz
theorem rz_iff {k : Int} : ∀ {m : Nat} {n : Int}, k ∈ rz n m ↔ n ≤ k ∧ k < n + m
  | 0, n => by simp only [rz, List.not_mem_nil, false_iff]; omega
  | m + 1, n => by rw [rz, List.mem_cons, rz_iff]; omega
theorem ups_iff {k : Nat} : ∀ {m n : Nat}, k ∈ ups n m ↔ n ≤ k ∧ k < n + m
  | 0, n => by simp only [ups, List.not_mem_nil, false_iff]; omega
  | m + 1, n => by rw [ups, List.mem_cons, ups_iff]; omega
theorem maskOf_bit (p : Nat → Bool) (i : Nat) : ∀ n, (maskOf p n).testBit i = (decide (i < n) && p i)
  | 0 => by simp [maskOf]
  | n + 1 => by
    simp only [maskOf]
    by_cases h : p n = true
    · rw [if_pos h, Nat.testBit_or, maskOf_bit, Nat.testBit_two_pow]
      by_cases e : i = n
      · subst e; simp [h]
      · have : (i < n + 1) ↔ i < n := by omega
        simp [Ne.symm e, this]
    · rw [if_neg h, maskOf_bit]
      by_cases e : i = n
      · subst e; simp [h]
      · have : (i < n + 1) ↔ i < n := by omega
        simp [this]
theorem andNot_zero {a c : Nat} : (andNot a c == 0) = true ↔ ∀ i, a.testBit i = true → c.testBit i = true := by
  rw [beq_iff_eq]
  constructor
  · intro h i ha
    have := congrArg (fun x => x.testBit i) h
    simp only [andNot, Nat.testBit_xor, Nat.testBit_and, ha, Nat.zero_testBit] at this
    cases hc : c.testBit i
    · rw [hc] at this; simp at this
    · rfl
  · intro h
    refine Nat.eq_of_testBit_eq fun i => ?_
    simp only [andNot, Nat.testBit_xor, Nat.testBit_and, Nat.zero_testBit]
    cases ha : a.testBit i
    · simp
    · simp [h i ha]
theorem and_zero {a c : Nat} : (a &&& c == 0) = true ↔ ∀ i, a.testBit i = true → c.testBit i = false := by
  rw [beq_iff_eq]
  constructor
  · intro h i ha
    have := congrArg (fun x => x.testBit i) h
    simpa only [Nat.testBit_and, ha, Nat.zero_testBit, Bool.true_and] using this
  · intro h
    refine Nat.eq_of_testBit_eq fun i => ?_
    simp only [Nat.testBit_and, Nat.zero_testBit]
    cases ha : a.testBit i
    · simp
    · simp [h i ha]
theorem bits_mem (m : Nat) (k : Int) : ∀ n, k ∈ bitsUpto m n ↔ ∃ i : Nat, i < n ∧ m.testBit i = true ∧ k = i
  | 0 => by simp [bitsUpto]
  | n + 1 => by
    simp only [bitsUpto]
    have ih := bits_mem m k n
    by_cases h : m.testBit n = true
    · rw [if_pos h, List.mem_append, ih, List.mem_singleton]
      constructor
      · rintro (⟨i, h1, h2, h3⟩ | rfl)
        · exact ⟨i, by omega, h2, h3⟩
        · exact ⟨n, by omega, h, rfl⟩
      · rintro ⟨i, h1, h2, h3⟩
        by_cases e : i = n
        · exact .inr (by rw [h3, e])
        · exact .inl ⟨i, by omega, h2, h3⟩
    · rw [if_neg h, ih]
      constructor
      · rintro ⟨i, h1, h2, h3⟩; exact ⟨i, by omega, h2, h3⟩
      · rintro ⟨i, h1, h2, h3⟩
        by_cases e : i = n
        · rw [e] at h2; exact absurd h2 h
        · exact ⟨i, by omega, h2, h3⟩
theorem bits_up (m : Nat) : ∀ n, List.Pairwise (· < ·) (bitsUpto m n)
  | 0 => List.Pairwise.nil
  | n + 1 => by
    simp only [bitsUpto]
    split
    · refine List.pairwise_append.2 ⟨bits_up m n, List.pairwise_singleton _ _, fun x hx y hy => ?_⟩
      obtain ⟨i, h1, _, rfl⟩ := (bits_mem m x n).1 hx
      obtain rfl := List.mem_singleton.1 hy
      omega
    · exact bits_up m n
theorem up_nodup {l : List Int} (h : List.Pairwise (· < ·) l) : l.Nodup := h.imp fun h => by omega
theorem up_ext {l m : List Int} (hl : List.Pairwise (· < ·) l) (hm : List.Pairwise (· < ·) m) (h : ∀ x, x ∈ l ↔ x ∈ m) : l = m :=
  List.Perm.eq_of_pairwise (fun a b _ _ h1 h2 => by omega) hl hm ((List.perm_ext_iff_of_nodup (up_nodup hl) (up_nodup hm)).2 h)
theorem listOf_eq {m : Nat} {l : List Int} (hl : List.Pairwise (· < ·) l) (hr : ∀ k ∈ l, 0 ≤ k ∧ k < 5) (hm : ∀ i : Nat, m.testBit i = l.contains (i : Int)) : listOf m = l := by
  refine up_ext (bits_up m 5) hl fun x => ?_
  unfold listOf
  rw [bits_mem]
  constructor
  · rintro ⟨i, _, h2, rfl⟩
    rw [hm] at h2; simpa using h2
  · intro hx
    obtain ⟨h1, h2⟩ := hr x hx
    refine ⟨x.toNat, by omega, ?_, by omega⟩
    rw [hm, show ((x.toNat : Nat) : Int) = x by omega]
    simpa using hx
end Go.Lg.B
namespace Go.Lg.B
open Go Go.Conc Go.Lg Go.Proofs Go.Proofs.Tryz
section
variable {main : Bool} {J : Goroutine → Mem → Prop} (hJ : Closed prog main J)
include hJ
theorem checkChartR_c {b : Bk} {v : Value} {ro : RO} (hv : BkV ro v b) (hs : b.short) : CallP prog J (fnv 25) [v] ro (.int .i64 (checkChart b)) := by
  have hvv := hv
  obtain ⟨vc, vw, rfl, hc, hw⟩ := hv
  obtain ⟨b1, c1, rfl⟩ := hc.form
  obtain ⟨b2, c2, rfl⟩ := hw.form
  have hs0 := hs
  obtain ⟨hs1, hs2⟩ := hs
  by_cases hch : b.chart = 0
  · have hch' : between b.w 2 7 = true ∧ between b.h 2 7 = true ∧ between b.f 0 2 = true := by
      simp only [Bk.chart] at hch
      cases h1 : between b.w 2 7 <;> cases h2 : between b.h 2 7 <;> cases h3 : between b.f 0 2 <;> simp [h1, h2, h3] at hch ⊢
    obtain ⟨g1, g2, g3⟩ := hch'
    refine CallP.intro hJ (by kernel_rfl) fun c cs tail hret => enter_X (n := 82) func25 rfl rfl (Nl rfl) ?_
    have C : Ctx prog main J (bf 25 .normal) := ⟨hJ, by decide⟩
    refine Xr C rfl rfl <| R.box C rfl rfl rfl rfl fun p1 => Ad C rfl rfl <| Xs C <| Xr C rfl rfl <| Rf C 0 rfl rfl runUnderlying25 rfl sizeOf3 <| R.loadOne C rfl rfl rfl isAgg3 (by repeat (first | exact Mh | apply Mt)) rfl <| R.callP C rfl rfl rfl rfl (betweenR_c hJ _ _ _ _) <| R.not C rfl rfl rfl <| R.fixv (t := 10) (v' := .bool false) rfl (by (rw [g1]; rfl)) <| Rm C rfl rfl <| Rf C 1 rfl rfl runUnderlying25 rfl sizeOf3 <| R.loadOne C rfl rfl rfl isAgg3 (by repeat (first | exact Mh | apply Mt)) rfl <| R.callP C rfl rfl rfl rfl (betweenR_c hJ _ _ _ _) <| R.not C rfl rfl rfl <| R.fixv (t := 15) (v' := .bool false) rfl (by (rw [g2]; rfl)) <| R.pickF C rfl rfl rfl rfl <| Rm C rfl rfl <| Rf C 2 rfl rfl runUnderlying25 rfl sizeOf3 <| R.loadOne C rfl rfl rfl isAgg3 (by repeat (first | exact Mh | apply Mt)) rfl <| R.callP C rfl rfl rfl rfl (betweenR_c hJ _ _ _ _) <| R.not C rfl rfl rfl <| R.fixv (t := 21) (v' := .bool false) rfl (by (rw [g3]; rfl)) <| R.pickF C rfl rfl rfl rfl <| R.done C <| X.cond C.1 rfl (fun h => nomatch h) (fun _ => ?_)
    refine X.skip C.1 <| Xs C <| Xr C rfl rfl <| Rf C 3 rfl rfl runUnderlying25 rfl sizeOf22 <| R.loadOne C rfl rfl rfl isAgg22 (by repeat (first | exact Mh | apply Mt)) rfl <| R.lenSlice C rfl rfl rfl runUnderlying22 <| R.callP C rfl rfl rfl rfl (betweenR_c hJ _ _ _ _) <| R.not C rfl rfl rfl <| R.done C <| X.cond C.1 rfl (fun hn => ?_) (fun hn => ?_)
    · have hn := hn
      refine Xr C rfl rfl <| Ad C rfl rfl <| Xt C func25 <| Hp hret ?_
      simp only [checkChart, hch, Bk.compassesH]
      simp_all [retVal]
    · have hn := hn
      have hn' : between (b.cs.length : Int) 1 3 = true := by simpa using hn
      refine X.skip C.1 <| Xs C <| Xr C rfl rfl <| Ad C rfl rfl <| X.block C.1 <| X.loopI (ι := Nat) C.1 (fun i => i ≤ b.cs.length ∧ csH (b.cs.drop i) = csH b.cs) (fun i => [(1, .pointer (some ⟨p1, 0, none⟩)), (3, .int .i64 (i : Int))])
        (fun _ => ⟨ro, (p1, .cells [.int .i64 b.w, .int .i64 b.h, .int .i64 b.f, .slice b1 b.cs.length c1, .slice b2 b.ws.length c2].toArray 25 (0, 0)) :: tail⟩) (fun i => b.cs.length - i) 0 ⟨Nat.zero_le _, rfl⟩ rfl ⟨rfl, rfl, trivial⟩ fun i hi hnext => ?_
      obtain ⟨hi, hr⟩ := hi
      refine Xs C <| Xr C rfl rfl <| Rm C rfl rfl <| Rf C 3 rfl rfl runUnderlying25 rfl sizeOf22 <| R.loadOne C rfl rfl rfl isAgg22 (by repeat (first | exact Mh | apply Mt)) rfl <| R.lenSlice C rfl rfl rfl runUnderlying22 <| R.int C rfl rfl rfl rfl b_lss <| R.done C <| X.cond C.1 rfl (fun hlt => ?_) (fun hlt => ?_)
      · have hlt := hlt
        simp only [decide_eq_true_eq] at hlt
        have hi' : i < b.cs.length := by omega
        obtain ⟨p, off, cap, l, t, fq, hsl, hrop, hsub⟩ := hc.at Rc.len (by omega)
        cases hsl
        rw [List.drop_eq_getElem_cons hi'] at hr
        simp only [csH] at hr
        refine X.skip C.1 <| Xs C <| X.block C.1 <| Xr C rfl rfl <| Rf C 3 rfl rfl runUnderlying25 rfl sizeOf22 <| R.loadOne C rfl rfl rfl isAgg22 (by repeat (first | exact Mh | apply Mt)) rfl <| Rm C rfl rfl <| Rx C rfl rfl rfl runUnderlying22 sizeOf46 <| R.loadAggRo C rfl rfl rfl isAgg46 sizeOf46 hrop (hsub i hi') <| R.alloc C rfl rfl zeroValue46 rfl fun p4 => R.store C rfl rfl rfl rfl sizeOf46 rfl rfl rfl (by repeat (first | exact Uh | apply Ut)) (.here (.here .nil)) <| R.done C <| Xr C rfl rfl <| R.loadAgg C rfl rfl rfl isAgg46 sizeOf46 (by repeat (first | exact Mh | apply Mt)) Tk2 <| R.callP C rfl rfl rfl rfl (insideR_c hJ b.cs[i] _ _ _) <| R.not C rfl rfl rfl <| Rm C rfl rfl <| R.fix (t := 43) rfl (fun hg => ?_) (fun hg => ?_)
        · have hg := hg
          have hf : (b.cs[i]).fine = false := by simp at hg; simp [Rc.fine, hg]
          simp [hf] at hr
          refine R.pass C rfl rfl <| R.pass C rfl rfl <| R.pass C rfl rfl <| R.pass C rfl rfl <| R.pass C rfl rfl <| R.pass C rfl rfl <| R.pickT C rfl rfl rfl rfl <| R.done C <| X.cond C.1 rfl (fun _ => ?_) (fun h => nomatch h)
          refine Xr C rfl rfl <| Ad C rfl rfl <| Xt C func25 <| Hp hret ?_
          simp [checkChart, hch, Bk.compassesH, hn', retVal, ← hr]
        · have hg := hg
          have hbd := isReach_bd (x := b.cs[i]) (by simpa using hg)
          refine Rf C 1 rfl rfl runUnderlying46 rfl sizeOf3 <| R.loadOne C rfl rfl rfl isAgg3 (by repeat (first | exact Mh | apply Mt)) rfl <| Rf C 0 rfl rfl runUnderlying46 rfl sizeOf3 <| R.loadOne C rfl rfl rfl isAgg3 (by repeat (first | exact Mh | apply Mt)) rfl <| R.int C rfl rfl rfl rfl (b_sub (by omega) (by omega)) <| R.int C rfl rfl rfl rfl b_geq <| R.pickF C rfl rfl rfl rfl <| R.done C <| X.cond C.1 rfl (fun hd => ?_) (fun hd => ?_)
          · have hd := hd
            have hf : (b.cs[i]).fine = false := by simp at hd; simp [Rc.fine]; intro _; omega
            simp [hf] at hr
            refine Xr C rfl rfl <| Ad C rfl rfl <| Xt C func25 <| Hp hret ?_
            simp [checkChart, hch, Bk.compassesH, hn', retVal, ← hr]
          · have hd := hd
            refine X.skip C.1 <| X.inBlock C.1 <| X.region C rfl rfl <| Rm C rfl rfl <| R.int C rfl rfl rfl rfl (b_add (by omega) (by omega)) <| Ad C rfl rfl ?_
            have hf : (b.cs[i]).fine = true := by simp at hd hg; simp [Rc.fine, hg]; omega
            simp [hf] at hr
            refine X.weak C.1 (Weak.sub (List.sublist_cons_self _ _)) (X.weaken ?_ (hnext (i + 1) ⟨by omega, hr⟩ (by omega)))
            exact ⟨rfl, by simp [look], trivial⟩
      · have hlt := hlt
        simp only [decide_eq_false_iff_not] at hlt
        obtain rfl : i = b.cs.length := by omega
        have hcs : b.compassesH = 0 := by simp [csH] at hr; simp [Bk.compassesH, hn', ← hr]
        have hcc : checkChart b = b.witnessesH := by simp [checkChart, hch, hcs]
        refine X.exit C.1 rfl <| Xs C <| Xr C rfl rfl <| Rf C 4 rfl rfl runUnderlying25 rfl sizeOf23 <| R.loadOne C rfl rfl rfl isAgg23 (by repeat (first | exact Mh | apply Mt)) rfl <| R.lenSlice C rfl rfl rfl runUnderlying23 <| R.int C rfl rfl rfl rfl b_gtr <| R.done C <| X.cond C.1 rfl (fun h5 => ?_) (fun h5 => ?_)
        · have h5 := h5
          refine Xr C rfl rfl <| Ad C rfl rfl <| Xt C func25 <| Hp hret ?_
          simp at h5
          rw [hcc]
          simp [Bk.witnessesH, retVal]; omega
        · have h5 := h5
          simp at h5
          refine X.skip C.1 <| Xs C <| Xr C rfl rfl <| Ad C rfl rfl <| X.block C.1 <| X.loopI (ι := Nat) C.1 (fun i => i ≤ b.ws.length ∧ wtsH b.cs.length (b.ws.drop i) = wtsH b.cs.length b.ws) (fun i => [(1, .pointer (some ⟨p1, 0, none⟩)), (5, .int .i64 (i : Int))])
            (fun _ => ⟨ro, (p1, .cells [.int .i64 b.w, .int .i64 b.h, .int .i64 b.f, .slice b1 b.cs.length c1, .slice b2 b.ws.length c2].toArray 25 (0, 0)) :: tail⟩) (fun i => b.ws.length - i) 0 ⟨Nat.zero_le _, rfl⟩ rfl ⟨rfl, rfl, trivial⟩ fun i hi hnext2 => ?_
          obtain ⟨hi, hr⟩ := hi
          refine Xs C <| Xr C rfl rfl <| Rm C rfl rfl <| Rf C 4 rfl rfl runUnderlying25 rfl sizeOf23 <| R.loadOne C rfl rfl rfl isAgg23 (by repeat (first | exact Mh | apply Mt)) rfl <| R.lenSlice C rfl rfl rfl runUnderlying23 <| R.int C rfl rfl rfl rfl b_lss <| R.done C <| X.cond C.1 rfl (fun hlt2 => ?_) (fun hlt2 => ?_)
          · have hlt2 := hlt2
            simp only [decide_eq_true_eq] at hlt2
            have hi' : i < b.ws.length := by omega
            obtain ⟨p, off, cap, l, t, fq, hsl, hrop, hsub⟩ := hw.at Wt.len (by omega)
            cases hsl
            rw [List.drop_eq_getElem_cons hi'] at hr
            simp only [wtsH] at hr
            refine X.skip C.1 <| Xs C <| X.block C.1 <| Xr C rfl rfl <| Rf C 4 rfl rfl runUnderlying25 rfl sizeOf23 <| R.loadOne C rfl rfl rfl isAgg23 (by repeat (first | exact Mh | apply Mt)) rfl <| Rm C rfl rfl <| Rx C rfl rfl rfl runUnderlying23 sizeOf58 <| R.loadAggRo C rfl rfl rfl isAgg58 sizeOf58 hrop (hsub i hi') <| R.alloc C rfl rfl zeroValue58 rfl fun p6 => R.store C rfl rfl rfl rfl sizeOf58 rfl rfl rfl (by repeat (first | exact Uh | apply Ut)) (.here (.here (.here (.here (.here .nil))))) <| R.done C <| Xs C <| Xr C rfl rfl <| Rf C 0 rfl rfl runUnderlying58 rfl sizeOf27 <| R.loadAgg C rfl rfl rfl isAgg27 sizeOf27 (by repeat (first | exact Mh | apply Mt)) Tk2 <| R.callP C rfl rfl rfl rfl (nearR_c hJ (b.ws[i]).s _) <| R.not C rfl rfl rfl <| Rm C rfl rfl <| R.fix (t := 71) rfl (fun hg2 => ?_) (fun hg2 => ?_)
            · have hg2 := hg2
              refine R.pass C rfl rfl <| R.pass C rfl rfl <| R.pass C rfl rfl <| R.pass C rfl rfl <| R.pickT C rfl rfl rfl rfl <| R.done C <| X.cond C.1 rfl (fun _ => ?_) (fun h => nomatch h)
              refine Xr C rfl rfl <| Ad C rfl rfl <| Xt C func25 <| Hp hret ?_
              simp at hg2
              simp [hg2] at hr
              rw [hcc]
              simp [Bk.witnessesH, retVal, ← hr]; omega
            · have hg2 := hg2
              refine Rf C 2 rfl rfl runUnderlying58 rfl sizeOf3 <| R.loadOne C rfl rfl rfl isAgg3 (by repeat (first | exact Mh | apply Mt)) rfl <| R.callP C rfl rfl rfl rfl (betweenR_c hJ _ _ _ _) <| R.not C rfl rfl rfl <| R.pickF C rfl rfl rfl rfl <| R.done C <| X.cond C.1 rfl (fun hd => ?_) (fun hd => ?_)
              · have hd := hd
                refine Xr C rfl rfl <| Ad C rfl rfl <| Xt C func25 <| Hp hret ?_
                simp at hg2 hd
                simp [hg2, hd] at hr
                rw [hcc]
                simp [Bk.witnessesH, retVal, ← hr]; omega
              · have hd := hd
                refine X.skip C.1 <| Xr C rfl rfl <| R.loadAgg C rfl rfl rfl isAgg25 sizeOf25 (by repeat (first | exact Mh | apply Mt)) Tk5 <| Rf C 3 rfl rfl runUnderlying58 rfl sizeOf3 <| R.loadOne C rfl rfl rfl isAgg3 (by repeat (first | exact Mh | apply Mt)) rfl <| R.callP C rfl rfl rfl rfl (isCompassR_c hJ hvv hs0 _) <| R.not C rfl rfl rfl <| R.done C <| X.cond C.1 rfl (fun hk => ?_) (fun hk => ?_)
                · have hk := hk
                  refine Xr C rfl rfl <| Ad C rfl rfl <| Xt C func25 <| Hp hret ?_
                  simp at hg2 hd hk
                  simp [hg2, hd, there, hk] at hr
                  rw [hcc]
                  simp [Bk.witnessesH, retVal, ← hr]; omega
                · have hk := hk
                  refine X.skip C.1 <| X.inBlock C.1 <| X.region C rfl rfl <| Rm C rfl rfl <| R.int C rfl rfl rfl rfl (b_add (by omega) (by omega)) <| Ad C rfl rfl ?_
                  simp at hg2 hd hk
                  simp [hg2, hd, there, hk] at hr
                  refine X.weak C.1 (Weak.sub (List.sublist_cons_self _ _)) (X.weaken ?_ (hnext2 (i + 1) ⟨by omega, hr⟩ (by omega)))
                  exact ⟨rfl, by simp [look], trivial⟩
          · have hlt2 := hlt2
            simp only [decide_eq_false_iff_not] at hlt2
            obtain rfl : i = b.ws.length := by omega
            simp [wtsH] at hr
            refine X.exit C.1 rfl <| Xr C rfl rfl <| Ad C rfl rfl <| Xt C func25 <| Hp hret ?_
            rw [hcc]
            simp [Bk.witnessesH, retVal, ← hr]; omega
  · have hone : b.chart = 1 := by
      simp only [Bk.chart] at hch ⊢
      split at hch
      · rename_i h; rw [if_pos h]
      · exact absurd rfl hch
    have hcc : checkChart b = 1 := by rw [checkChart, if_pos hch, hone]
    have hany : (!between b.w 2 7 || !between b.h 2 7 || !between b.f 0 2) = true := by
      simp only [Bk.chart] at hch
      split at hch
      · assumption
      · exact absurd rfl hch
    by_cases g1 : between b.w 2 7 = true
    · by_cases g2 : between b.h 2 7 = true
      · have g3 : between b.f 0 2 = false := by simpa [g1, g2] using hany
        refine CallP.intro hJ (by kernel_rfl) fun c cs tail hret => enter_X (n := 82) func25 rfl rfl (Nl rfl) ?_
        have C : Ctx prog main J (bf 25 .normal) := ⟨hJ, by decide⟩
        refine Xr C rfl rfl <| R.box C rfl rfl rfl rfl fun p1 => Ad C rfl rfl <| Xs C <| Xr C rfl rfl <| Rf C 0 rfl rfl runUnderlying25 rfl sizeOf3 <| R.loadOne C rfl rfl rfl isAgg3 (by repeat (first | exact Mh | apply Mt)) rfl <| R.callP C rfl rfl rfl rfl (betweenR_c hJ _ _ _ _) <| R.not C rfl rfl rfl <| R.fixv (t := 10) (v' := .bool false) rfl (by (rw [g1]; rfl)) <| Rm C rfl rfl <| Rf C 1 rfl rfl runUnderlying25 rfl sizeOf3 <| R.loadOne C rfl rfl rfl isAgg3 (by repeat (first | exact Mh | apply Mt)) rfl <| R.callP C rfl rfl rfl rfl (betweenR_c hJ _ _ _ _) <| R.not C rfl rfl rfl <| R.fixv (t := 15) (v' := .bool false) rfl (by (rw [g2]; rfl)) <| R.pickF C rfl rfl rfl rfl <| Rm C rfl rfl <| Rf C 2 rfl rfl runUnderlying25 rfl sizeOf3 <| R.loadOne C rfl rfl rfl isAgg3 (by repeat (first | exact Mh | apply Mt)) rfl <| R.callP C rfl rfl rfl rfl (betweenR_c hJ _ _ _ _) <| R.not C rfl rfl rfl <| R.fixv (t := 21) (v' := .bool true) rfl (by (rw [g3]; rfl)) <| R.pickF C rfl rfl rfl rfl <| R.done C <| X.cond C.1 rfl (fun _ => ?_) (fun h => nomatch h)
        refine Xr C rfl rfl <| Ad C rfl rfl <| Xt C func25 <| Hp hret ?_
        rw [hcc]; rfl
      · have g2 : between b.h 2 7 = false := by simpa using g2
        refine CallP.intro hJ (by kernel_rfl) fun c cs tail hret => enter_X (n := 82) func25 rfl rfl (Nl rfl) ?_
        have C : Ctx prog main J (bf 25 .normal) := ⟨hJ, by decide⟩
        refine Xr C rfl rfl <| R.box C rfl rfl rfl rfl fun p1 => Ad C rfl rfl <| Xs C <| Xr C rfl rfl <| Rf C 0 rfl rfl runUnderlying25 rfl sizeOf3 <| R.loadOne C rfl rfl rfl isAgg3 (by repeat (first | exact Mh | apply Mt)) rfl <| R.callP C rfl rfl rfl rfl (betweenR_c hJ _ _ _ _) <| R.not C rfl rfl rfl <| R.fixv (t := 10) (v' := .bool false) rfl (by (rw [g1]; rfl)) <| Rm C rfl rfl <| Rf C 1 rfl rfl runUnderlying25 rfl sizeOf3 <| R.loadOne C rfl rfl rfl isAgg3 (by repeat (first | exact Mh | apply Mt)) rfl <| R.callP C rfl rfl rfl rfl (betweenR_c hJ _ _ _ _) <| R.not C rfl rfl rfl <| R.fixv (t := 15) (v' := .bool true) rfl (by (rw [g2]; rfl)) <| R.pickF C rfl rfl rfl rfl <| Rm C rfl rfl <| R.pass C rfl rfl <| R.pass C rfl rfl <| R.pass C rfl rfl <| R.pass C rfl rfl <| R.pickT C rfl rfl rfl rfl <| R.done C <| X.cond C.1 rfl (fun _ => ?_) (fun h => nomatch h)
        refine Xr C rfl rfl <| Ad C rfl rfl <| Xt C func25 <| Hp hret ?_
        rw [hcc]; rfl
    · have g1 : between b.w 2 7 = false := by simpa using g1
      refine CallP.intro hJ (by kernel_rfl) fun c cs tail hret => enter_X (n := 82) func25 rfl rfl (Nl rfl) ?_
      have C : Ctx prog main J (bf 25 .normal) := ⟨hJ, by decide⟩
      refine Xr C rfl rfl <| R.box C rfl rfl rfl rfl fun p1 => Ad C rfl rfl <| Xs C <| Xr C rfl rfl <| Rf C 0 rfl rfl runUnderlying25 rfl sizeOf3 <| R.loadOne C rfl rfl rfl isAgg3 (by repeat (first | exact Mh | apply Mt)) rfl <| R.callP C rfl rfl rfl rfl (betweenR_c hJ _ _ _ _) <| R.not C rfl rfl rfl <| R.fixv (t := 10) (v' := .bool true) rfl (by (rw [g1]; rfl)) <| Rm C rfl rfl <| R.pass C rfl rfl <| R.pass C rfl rfl <| R.pass C rfl rfl <| R.pass C rfl rfl <| R.pickT C rfl rfl rfl rfl <| Rm C rfl rfl <| R.pass C rfl rfl <| R.pass C rfl rfl <| R.pass C rfl rfl <| R.pass C rfl rfl <| R.pickT C rfl rfl rfl rfl <| R.done C <| X.cond C.1 rfl (fun _ => ?_) (fun h => nomatch h)
      refine Xr C rfl rfl <| Ad C rfl rfl <| Xt C func25 <| Hp hret ?_
      rw [hcc]; rfl
end
end Go.Lg.B
namespace Go.Lg.B
open Go Go.Conc Go.Lg Go.Proofs Go.Proofs.Tryz
theorem ic_at {l : List Int} {off : Nat} {ll : List Value} (hsub : ∀ i (hi : i < l.length), Sub (off + i * 1) 1 ll (ic l[i])) {i : Nat} (hi : i < l.length) : ll[off + i * 1]? = some (.int .i64 l[i]) := by
  have := (hsub i hi).get 0 (by decide)
  simpa [ic] using this
section
variable {main : Bool} {J : Goroutine → Mem → Prop} (hJ : Closed prog main J)
include hJ
theorem holdsR_c {v : Value} {ro : RO} {l : List Int} (hl : LsI ro v l) (hn : l.length ≤ 1000000) (n : Int) : CallP prog J (fnv 54) [v, .int .i64 n] ro (.bool (l.contains n)) := by
  obtain ⟨lb, lc, rfl⟩ := hl.form
  refine CallP.intro hJ (by kernel_rfl) fun c cs tail hret => enter_X (n := 18) func54 rfl rfl (Nl rfl) ?_
  have C : Ctx prog main J (bf 54 .normal) := ⟨hJ, by decide⟩
  refine Xr C rfl rfl <| Ad C rfl rfl <| Xs C <| Xr C rfl rfl <| Ad C rfl rfl <| X.block C.1 <| X.loopI (ι := Nat) C.1 (fun i => i ≤ l.length ∧ l.contains n = (l.drop i).contains n) (fun i => [(0, .slice lb l.length lc), (1, .int .i64 n), (5, .int .i64 (i : Int))])
    (fun _ => ⟨ro, tail⟩) (fun i => l.length - i) 0 ⟨Nat.zero_le _, rfl⟩ rfl ⟨rfl, rfl, rfl, trivial⟩ fun i hi hnext => ?_
  obtain ⟨hi, hr⟩ := hi
  refine Xs C <| Xr C rfl rfl <| Rm C rfl rfl <| Rm C rfl rfl <| R.lenSlice C rfl rfl rfl runUnderlying28 <| R.int C rfl rfl rfl rfl b_lss <| R.done C <| X.cond C.1 rfl (fun hlt => ?_) (fun hlt => ?_)
  · have hlt := hlt
    simp only [decide_eq_true_eq] at hlt
    have hi' : i < l.length := by omega
    obtain ⟨pp, off, cap, ll, t, fq, hsl, hrop, hsub⟩ := hl.at ic_len (by omega)
    cases hsl
    have hx := ic_at hsub hi'
    rw [List.drop_eq_getElem_cons hi', List.contains_cons] at hr
    refine X.skip C.1 <| Xs C <| X.block C.1 <| Xr C rfl rfl <| Rm C rfl rfl <| Rm C rfl rfl <| Rx C rfl rfl rfl runUnderlying28 sizeOf3 <| R.loadOneRo C rfl rfl rfl isAgg3 hrop hx <| Rm C rfl rfl <| R.int C rfl rfl rfl rfl b_eql <| R.done C <| X.cond C.1 rfl (fun he => ?_) (fun he => ?_)
    · have he := he
      have he2 : l[i] = n := by simpa using he
      rw [he2, beq_self_eq_true, Bool.true_or] at hr
      refine Xr C rfl rfl <| Ad C rfl rfl <| Xt C func54 <| Hp hret ?_
      rw [hr]; rfl
    · have he := he
      have he2 : l[i] ≠ n := by simpa using he
      rw [beq_eq_false_iff_ne.2 (Ne.symm he2), Bool.false_or] at hr
      refine X.skip C.1 <| X.inBlock C.1 <| X.region C rfl rfl <| Rm C rfl rfl <| R.int C rfl rfl rfl rfl (b_add (by omega) (by omega)) <| Ad C rfl rfl <| X.weaken ?_ (hnext (i + 1) ⟨hi', hr⟩ (by omega))
      exact ⟨rfl, rfl, by simp [look], trivial⟩
  · have hlt := hlt
    simp only [decide_eq_false_iff_not] at hlt
    obtain rfl : i = l.length := by omega
    rw [List.drop_length] at hr
    refine X.exit C.1 rfl <| Xr C rfl rfl <| Ad C rfl rfl <| Xt C func54 <| Hp hret ?_
    rw [hr]; rfl
end
end Go.Lg.B
namespace Go.Lg.B
open Go Go.Conc Go.Lg Go.Proofs Go.Proofs.Tryz
def ext (most : Int) (i : Nat) (l : List (List Int)) : List (List Int) := (l.filter fun x => decide ((x.length : Int) < most)).map fun x => x ++ [(i : Int)]
def sets (most : Int) : Nat → List (List Int)
  | 0 => [[]]
  | i + 1 => sets most i ++ ext most i (sets most i)
abbrev LE := Value × List Int
def le (p : LE) : List Value := [p.1]
section
variable {main : Bool} {J : Goroutine → Mem → Prop} (hJ : Closed prog main J)
include hJ
end
end Go.Lg.B
namespace Go.Lg.B
open Go Go.Conc Go.Lg Go.Proofs Go.Proofs.Tryz
def sqAt (w : Int) (n : Nat) : Sq := ⟨(n : Int) % w, (n : Int) / w⟩
def squares (b : Bk) : List Sq := (List.range (b.w * b.h).toNat).map (sqAt b.w)
section
variable {main : Bool} {J : Goroutine → Mem → Prop} (hJ : Closed prog main J)
include hJ
end
end Go.Lg.B
namespace Go.Lg.B
open Go Go.Conc Go.Lg Go.Proofs Go.Proofs.Tryz
def wideRc (x : Rc) : Nat := (x.hi + 1 - x.lo).toNat
def offsStep (x : Rc) (l : List (List Int)) : List (List Int) := l.flatMap fun o => (rz x.lo (wideRc x)).map fun n => o ++ [n]
def offsAll (l : List Rc) : List (List Int) := l.foldl (fun a x => offsStep x a) [[]]
theorem offsAll_succ (l : List Rc) {i : Nat} (h : i < l.length) : offsAll (l.take (i + 1)) = offsStep l[i] (offsAll (l.take i)) := by
  unfold offsAll
  rw [List.take_add_one, List.getElem?_eq_getElem h, List.foldl_append]
  rfl
theorem offsAll_each (l : List Rc) : ∀ i, i ≤ l.length → ∀ o ∈ offsAll (l.take i), o.length = i
  | 0, _, o, ho => by simp [offsAll] at ho; simp [ho]
  | i + 1, hi, o, ho => by
    rw [offsAll_succ l (by omega)] at ho
    obtain ⟨o', h1, h2⟩ := List.mem_flatMap.1 ho
    obtain ⟨n, _, rfl⟩ := List.mem_map.1 h2
    have := offsAll_each l i (by omega) o' h1
    simp [this]
section
variable {main : Bool} {J : Goroutine → Mem → Prop} (hJ : Closed prog main J)
include hJ
end
end Go.Lg.B
namespace Go.Lg.B
open Go Go.Conc Go.Lg Go.Proofs Go.Proofs.Tryz
abbrev CE := (Value × Value) × Cs
def ce (p : CE) : List Value := [.int .i64 p.2.s.e, .int .i64 p.2.s.n, p.1.1, p.1.2]
def LC (ro : RO) (v : Value) (l : List Cs) : Prop := ∃ xs : List CE, Ls ce 4 ro v xs ∧ xs.map (·.2) = l ∧ ∀ p ∈ xs, LsI ro p.1.1 p.2.o ∧ LsI ro p.1.2 p.2.f
def allR (b : Bk) (c : Cs) : Bool := (List.range b.ws.length).all fun i => c.f.contains (i : Int) || right (b.wt i) c.aim
def withAt (b : Bk) (l : List Int) (s : Sq) (os : List (List Int)) : List Cs := (os.filter fun o => allR b ⟨s, o, l⟩).map fun o => ⟨s, o, l⟩
def withFalse (b : Bk) (l : List Int) : List Cs := (squares b).flatMap fun s => withAt b l s (offsAll b.cs)
theorem squares_len {b : Bk} (hb : b.good) : (squares b).length ≤ 49 := by
  have hw := hb.w
  have hh := hb.h
  have h49 : b.w * b.h ≤ 49 := by
    have : b.w * b.h ≤ 7 * 7 := Int.mul_le_mul hw.2 hh.2 (by omega) (by decide)
    omega
  simp [squares]; omega
section
variable {main : Bool} {J : Goroutine → Mem → Prop} (hJ : Closed prog main J)
include hJ
end
end Go.Lg.B
namespace Go.Lg.B
open Go Go.Conc Go.Lg Go.Proofs Go.Proofs.Tryz
def noSure (b : Bk) (l : List Int) : Bool := !(l.any fun k => (b.wt k.toNat).sure)
def casesL (b : Bk) : List Cs := ((sets b.f b.ws.length).filter (noSure b)).flatMap (withFalse b)
theorem LC.mono {ro ro' : RO} {v : Value} {l : List Cs} (h : LC ro v l) (hl : ro.le ro') : LC ro' v l := by
  obtain ⟨xs, h1, h2, h3⟩ := h
  exact ⟨xs, h1.mono hl, h2, fun p hp => ⟨(h3 p hp).1.mono hl, (h3 p hp).2.mono hl⟩⟩
def knownH (b : Bk) (there : Bool) : Int := if checkChart b ≠ 0 then checkChart b else if there = false then 6 else if casesL b = [] then 9 else 0
section
variable {main : Bool} {J : Goroutine → Mem → Prop} (hJ : Closed prog main J)
include hJ
end
end Go.Lg.B
namespace Go.Lg.B
open Go Go.Conc Go.Lg Go.Proofs Go.Proofs.Tryz
theorem flatMap_two {α β : Type} (g h : α → List β) : ∀ l : List α, (l.flatMap g ++ l.flatMap h).Perm (l.flatMap fun x => g x ++ h x)
  | [] => .refl _
  | x :: l => by
    have ih := flatMap_two g h l
    simp only [List.flatMap_cons]
    have e1 : (g x ++ l.flatMap g ++ (h x ++ l.flatMap h)).Perm (g x ++ (h x ++ (l.flatMap g ++ l.flatMap h))) := by
      rw [List.append_assoc]
      refine List.Perm.append_left _ ?_
      rw [← List.append_assoc, ← List.append_assoc]
      exact List.Perm.append_right _ List.perm_append_comm
    refine e1.trans ?_
    rw [List.append_assoc (g x) (h x)]
    exact List.Perm.append_left _ (List.Perm.append_left _ ih)
theorem flatMap_swap {α β γ : Type} (f : α → β → List γ) (m : List β) : ∀ l : List α, (l.flatMap fun x => m.flatMap fun y => f x y).Perm (m.flatMap fun y => l.flatMap fun x => f x y)
  | [] => by
    have : (m.flatMap fun y => ([] : List α).flatMap fun x => f x y) = [] := by simp
    rw [this]; exact .refl _
  | x :: l => by
    simp only [List.flatMap_cons]
    exact (List.Perm.append_left _ (flatMap_swap f m l)).trans (flatMap_two _ _ m)
theorem filter_as_flat {α β : Type} (p : α → Bool) (f : α → β) : ∀ l : List α, (l.filter p).map f = l.flatMap fun x => if p x = true then [f x] else []
  | [] => rfl
  | x :: l => by
    have ih := filter_as_flat p f l
    by_cases h : p x = true
    · simp [h, ih]
    · simp [h, ih]
theorem flat_filter {α β : Type} (p : α → Bool) (f : α → List β) : ∀ l : List α, (l.filter p).flatMap f = l.flatMap fun x => if p x = true then f x else []
  | [] => rfl
  | x :: l => by
    have ih := flat_filter p f l
    by_cases h : p x = true
    · simp [h, ih]
    · simp [h, ih]
theorem flat_congr {α β : Type} {f g : α → List β} : ∀ {l : List α}, (∀ x ∈ l, f x = g x) → l.flatMap f = l.flatMap g
  | [], _ => rfl
  | x :: l, h => by simp only [List.flatMap_cons, h x List.mem_cons_self, flat_congr fun y hy => h y (List.mem_cons_of_mem _ hy)]
theorem perm_flat {α β : Type} (f : α → List β) {l m : List α} (h : l.Perm m) : (l.flatMap f).Perm (m.flatMap f) := by
  induction h with
  | nil => exact .refl _
  | cons x _ ih => simp only [List.flatMap_cons]; exact List.Perm.append_left _ ih
  | swap x y l =>
    simp only [List.flatMap_cons, ← List.append_assoc]
    exact List.Perm.append_right _ List.perm_append_comm
  | trans _ _ h1 h2 => exact h1.trans h2
theorem sets_iff {most : Int} (hm : 0 ≤ most) : ∀ (n : Nat) (l : List Int), l ∈ sets most n ↔ List.Pairwise (· < ·) l ∧ (∀ k ∈ l, 0 ≤ k ∧ k < (n : Int)) ∧ (l.length : Int) ≤ most
  | 0, l => by
    simp only [sets, List.mem_singleton]
    constructor
    · rintro rfl; simp [hm]
    · rintro ⟨_, h2, _⟩
      cases l with
      | nil => rfl
      | cons x l => have := h2 x List.mem_cons_self; omega
  | n + 1, l => by
    simp only [sets, List.mem_append, ext, List.mem_map, List.mem_filter, decide_eq_true_eq]
    constructor
    · rintro (h | ⟨x, ⟨hx, hlt⟩, rfl⟩)
      · obtain ⟨h1, h2, h3⟩ := (sets_iff hm n l).1 h
        exact ⟨h1, fun k hk => by have := h2 k hk; omega, h3⟩
      · obtain ⟨h1, h2, h3⟩ := (sets_iff hm n x).1 hx
        refine ⟨List.pairwise_append.2 ⟨h1, List.pairwise_singleton _ _, fun a ha c hc => ?_⟩, fun k hk => ?_, ?_⟩
        · rw [List.mem_singleton.1 hc]; exact (h2 a ha).2
        · rcases List.mem_append.1 hk with hk | hk
          · have := h2 k hk; omega
          · rw [List.mem_singleton.1 hk]; omega
        · simp; omega
    · rintro ⟨h1, h2, h3⟩
      rcases List.eq_nil_or_concat l with rfl | ⟨x, k, rfl⟩
      · exact .inl ((sets_iff hm n []).2 ⟨.nil, by simp, by simpa using hm⟩)
      · rw [List.concat_eq_append] at h1 h2 h3 ⊢
        obtain ⟨p1, _, p3⟩ := List.pairwise_append.1 h1
        have hk := h2 k (by simp)
        have hx : ∀ a ∈ x, a < k := fun a ha => p3 a ha k (by simp)
        simp only [List.length_append, List.length_cons, List.length_nil] at h3
        by_cases e : k = n
        · subst e
          exact .inr ⟨x, ⟨(sets_iff hm n x).2 ⟨p1, fun a ha => ⟨(h2 a (by simp [ha])).1, hx a ha⟩, by omega⟩, by omega⟩, rfl⟩
        · refine .inl ((sets_iff hm n _).2 ⟨h1, fun a ha => ⟨(h2 a ha).1, ?_⟩, by simp; omega⟩)
          rcases List.mem_append.1 ha with ha | ha
          · have := hx a ha; omega
          · rw [List.mem_singleton.1 ha]; omega
theorem sets_nodup {most : Int} (hm : 0 ≤ most) : ∀ n, (sets most n).Nodup
  | 0 => by simp [sets]
  | n + 1 => by
    have ih := sets_nodup hm n
    refine List.nodup_append.2 ⟨ih, ?_, fun a ha c hc => ?_⟩
    · unfold ext
      refine List.pairwise_map.2 ((ih.filter _).imp fun h e => h (List.append_cancel_right e))
    · obtain ⟨x, _, rfl⟩ := List.mem_map.1 hc
      rintro rfl
      have := ((sets_iff hm n _).1 ha).2.1 (n : Int) (by simp)
      omega
def maskL (n : Nat) (l : List Int) : Nat := maskOf (fun i => l.contains (i : Int)) n
theorem maskL_bit {n : Nat} {l : List Int} (h : ∀ k ∈ l, 0 ≤ k ∧ k < (n : Int)) (i : Nat) : (maskL n l).testBit i = l.contains (i : Int) := by
  rw [maskL, maskOf_bit]
  by_cases hi : i < n
  · simp [hi]
  · have : l.contains (i : Int) = false := by
      rw [Bool.eq_false_iff]; intro hc
      have := h _ (by simpa using hc); omega
    rw [this]; simp
def okM (b : Bk) (m : Nat) : Bool := m &&& sureM b == 0 && decide (((listOf m).length : Int) ≤ b.f)
theorem ups_nodup : ∀ (m n : Nat), (ups n m).Nodup
  | 0, _ => by simp [ups]
  | m + 1, n => by
    simp only [ups, List.nodup_cons]
    exact ⟨fun h => by rw [ups_iff] at h; omega, ups_nodup m (n + 1)⟩
theorem listOf_maskL {n : Nat} (hn : n ≤ 5) {l : List Int} (h1 : List.Pairwise (· < ·) l) (h2 : ∀ k ∈ l, 0 ≤ k ∧ k < (n : Int)) : listOf (maskL n l) = l :=
  listOf_eq h1 (fun k hk => by have := h2 k hk; omega) (maskL_bit h2)
theorem noSure_mask {b : Bk} {l : List Int} (h : ∀ k ∈ l, 0 ≤ k ∧ k < (b.ws.length : Int)) : (maskL b.ws.length l &&& sureM b == 0) = noSure b l := by
  rw [Bool.eq_iff_iff, and_zero]
  simp only [maskL_bit h, sureM, maskOf_bit, noSure, Bool.not_eq_true', List.any_eq_false, Bool.not_eq_true]
  constructor
  · intro hh k hk
    obtain ⟨g1, g2⟩ := h k hk
    have := hh k.toNat (by rw [show ((k.toNat : Nat) : Int) = k by omega]; simpa using hk)
    rwa [decide_eq_true (by omega), Bool.true_and] at this
  · intro hh i hi
    have hm : (i : Int) ∈ l := by simpa using hi
    have := hh _ hm
    rw [show ((i : Int)).toNat = i by omega] at this
    rw [this]; simp
theorem masks_perm {b : Bk} (hb : b.good) : ((ups 0 (2 ^ b.ws.length)).filter (okM b)).Perm (((sets b.f b.ws.length).filter (noSure b)).map (maskL b.ws.length)) := by
  have hf := hb.f
  have hn := hb.nw
  refine (List.perm_ext_iff_of_nodup ((ups_nodup _ _).filter _) ?_).2 fun m => ?_
  · refine List.pairwise_map.2 (List.Pairwise.imp_of_mem (fun {a c} ha hc hne e => hne ?_) ((sets_nodup hf.1 b.ws.length).filter (noSure b)))
    obtain ⟨a1, a2, _⟩ := (sets_iff hf.1 _ _).1 (List.mem_filter.1 ha).1
    obtain ⟨c1, c2, _⟩ := (sets_iff hf.1 _ _).1 (List.mem_filter.1 hc).1
    rw [← listOf_maskL hn a1 a2, e, listOf_maskL hn c1 c2]
  · simp only [List.mem_filter, List.mem_map, ups_iff, okM, Bool.and_eq_true, decide_eq_true_eq]
    constructor
    · rintro ⟨⟨_, h1⟩, h2, h3⟩
      have hr : ∀ k ∈ listOf m, 0 ≤ k ∧ k < (b.ws.length : Int) := fun k hk => by
        obtain ⟨i, _, hi, rfl⟩ := (bits_mem m k 5).1 hk
        refine ⟨by omega, ?_⟩
        by_cases hlt : i < b.ws.length
        · omega
        · have : m.testBit i = false := Nat.testBit_lt_two_pow (Nat.lt_of_lt_of_le (by simpa using h1) (Nat.pow_le_pow_right (by decide) (by omega)))
          rw [this] at hi; cases hi
      have hm : maskL b.ws.length (listOf m) = m := by
        refine Nat.eq_of_testBit_eq fun i => ?_
        rw [maskL_bit hr, Bool.eq_iff_iff]
        simp only [List.contains_eq_mem, decide_eq_true_eq]
        constructor
        · intro h
          obtain ⟨j, _, hj, e⟩ := (bits_mem m _ 5).1 h
          have : i = j := by omega
          rw [this]; exact hj
        · intro h
          refine (bits_mem m _ 5).2 ⟨i, ?_, h, rfl⟩
          by_cases hlt : i < 5
          · exact hlt
          · have : m.testBit i = false := Nat.testBit_lt_two_pow (Nat.lt_of_lt_of_le (by simpa using h1) (Nat.pow_le_pow_right (by decide) (by omega)))
            rw [this] at h; cases h
      refine ⟨listOf m, ⟨(sets_iff hf.1 _ _).2 ⟨bits_up m 5, hr, h3⟩, ?_⟩, hm⟩
      rw [← noSure_mask hr, hm]; exact h2
    · rintro ⟨l, ⟨h1, h2⟩, rfl⟩
      obtain ⟨a1, a2, a3⟩ := (sets_iff hf.1 _ _).1 h1
      refine ⟨⟨Nat.zero_le _, by simpa [maskL] using maskOf_lt _ _⟩, by rw [noSure_mask a2]; exact h2, by rw [listOf_maskL hn a1 a2]; exact a3⟩
theorem aims_eq {b : Bk} (hb : b.good) : aims b = (squares b).flatMap fun s => (offsAll b.cs).map fun o => Cs.aim ⟨s, o, []⟩ := by
  have hnc := hb.nc
  have hu : ∀ m, ups 0 m = List.range m := by
    have key : ∀ m n, ups n m = (List.range m).map (· + n) := by
      intro m
      induction m with
      | zero => intro n; rfl
      | succ m ih =>
        intro n
        rw [ups, ih, List.range_succ_eq_map, List.map_cons, List.map_map]
        simp only [Nat.zero_add, List.cons.injEq, true_and]
        refine List.map_congr_left fun x _ => ?_
        simp only [Function.comp]; omega
    intro m; rw [key]; simp
  obtain ⟨w, h, f, cs, ws⟩ := b
  unfold aims squares
  rw [hu, List.flatMap_map]
  refine flat_congr fun n _ => ?_
  have s0 : ∀ (a : Aim) (n : Int), a.set ((0 : Nat) : Int) n = { a with x := n } := fun _ _ => rfl
  have s1 : ∀ (a : Aim) (n : Int), a.set ((0 + 1 : Nat) : Int) n = { a with y := n } := fun _ _ => rfl
  have s2 : ∀ (a : Aim) (n : Int), a.set ((0 + 1 + 1 : Nat) : Int) n = { a with z := n } := fun _ _ => rfl
  simp only at hnc ⊢
  match cs, hnc with
  | [x], _ => simp [offs, offsAll, offsStep, s0, aimAt, Cs.aim, sqAt, wideRc, List.map_eq_flatMap, List.flatMap_assoc]; rfl
  | [x, y], _ => simp [offs, offsAll, offsStep, s0, s1, aimAt, Cs.aim, sqAt, wideRc, List.map_eq_flatMap, List.flatMap_assoc]; rfl
  | [x, y, z], _ => simp [offs, offsAll, offsStep, s0, s1, s2, aimAt, Cs.aim, sqAt, wideRc, List.map_eq_flatMap, List.flatMap_assoc]; rfl
def lotOf (b : Bk) (c : Cs) : Lot := ⟨c.aim, maskL b.ws.length c.f⟩
theorem okA_mask {b : Bk} {l : List Int} (h : ∀ k ∈ l, 0 ≤ k ∧ k < (b.ws.length : Int)) (s : Sq) (o : List Int) : (andNot (odd b (Cs.aim ⟨s, o, l⟩)) (maskL b.ws.length l) == 0) = allR b ⟨s, o, l⟩ := by
  rw [Bool.eq_iff_iff, andNot_zero]
  simp only [odd, maskOf_bit, maskL_bit h, Bool.and_eq_true, decide_eq_true_eq, allR, List.all_eq_true, List.mem_range, Bool.or_eq_true, Bool.not_eq_true']
  constructor
  · intro hh i hi
    cases hr : right (b.wt i) (Cs.aim ⟨s, o, l⟩)
    · exact .inl (hh i ⟨hi, hr⟩)
    · exact .inr rfl
  · rintro hh i ⟨hi, hr⟩
    rcases hh i hi with h1 | h1
    · exact h1
    · rw [hr] at h1; cases h1
theorem cases_perm {b : Bk} (hb : b.good) : ((casesL b).map (lotOf b)).Perm (cases b) := by
  have e1 : cases b = (aims b).flatMap fun a => (ups 0 (2 ^ b.ws.length)).flatMap fun m => if okMask b a m = true then [⟨a, m⟩] else [] := by
    unfold cases lots
    refine flat_congr fun a _ => ?_
    exact filter_as_flat _ _ _
  rw [e1]
  refine List.Perm.trans ?_ (flatMap_swap (fun a m => if okMask b a m = true then [(⟨a, m⟩ : Lot)] else []) (ups 0 (2 ^ b.ws.length)) (aims b)).symm
  have e2 : ((ups 0 (2 ^ b.ws.length)).flatMap fun m => (aims b).flatMap fun a => if okMask b a m = true then [(⟨a, m⟩ : Lot)] else []) = ((ups 0 (2 ^ b.ws.length)).filter (okM b)).flatMap fun m => (aims b).flatMap fun a => if (andNot (odd b a) m == 0) = true then [(⟨a, m⟩ : Lot)] else [] := by
    rw [flat_filter]
    refine flat_congr fun m _ => ?_
    by_cases h : okM b m = true
    · rw [if_pos h]
      refine flat_congr fun a _ => ?_
      have : okMask b a m = (andNot (odd b a) m == 0) := by
        have h' : (m &&& sureM b == 0 && decide (((listOf m).length : Int) ≤ b.f)) = true := h
        rw [okMask, h', Bool.and_true]
      rw [this]
    · rw [if_neg h]
      have : ∀ a, okMask b a m = false := fun a => by
        have h' : (m &&& sureM b == 0 && decide (((listOf m).length : Int) ≤ b.f)) = false := by simpa [okM] using h
        rw [okMask, h', Bool.and_false]
      simp [this]
  rw [e2]
  refine List.Perm.trans ?_ (perm_flat _ (masks_perm hb)).symm
  rw [List.flatMap_map, casesL, List.map_flatMap]
  refine List.Perm.of_eq (flat_congr fun l hl => ?_)
  obtain ⟨_, a2, _⟩ := (sets_iff hb.f.1 _ _).1 (List.mem_filter.1 hl).1
  rw [aims_eq hb, List.flatMap_assoc, withFalse, List.map_flatMap]
  refine flat_congr fun s _ => ?_
  rw [withAt, List.map_map, filter_as_flat, List.flatMap_map]
  refine flat_congr fun o _ => ?_
  have e3 : Cs.aim ⟨s, o, []⟩ = Cs.aim ⟨s, o, l⟩ := rfl
  rw [e3, okA_mask a2]
  rfl
end Go.Lg.B
namespace Go.Lg.B
open Go Go.Conc Go.Lg Go.Proofs Go.Proofs.Tryz
def wheresR (b : Bk) : List Sq := if knownH b true ≠ 0 then [] else (squares b).filter fun s => (casesL b).any fun c => decide (c.s = s)
theorem known_good {b : Bk} {th : Bool} (h : knownH b th = 0) : b.good ∧ th = true ∧ casesL b ≠ [] := by
  unfold knownH at h
  by_cases h1 : checkChart b ≠ 0
  · rw [if_pos h1] at h; exact absurd h h1
  · rw [if_neg h1] at h
    by_cases h2 : th = false
    · rw [if_pos h2] at h; cases h
    · rw [if_neg h2] at h
      by_cases h3 : casesL b = []
      · rw [if_pos h3] at h; cases h
      · exact ⟨good_iff.1 (by simpa using h1), by simpa using h2, h3⟩
section
variable {main : Bool} {J : Goroutine → Mem → Prop} (hJ : Closed prog main J)
include hJ
end
section
variable {main : Bool} {J : Goroutine → Mem → Prop} (hJ : Closed prog main J)
include hJ
end
end Go.Lg.B
namespace Go.Lg.B
open Go Go.Conc Go.Lg Go.Proofs Go.Proofs.Tryz
theorem cases_len_eq {b : Bk} (hb : b.good) : (casesL b).length = (cases b).length := by
  have := (cases_perm hb).length_eq
  rwa [List.length_map] at this
theorem cases_nil_iff {b : Bk} (hb : b.good) : casesL b = [] ↔ cases b = [] := by
  have := cases_len_eq hb
  constructor
  · intro h; rw [h] at this; exact List.eq_nil_of_length_eq_zero this.symm
  · intro h; rw [h] at this; exact List.eq_nil_of_length_eq_zero this
theorem known_open (b : Bk) (th : Bool) : knownH b th = openH b (there th) := by
  unfold knownH openH
  by_cases h1 : checkChart b ≠ 0
  · rw [if_pos h1, if_pos h1]
  · rw [if_neg h1, if_neg h1]
    have hg := good_iff.1 (show checkChart b = 0 by simpa using h1)
    cases th
    · rfl
    · simp only [there, if_true]
      by_cases h : cases b = []
      · simp [h, (cases_nil_iff hg).2 h]
      · simp [h, mt (cases_nil_iff hg).1 h]
theorem known_open0 (b : Bk) : knownH b true = openH b 0 := known_open b true
theorem addNew_block (s : Sq) : ∀ (l acc : List Sq), (∀ x ∈ l, x = s) → s ∈ acc → l.foldl addNew acc = acc
  | [], _, _, _ => rfl
  | x :: l, acc, h, hs => by
    have hx := h x List.mem_cons_self
    subst hx
    rw [List.foldl_cons, addNew, if_pos hs]
    exact addNew_block x l acc (fun y hy => h y (List.mem_cons_of_mem _ hy)) hs
theorem firsts_blocks (g : Sq → List Sq) : ∀ (S acc : List Sq), S.Nodup → (∀ s ∈ S, s ∉ acc) → (∀ s ∈ S, ∀ x ∈ g s, x = s) → (S.flatMap g).foldl addNew acc = acc ++ S.filter fun s => !(g s).isEmpty
  | [], acc, _, _, _ => by simp
  | s :: S, acc, hn, hd, hg => by
    rw [List.flatMap_cons, List.foldl_append]
    obtain ⟨n1, n2⟩ := List.nodup_cons.1 hn
    have hgs := hg s List.mem_cons_self
    cases hc : g s with
    | nil =>
      rw [List.foldl_nil, firsts_blocks g S acc n2 (fun x hx => hd x (List.mem_cons_of_mem _ hx)) (fun x hx => hg x (List.mem_cons_of_mem _ hx))]
      simp [hc]
    | cons y l =>
      rw [hc] at hgs
      have hy := hgs y List.mem_cons_self
      subst hy
      rw [List.foldl_cons, addNew, if_neg (hd y List.mem_cons_self), addNew_block y l (acc ++ [y]) (fun x hx => hgs x (List.mem_cons_of_mem _ hx)) (by simp),
        firsts_blocks g S (acc ++ [y]) n2 (fun x hx => ?_) (fun x hx => hg x (List.mem_cons_of_mem _ hx))]
      · simp [hc]
      · intro h
        rcases List.mem_append.1 h with h | h
        · exact hd x (List.mem_cons_of_mem _ hx) h
        · rw [List.mem_singleton.1 h] at hx; exact n1 hx
theorem squares_nodup {b : Bk} (hb : b.good) : (squares b).Nodup := by
  have hw := hb.w
  unfold squares
  refine List.pairwise_map.2 (List.nodup_range.imp fun {n m} hne e => hne ?_)
  simp only [sqAt, Sq.mk.injEq] at e
  have h1 := Int.emod_add_mul_ediv (n : Int) b.w
  have h2 := Int.emod_add_mul_ediv (m : Int) b.w
  rw [e.1, e.2] at h1
  omega
theorem where_law (b : Bk) : wheres b = wheresR b := by
  unfold wheres wheresR
  rw [known_open0]
  by_cases h0 : openH b 0 ≠ 0
  · rw [if_pos h0, if_pos h0]
  · rw [if_neg h0, if_neg h0]
    have hg := (openH_good (show openH b 0 = 0 by simpa using h0)).1
    have e : (cases b).map (fun c => c.a.s) = (squares b).flatMap fun s => ((offsAll b.cs).map fun o => Cs.aim ⟨s, o, []⟩).flatMap fun a => (lots b a 0 (2 ^ b.ws.length)).map fun c => c.a.s := by
      unfold cases
      rw [aims_eq hg, List.flatMap_assoc, List.map_flatMap]
      refine flat_congr fun s _ => ?_
      rw [List.map_flatMap]
    rw [e]
    unfold firsts
    rw [firsts_blocks _ _ _ (squares_nodup hg) (fun s _ => by simp), List.nil_append]
    · refine List.filter_congr fun s hs => ?_
      rw [Bool.eq_iff_iff, Bool.not_eq_true', List.any_eq_true]
      have hmem : (∃ c ∈ casesL b, c.s = s) ↔ ∃ c ∈ cases b, c.a.s = s := by
        constructor
        · rintro ⟨c, hc, rfl⟩
          exact ⟨lotOf b c, (cases_perm hg).mem_iff.1 (List.mem_map_of_mem hc), rfl⟩
        · rintro ⟨c, hc, rfl⟩
          obtain ⟨c', hc', rfl⟩ := List.mem_map.1 ((cases_perm hg).mem_iff.2 hc)
          exact ⟨c', hc', rfl⟩
      simp only [decide_eq_true_eq]
      rw [hmem, List.isEmpty_eq_false_iff_exists_mem]
      constructor
      · rintro ⟨x, hx⟩
        obtain ⟨a, ha, hx⟩ := List.mem_flatMap.1 hx
        obtain ⟨o, ho, rfl⟩ := List.mem_map.1 ha
        obtain ⟨c, hc, rfl⟩ := List.mem_map.1 hx
        have hca : c.a = Cs.aim ⟨s, o, []⟩ := by
          obtain ⟨k, _, rfl⟩ := List.mem_map.1 hc; rfl
        refine ⟨c, ?_, by rw [hca]; rfl⟩
        unfold cases
        refine List.mem_flatMap.2 ⟨Cs.aim ⟨s, o, []⟩, ?_, hc⟩
        rw [aims_eq hg]
        exact List.mem_flatMap.2 ⟨s, hs, List.mem_map.2 ⟨o, ho, rfl⟩⟩
      · rintro ⟨c, hc, rfl⟩
        unfold cases at hc
        obtain ⟨a, ha, hca⟩ := List.mem_flatMap.1 hc
        have hce : c.a = a := by
          obtain ⟨k, _, rfl⟩ := List.mem_map.1 hca; rfl
        rw [aims_eq hg] at ha
        obtain ⟨s', hs', ha⟩ := List.mem_flatMap.1 ha
        obtain ⟨o, ho, rfl⟩ := List.mem_map.1 ha
        have hss : c.a.s = s' := by rw [hce]; rfl
        refine ⟨c.a.s, List.mem_flatMap.2 ⟨Cs.aim ⟨c.a.s, o, []⟩, List.mem_map.2 ⟨o, ho, rfl⟩, List.mem_map.2 ⟨c, ?_, rfl⟩⟩⟩
        rw [hss]; exact hca
    · intro s _ x hx
      obtain ⟨a, ha, hx⟩ := List.mem_flatMap.1 hx
      obtain ⟨o, _, rfl⟩ := List.mem_map.1 ha
      obtain ⟨c, hc, rfl⟩ := List.mem_map.1 hx
      obtain ⟨k, _, rfl⟩ := List.mem_map.1 hc
      rfl
end Go.Lg.B
namespace Go.Lg.B
open Go Go.Conc Go.Lg Go.Proofs Go.Proofs.Tryz
theorem getD_at {α : Type} {l : List α} {i : Nat} {d : α} (h : i < l.length) : l.getD i d = l[i] := by simp [h]
theorem up_len : ∀ (l : List Int) (a : Int) (n : Nat), List.Pairwise (· < ·) l → (∀ k ∈ l, a ≤ k ∧ k < a + n) → l.length ≤ n
  | [], _, _, _, _ => Nat.zero_le _
  | x :: l, a, n, h, hr => by
    obtain ⟨h1, h2⟩ := List.pairwise_cons.1 h
    have hx := hr x List.mem_cons_self
    have := up_len l (x + 1) (a + n - (x + 1)).toNat h2 fun k hk => by
      have := h1 k hk
      have := hr k (List.mem_cons_of_mem _ hk)
      omega
    rw [List.length_cons]; omega
theorem rz_up : ∀ (m : Nat) (n : Int), List.Pairwise (· < ·) (rz n m)
  | 0, _ => .nil
  | m + 1, n => by
    rw [rz]
    exact List.pairwise_cons.2 ⟨fun k hk => by rw [rz_iff] at hk; omega, rz_up m (n + 1)⟩
end Go.Lg.B
namespace Go.Lg.B
open Go Go.Conc Go.Lg Go.Proofs Go.Proofs.Tryz
theorem eqT27n : IntT prog 9999 27 2 true := IntT.struct runUnderlying27 (by kernel_rfl) (.cons (by decide) rfl sizeOf3 isAgg3 (fun _ => rfl) (IntT.int runUnderlying3) (.cons (by decide) rfl sizeOf3 isAgg3 (fun _ => rfl) (IntT.int runUnderlying3) .nil))
theorem eqT3n : IntT prog 9999 3 1 false := IntT.int runUnderlying3
theorem eqT4n (p q : Bool) : Eq1 prog 9999 4 (.bool p) (.bool q) (p == q) := by
  intro M K hk
  show Sm prog M (Op.equalIn _ _ (.bool p) (.bool q)) K
  unfold Op.equalIn
  exact Sm.bind (Sm.underlying runUnderlying4 (Sm.pure hk))
def wtPart (w : Wt) (o : Nat) : List Int × Bool := if o = 0 then ([w.s.e, w.s.n], false) else if o = 2 then ([w.b], false) else if o = 3 then ([w.k], false) else ([], w.sure)
theorem eq58 (a b : Wt) : Eq1 prog 10000 58 a.val b.val (decide (a = b)) := by
  intro M K hk
  show Sm prog M (Op.equalIn _ _ (.agg a.cells.toArray) (.agg b.cells.toArray)) K
  unfold Op.equalIn
  refine Sm.bind (Sm.underlying runUnderlying58 ?_)
  simp only
  refine Sm.bind (Sm.program ?_)
  simp only [show prog.stoodInHeld 58 = false by kernel_rfl, Bool.false_eq_true, if_false]
  rw [← Array.forIn_toList]
  refine Sm.bind (Sm.forEq (fun f : Field => decide (wtPart a f.offset = wtPart b f.offset)) _ (fun f hm s M K hk => ?_) _ _ ?_)
  · have h0 : Sub 0 2 a.cells (ints [a.s.e, a.s.n]) := .take (.take .nil)
    have h0' : Sub 0 2 b.cells (ints [b.s.e, b.s.n]) := .take (.take .nil)
    simp only [List.mem_cons, List.not_mem_nil, or_false] at hm
    rcases hm with rfl | rfl | rfl | rfl
    · rw [if_pos (by decide)]
      refine Sm.bind (Sm.partAgg isAgg27 sizeOf27 h0 (Sm.bind (Sm.partAgg isAgg27 sizeOf27 h0' (Sm.bind (eqT27n [a.s.e, a.s.n] [b.s.e, b.s.n] rfl rfl _ _ ?_)))))
      by_cases h : [a.s.e, a.s.n] = [b.s.e, b.s.n]
      · rw [if_pos (by simpa [wtPart] using h)] at hk; rw [if_neg (by simpa using h)]; exact Sm.pure hk
      · rw [if_neg (fun e => h (by simpa [wtPart] using e))] at hk; rw [if_pos (by rw [decide_eq_false h]; rfl)]; exact Sm.pure hk
    · rw [if_pos (by decide)]
      refine Sm.bind (Sm.partOne (v := .int .i64 a.b) isAgg3 rfl (Sm.bind (Sm.partOne (v := .int .i64 b.b) isAgg3 rfl (Sm.bind (eqT3n [a.b] [b.b] rfl rfl _ _ ?_)))))
      by_cases h : a.b = b.b
      · rw [if_pos (by simpa [wtPart] using h)] at hk; rw [if_neg (by simpa using h)]; exact Sm.pure hk
      · rw [if_neg (by simpa [wtPart] using h)] at hk; rw [if_pos (by simpa using h)]; exact Sm.pure hk
    · rw [if_pos (by decide)]
      refine Sm.bind (Sm.partOne (v := .int .i64 a.k) isAgg3 rfl (Sm.bind (Sm.partOne (v := .int .i64 b.k) isAgg3 rfl (Sm.bind (eqT3n [a.k] [b.k] rfl rfl _ _ ?_)))))
      by_cases h : a.k = b.k
      · rw [if_pos (by simpa [wtPart] using h)] at hk; rw [if_neg (by simpa using h)]; exact Sm.pure hk
      · rw [if_neg (by simpa [wtPart] using h)] at hk; rw [if_pos (by simpa using h)]; exact Sm.pure hk
    · rw [if_pos (by decide)]
      refine Sm.bind (Sm.partOne (v := .bool a.sure) isAgg4 rfl (Sm.bind (Sm.partOne (v := .bool b.sure) isAgg4 rfl (Sm.bind (eqT4n a.sure b.sure _ _ ?_)))))
      by_cases h : a.sure = b.sure
      · rw [if_pos (by simpa [wtPart] using h)] at hk; rw [if_neg (by simpa using h)]; exact Sm.pure hk
      · rw [if_neg (by simpa [wtPart] using h)] at hk; rw [if_pos (by simpa using h)]; exact Sm.pure hk
  · have e : a = b ↔ ([a.s.e, a.s.n] = [b.s.e, b.s.n] ∧ a.b = b.b ∧ a.k = b.k ∧ a.sure = b.sure) := by
      obtain ⟨⟨a1, a2⟩, a3, a4, a5⟩ := a
      obtain ⟨⟨b1, b2⟩, b3, b4, b5⟩ := b
      simp [and_assoc]
    by_cases h : a = b
    · subst h
      simp only [List.all_cons, List.all_nil, decide_true, Bool.and_self, if_true]
      exact Sm.pure (by simpa using hk)
    · rw [if_neg (fun hall => h (e.2 ?_))]
      · rw [decide_eq_false h] at hk; exact Sm.pure hk
      · simp only [List.all_cons, List.all_nil, Bool.and_true, Bool.and_eq_true, decide_eq_true_eq, wtPart] at hall
        simpa using hall
end Go.Lg.B
namespace Go.Lg
open Go Go.Conc
theorem R.neEq {P : Program} {main : Bool} {J : Goroutine → Mem → Prop} {b : Frame} (C : Ctx P main J b) {cs : List Frame} {n : Nat} {ds : List Deferred} {σ : Slots} {k : List Item} {ops : Array Oper} {i : Nat} {rest : List Nat} {d : Nat} {ty : TypeId} {pos : String} {af : Array Edge} {g : Option (Nat × Bool)}
    {t t' : TypeId} {x y : Operand} {p q : List Value} {r : Bool} {M : Mem} (ho : ops[i]? = some ⟨some d, .binOp .neq t x y t', ty, pos, af, g⟩) (hg : wantedS ops σ ⟨some d, .binOp .neq t x y t', ty, pos, af, g⟩ = some true)
    (hx : ev σ x = some (.agg p.toArray)) (hy : ev σ y = some (.agg q.toArray)) (ht : Eq1 P 10000 t (.agg p.toArray) (.agg q.toArray) r) (hd : P.eqGuardType P.depth t = false)
    (h : R J b cs n ops rest k ds ((d, .bool (!r)) :: σ) M) : R J b cs n ops (i :: rest) k ds σ M :=
  R.v C ho hg rfl (fun a ha K hk => by
    unfold execOp
    simp only [ha.ev hx, ha.ev hy]
    refine ex_v (Sm.bind ?_)
    unfold eqGuard
    refine Sm.bind (Sm.program (Sm.bind (Sm.program ?_)))
    rw [hd]
    refine Sm.pure ?_
    show Sm P M (binOp .neq t (.agg p.toArray) (.agg q.toArray)) _
    unfold binOp
    simp only
    exact Sm.bind (ht _ _ (Sm.pure hk))) h
end Go.Lg
namespace Go.Lg.B
open Go Go.Conc Go.Lg Go.Proofs Go.Proofs.Tryz
theorem good_small {b : Bk} (h : checkChart b = 0) : b.cs.length ≤ 3 ∧ b.ws.length ≤ 5 := by
  have := good_iff.1 h
  exact ⟨this.nc.2, this.nw⟩
section
variable {main : Bool} {J : Goroutine → Mem → Prop} (hJ : Closed prog main J)
include hJ
theorem fitR_c {b : Bk} {v : Value} {ro : RO} (hv : BkV ro v b) : CallP prog J (fnv 47) [v] ro (.bool (checkChart b == 0)) := by
  have hvv := hv
  obtain ⟨vc, vw, rfl, hc, hw⟩ := hv
  by_cases hg : (decide (20 < b.cs.length) || decide (20 < b.ws.length)) = true
  · have hne : checkChart b ≠ 0 := fun h => by
      have := good_small h
      simp only [Bool.or_eq_true, decide_eq_true_eq] at hg; omega
    refine CallP.intro hJ (by kernel_rfl) fun c cs tail hret => enter_X (n := 11) func47 rfl rfl (Nl rfl) ?_
    have C : Ctx prog main J (bf 47 .normal) := ⟨hJ, by decide⟩
    refine Xr C rfl rfl <| R.box C rfl rfl rfl rfl fun p1 => Ad C rfl rfl <| Xr C rfl rfl <| R.loadAgg C rfl rfl rfl isAgg25 sizeOf25 (by repeat (first | exact Mh | apply Mt)) Tk5 <| R.callP C rfl rfl rfl rfl (greatR_c hJ hvv) <| R.not C rfl rfl rfl <| R.fixv (t := 5) (v' := .bool false) rfl (by (rw [hg]; rfl)) <| Rm C rfl rfl <| R.pass C rfl rfl <| R.pass C rfl rfl <| R.pass C rfl rfl <| R.pickF C rfl rfl rfl rfl <| Ad C rfl rfl <| Xt C func47 <| Hp hret ?_
    rw [beq_eq_false_iff_ne.2 hne]; rfl
  · have hg2 : (decide (20 < b.cs.length) || decide (20 < b.ws.length)) = false := by simpa using hg
    have hsh : b.short := by
      simp only [Bool.or_eq_false_iff, decide_eq_false_iff_not] at hg2
      unfold Bk.short; omega
    refine CallP.intro hJ (by kernel_rfl) fun c cs tail hret => enter_X (n := 11) func47 rfl rfl (Nl rfl) ?_
    have C : Ctx prog main J (bf 47 .normal) := ⟨hJ, by decide⟩
    refine Xr C rfl rfl <| R.box C rfl rfl rfl rfl fun p1 => Ad C rfl rfl <| Xr C rfl rfl <| R.loadAgg C rfl rfl rfl isAgg25 sizeOf25 (by repeat (first | exact Mh | apply Mt)) Tk5 <| R.callP C rfl rfl rfl rfl (greatR_c hJ hvv) <| R.not C rfl rfl rfl <| R.fixv (t := 5) (v' := .bool true) rfl (by (rw [hg2]; rfl)) <| Rm C rfl rfl <| R.loadAgg C rfl rfl rfl isAgg25 sizeOf25 (by repeat (first | exact Mh | apply Mt)) Tk5 <| R.callP C rfl rfl rfl rfl (checkChartR_c hJ hvv hsh) <| R.int C rfl rfl rfl rfl b_eql <| R.pickT C rfl rfl rfl rfl <| Ad C rfl rfl <| Xt C func47 <| Hp hret ?_
    rfl
end
end Go.Lg.B
namespace Go.Lg.B
open Go Go.Conc Go.Lg Go.Proofs Go.Proofs.Tryz
section
variable {main : Bool} {J : Goroutine → Mem → Prop} (hJ : Closed prog main J)
include hJ
theorem sameR_c {b1 b2 : Bk} {v1 v2 : Value} {ro : RO} (hv1 : BkV ro v1 b1) (hv2 : BkV ro v2 b2) (he : b1 = b2) (hs : b1.short) : CallP prog J (fnv 42) [v1, v2] ro (.bool true) := by
  subst he
  obtain ⟨vc, vw, rfl, hc, hw⟩ := hv1
  obtain ⟨vc2, vw2, rfl, hc2, hw2⟩ := hv2
  obtain ⟨cb, cc, rfl⟩ := hc.form
  obtain ⟨wb, wc, rfl⟩ := hw.form
  obtain ⟨cb2, cc2, rfl⟩ := hc2.form
  obtain ⟨wb2, wc2, rfl⟩ := hw2.form
  obtain ⟨hs1, hs2⟩ := hs
  refine CallP.intro hJ (by kernel_rfl) fun c cs tail hret => enter_X (n := 80) func42 rfl rfl (Nl rfl) ?_
  have C : Ctx prog main J (bf 42 .normal) := ⟨hJ, by decide⟩
  refine Xr C rfl rfl <| R.box C rfl rfl rfl rfl fun p2 => R.box C rfl rfl rfl rfl fun p3 => Ad C rfl rfl <| Xs C <| Xr C rfl rfl <| Rf C 0 rfl rfl runUnderlying25 rfl sizeOf3 <| R.loadOne C rfl rfl rfl isAgg3 (by repeat (first | exact Mh | apply Mt)) rfl <| Rf C 0 rfl rfl runUnderlying25 rfl sizeOf3 <| R.loadOne C rfl rfl rfl isAgg3 (by repeat (first | exact Mh | apply Mt)) rfl <| R.int C rfl rfl rfl rfl b_neq <| R.fixv (t := 11) (v' := .bool false) rfl (by (exact congrArg Value.bool (by simp))) <| Rm C rfl rfl <| Rf C 1 rfl rfl runUnderlying25 rfl sizeOf3 <| R.loadOne C rfl rfl rfl isAgg3 (by repeat (first | exact Mh | apply Mt)) rfl <| Rf C 1 rfl rfl runUnderlying25 rfl sizeOf3 <| R.loadOne C rfl rfl rfl isAgg3 (by repeat (first | exact Mh | apply Mt)) rfl <| R.int C rfl rfl rfl rfl b_neq <| R.fixv (t := 17) (v' := .bool false) rfl (by (exact congrArg Value.bool (by simp))) <| R.pickF C rfl rfl rfl rfl <| Rm C rfl rfl <| Rf C 2 rfl rfl runUnderlying25 rfl sizeOf3 <| R.loadOne C rfl rfl rfl isAgg3 (by repeat (first | exact Mh | apply Mt)) rfl <| Rf C 2 rfl rfl runUnderlying25 rfl sizeOf3 <| R.loadOne C rfl rfl rfl isAgg3 (by repeat (first | exact Mh | apply Mt)) rfl <| R.int C rfl rfl rfl rfl b_neq <| R.fixv (t := 24) (v' := .bool false) rfl (by (exact congrArg Value.bool (by simp))) <| R.pickF C rfl rfl rfl rfl <| Rm C rfl rfl <| Rf C 3 rfl rfl runUnderlying25 rfl sizeOf22 <| R.loadOne C rfl rfl rfl isAgg22 (by repeat (first | exact Mh | apply Mt)) rfl <| R.lenSlice C rfl rfl rfl runUnderlying22 <| Rf C 3 rfl rfl runUnderlying25 rfl sizeOf22 <| R.loadOne C rfl rfl rfl isAgg22 (by repeat (first | exact Mh | apply Mt)) rfl <| R.lenSlice C rfl rfl rfl runUnderlying22 <| R.int C rfl rfl rfl rfl b_neq <| R.fixv (t := 33) (v' := .bool false) rfl (by (exact congrArg Value.bool (by simp))) <| R.pickF C rfl rfl rfl rfl <| Rm C rfl rfl <| Rf C 4 rfl rfl runUnderlying25 rfl sizeOf23 ?_; refine R.loadOne C rfl rfl rfl isAgg23 (by repeat (first | exact Mh | apply Mt)) rfl <| R.lenSlice C rfl rfl rfl runUnderlying23 <| Rf C 4 rfl rfl runUnderlying25 rfl sizeOf23 <| R.loadOne C rfl rfl rfl isAgg23 (by repeat (first | exact Mh | apply Mt)) rfl <| R.lenSlice C rfl rfl rfl runUnderlying23 <| R.int C rfl rfl rfl rfl b_neq <| R.fixv (t := 42) (v' := .bool false) rfl (by (exact congrArg Value.bool (by simp))) <| R.pickF C rfl rfl rfl rfl <| R.done C <| X.cond C.1 rfl (fun h => nomatch h) (fun _ => ?_)
  refine X.skip C.1 <| Xs C <| Xr C rfl rfl <| Ad C rfl rfl <| X.block C.1 <| X.loopI (ι := Nat) C.1 (fun i => i ≤ b1.cs.length) (fun i => [(2, .pointer (some ⟨p2, 0, none⟩)), (3, .pointer (some ⟨p3, 0, none⟩)), (5, .int .i64 (i : Int))])
    (fun _ => ⟨ro, (p3, .cells [.int .i64 b1.w, .int .i64 b1.h, .int .i64 b1.f, .slice cb2 b1.cs.length cc2, .slice wb2 b1.ws.length wc2].toArray 25 (0, 0)) :: (p2, .cells [.int .i64 b1.w, .int .i64 b1.h, .int .i64 b1.f, .slice cb b1.cs.length cc, .slice wb b1.ws.length wc].toArray 25 (0, 0)) :: tail⟩) (fun i => b1.cs.length - i) 0 (Nat.zero_le _) rfl ⟨rfl, rfl, rfl, trivial⟩ fun i hi hnext => ?_
  refine Xs C <| Xr C rfl rfl <| Rm C rfl rfl <| Rf C 3 rfl rfl runUnderlying25 rfl sizeOf22 <| R.loadOne C rfl rfl rfl isAgg22 (by repeat (first | exact Mh | apply Mt)) rfl <| R.lenSlice C rfl rfl rfl runUnderlying22 <| R.int C rfl rfl rfl rfl b_lss <| R.done C <| X.cond C.1 rfl (fun hlt => ?_) (fun hlt => ?_)
  · have hlt := hlt
    simp only [decide_eq_true_eq] at hlt
    have hi' : i < b1.cs.length := by omega
    obtain ⟨p, off, cap, l, t, fq, hsl, hrop, hsub⟩ := hc.at Rc.len (by omega)
    cases hsl
    obtain ⟨p', off', cap', l', t', fq', hsl', hrop', hsub'⟩ := hc2.at Rc.len (by omega)
    cases hsl'
    refine X.skip C.1 <| Xs C <| X.block C.1 <| Xs C <| Xd C fun hok => Df (off' := 3) C 0 hok rfl rfl rfl runUnderlying25 rfl sizeOf22 rfl <| D1 C 1 hok rfl rfl isAgg22 (by repeat (first | exact Mh | apply Mt)) rfl <| Dm C 2 hok rfl rfl rfl <| Dx C 3 hok rfl rfl rfl runUnderlying22 sizeOf46 <| Dl 4 hok (fun _ _ A h => R.loadAggRo C rfl (A.w rfl rfl) (A.x rfl rfl) isAgg46 sizeOf46 hrop (hsub i hi') h) <| Df (off' := 3) C 5 hok rfl rfl rfl runUnderlying25 rfl sizeOf22 rfl <| D1 C 6 hok rfl rfl isAgg22 (by repeat (first | exact Mh | apply Mt)) rfl <| Dm C 7 hok rfl rfl rfl <| Dx C 8 hok rfl rfl rfl runUnderlying22 sizeOf46 <| Dl 9 hok (fun _ _ A h => R.loadAggRo C rfl (A.w rfl rfl) (A.x rfl rfl) isAgg46 sizeOf46 hrop' (hsub' i hi') h) <| Dp 10 hok (fun _ _ _ A h => R.neAgg (p := [b1.cs[i].lo, b1.cs[i].hi]) (q := [b1.cs[i].lo, b1.cs[i].hi]) C rfl (A.w rfl rfl) (A.x rfl rfl) (A.x rfl rfl) eqT46 rfl rfl (by kernel_rfl) h) <| D.fixv (t := 61) (v' := .bool false) rfl (by (exact congrArg Value.bool (by simp))) <| D.done C hok (by kernel_rfl) <| X.cond C.1 rfl (fun h => nomatch h) (fun _ => ?_)
    refine X.skip C.1 <| X.inBlock C.1 <| X.region C rfl rfl <| Rm C rfl rfl <| R.int C rfl rfl rfl rfl (b_add (by omega) (by omega)) <| Ad C rfl rfl <| X.weaken ?_ (hnext (i + 1) hi' (by omega))
    exact ⟨rfl, rfl, by simp [look], trivial⟩
  · have hlt := hlt
    simp only [decide_eq_false_iff_not] at hlt
    refine X.exit C.1 rfl <| Xs C <| Xr C rfl rfl <| Ad C rfl rfl <| X.block C.1 <| X.loopI (ι := Nat) C.1 (fun i => i ≤ b1.ws.length) (fun i => [(2, .pointer (some ⟨p2, 0, none⟩)), (3, .pointer (some ⟨p3, 0, none⟩)), (6, .int .i64 (i : Int))])
      (fun _ => ⟨ro, (p3, .cells [.int .i64 b1.w, .int .i64 b1.h, .int .i64 b1.f, .slice cb2 b1.cs.length cc2, .slice wb2 b1.ws.length wc2].toArray 25 (0, 0)) :: (p2, .cells [.int .i64 b1.w, .int .i64 b1.h, .int .i64 b1.f, .slice cb b1.cs.length cc, .slice wb b1.ws.length wc].toArray 25 (0, 0)) :: tail⟩) (fun i => b1.ws.length - i) 0 (Nat.zero_le _) rfl ⟨rfl, rfl, rfl, trivial⟩ fun i hi hnext2 => ?_
    refine Xs C <| Xr C rfl rfl <| Rm C rfl rfl <| Rf C 4 rfl rfl runUnderlying25 rfl sizeOf23 <| R.loadOne C rfl rfl rfl isAgg23 (by repeat (first | exact Mh | apply Mt)) rfl <| R.lenSlice C rfl rfl rfl runUnderlying23 <| R.int C rfl rfl rfl rfl b_lss <| R.done C <| X.cond C.1 rfl (fun hlt2 => ?_) (fun hlt2 => ?_)
    · have hlt2 := hlt2
      simp only [decide_eq_true_eq] at hlt2
      have hi' : i < b1.ws.length := by omega
      obtain ⟨p, off, cap, l, t, fq, hsl, hrop, hsub⟩ := hw.at Wt.len (by omega)
      cases hsl
      obtain ⟨p', off', cap', l', t', fq', hsl', hrop', hsub'⟩ := hw2.at Wt.len (by omega)
      cases hsl'
      refine X.skip C.1 <| Xs C <| X.block C.1 <| Xs C <| Xd C fun hok => Df (off' := 4) C 0 hok rfl rfl rfl runUnderlying25 rfl sizeOf23 rfl <| D1 C 1 hok rfl rfl isAgg23 (by repeat (first | exact Mh | apply Mt)) rfl <| Dm C 2 hok rfl rfl rfl <| Dx C 3 hok rfl rfl rfl runUnderlying23 sizeOf58 <| Dl 4 hok (fun _ _ A h => R.loadAggRo C rfl (A.w rfl rfl) (A.x rfl rfl) isAgg58 sizeOf58 hrop (hsub i hi') h) <| Df (off' := 4) C 5 hok rfl rfl rfl runUnderlying25 rfl sizeOf23 rfl <| D1 C 6 hok rfl rfl isAgg23 (by repeat (first | exact Mh | apply Mt)) rfl <| Dm C 7 hok rfl rfl rfl <| Dx C 8 hok rfl rfl rfl runUnderlying23 sizeOf58 <| Dl 9 hok (fun _ _ A h => R.loadAggRo C rfl (A.w rfl rfl) (A.x rfl rfl) isAgg58 sizeOf58 hrop' (hsub' i hi') h) <| Dp 10 hok (fun _ _ _ A h => R.neEq C rfl (A.w rfl rfl) (A.x rfl rfl) (A.x rfl rfl) (eq58 b1.ws[i] b1.ws[i]) (by kernel_rfl) h) <| D.fixv (t := 79) (v' := .bool false) rfl (by (exact congrArg Value.bool (by simp))) <| D.done C hok (by kernel_rfl) <| X.cond C.1 rfl (fun h => nomatch h) (fun _ => ?_)
      refine X.skip C.1 <| X.inBlock C.1 <| X.region C rfl rfl <| Rm C rfl rfl <| R.int C rfl rfl rfl rfl (b_add (by omega) (by omega)) <| Ad C rfl rfl <| X.weaken ?_ (hnext2 (i + 1) hi' (by omega))
      exact ⟨rfl, rfl, by simp [look], trivial⟩
    · have hlt2 := hlt2
      refine X.exit C.1 rfl <| Xr C rfl rfl <| Ad C rfl rfl <| Xt C func42 <| Hp hret ?_
      rfl
theorem swungR_c {b : Bk} {v : Value} {ro : RO} (hv : BkV ro v b) (hb : b.good) {k : Int} (hk0 : 0 ≤ k) (hk1 : k < b.cs.length) (y : Rc) : CallR prog J (fnv 57) [v, .int .i64 k, y.val] ro (fun x ro' => BkV ro' x { b with cs := b.cs.set k.toNat y }) := by
  have hnc := hb.nc
  obtain ⟨vc, vw, rfl, hc, hw⟩ := hv
  obtain ⟨wb, wc, rfl⟩ := hw.form
  have hc0 := hc
  obtain ⟨cb, cc, rfl⟩ := hc.form
  have hki : k.toNat < b.cs.length := by omega
  have hfl := flatMap_len Rc.len b.cs
  have hfl2 := flatMap_len Rc.len (b.cs.set k.toNat y)
  rw [List.length_set] at hfl2
  refine CallR.intro hJ (by kernel_rfl) fun c cs tail hret => enter_X (n := 18) func57 rfl rfl (Nl rfl) ?_
  have C : Ctx prog main J (bf 57 .normal) := ⟨hJ, by decide⟩
  refine Xr C rfl rfl <| R.box C rfl rfl rfl rfl fun p3 => R.box C rfl rfl rfl rfl fun p5 => R.alloc C rfl rfl zeroValue25 rfl fun p6 => R.done C <| Xr C rfl rfl <| R.buildSlice C (vs := _) rfl rfl (show pvals _ _ = some (numbered 0 []) from rfl) rfl runUnderlying22 sizeOf46 zeroValue46 (by decide) (.nil) fun p7 => Rf C 3 rfl rfl runUnderlying25 rfl sizeOf22 <| R.loadOne C rfl rfl rfl isAgg22 (by repeat (first | exact Mh | apply Mt)) rfl <| R.append (kk := 2) C rfl rfl rfl rfl runUnderlying22 runUnderlying22 (fun _ => nofun) (show prog.info? 46 = some Tryz.t46 by kernel_rfl) rfl rfl rfl (by decide) (by decide) (Buf.blk (cells := []) (spare := []) (len := 0) (cap := 0) rfl rfl (Nat.le_refl _)) (hc0.rd Rc.len) (ones_C b.cs) (by simp only [List.length_nil]; omega) fun v' own' hb' => ?_
  obtain ⟨own0, rfl, hb0⟩ := Buf.unapp (tail := []) (H := (p6, .cells [.int .i64 0, .int .i64 0, .int .i64 0, .slice none 0 0, .slice none 0 0].toArray 25 (0, 0)) :: (p5, .cells y.cells.toArray 46 (0, 0)) :: (p3, .cells [.int .i64 b.w, .int .i64 b.h, .int .i64 b.f, .slice cb b.cs.length cc, .slice wb b.ws.length wc].toArray 25 (0, 0)) :: tail) hb'
  obtain ⟨pW, len, capW, spare, rfl, hlen, rfl, hset⟩ := hb0.at (by simp only [List.nil_append]; omega)
  simp only [List.nil_append] at hlen
  obtain rfl : len = b.cs.length := by omega
  refine Rf C 3 rfl rfl runUnderlying25 rfl sizeOf22 <| R.store C rfl rfl rfl rfl sizeOf22 rfl rfl rfl (by repeat (first | exact Uh | apply Ut | apply Upd.app)) (.skip (.skip (.skip (.here .nil)))) <| R.done C <| Xr C rfl rfl <| Rf C 3 rfl rfl runUnderlying25 rfl sizeOf22 <| R.loadOne C rfl rfl rfl isAgg22 (by repeat (first | exact Mh | apply Mt | apply List.mem_append_right)) rfl <| Rm C rfl rfl <| R.loadAgg C rfl rfl rfl isAgg46 sizeOf46 (by repeat (first | exact Mh | apply Mt | apply List.mem_append_right)) Tk2 <| R.indexAddr C rfl rfl rfl rfl runUnderlying22 sizeOf46 hk0 hk1 <| R.store C rfl rfl rfl rfl sizeOf46 rfl rfl rfl (by repeat (first | exact Uh | apply Ut | apply Upd.app)) (by rw [Nat.zero_add]; exact Put.flat Rc.len b.cs k.toNat hki y spare (.here (.here .nil))) <| R.done C <| Xr C rfl rfl ?_
  have hb1 := hset ((b.cs.set k.toNat y).flatMap Rc.cells) (by simp only [List.nil_append]; omega)
  refine R.finish C.1 Rc.len (by decide) (hb1.app _) fun ro3 hl3 hls3 => R.loadAgg C rfl rfl rfl isAgg25 sizeOf25 (by repeat (first | exact Mh | apply Mt)) Tk5 <| R.store C rfl rfl rfl rfl sizeOf25 rfl rfl rfl (by repeat (first | exact Uh | apply Ut)) (.here (.here (.here (.here (.here .nil))))) <| R.done C <| X.ret C rfl rfl func57 rfl (by exact (.agg rfl isAgg25 sizeOf25 (by repeat (first | exact Mh | apply Mt)) Tk5 .nil)) <| Hr hret hl3 ?_
  exact ⟨_, _, rfl, hls3, hw.mono hl3⟩
end
end Go.Lg.B
namespace Go.Lg
open Go Go.Conc
theorem X.afterI {J : Goroutine → Mem → Prop} {b : Frame} {cs : List Frame} {n : Nat} {ds : List Deferred} {σ : Slots} {M : Mem} {k : List Item} {it : Item} {ι : Type} (Ex : ι → Prop) (σe : ι → Slots) (Me : ι → Mem) (hk : ∀ s, Ex s → X J b cs n k ds (σe s) (Me s))
    (h : (∀ s, Ex s → X J b cs n k ds (σe s) (Me s)) → X J b cs n (it :: k) ds σ M) : X J b cs n (it :: k) ds σ M := h hk
theorem X.after {J : Goroutine → Mem → Prop} {b : Frame} {cs : List Frame} {n : Nat} {ds : List Deferred} {σ : Slots} {M : Mem} {k : List Item} {id : Nat} {cc : Code} {ι : Type} (Ex : ι → Prop) (σe : ι → Slots) (Me : ι → Mem) (hk : ∀ s, Ex s → X J b cs n k ds (σe s) (Me s))
    (h : (∀ s, Ex s → X J b cs n k ds (σe s) (Me s)) → X J b cs n (.code (.block id cc) :: k) ds σ M) : X J b cs n (.code (.block id cc) :: k) ds σ M := h hk
end Go.Lg
namespace Go.Lg.B
open Go Go.Conc Go.Lg Go.Proofs Go.Proofs.Tryz
section
variable {main : Bool} {J : Goroutine → Mem → Prop} (hJ : Closed prog main J)
include hJ
end
end Go.Lg.B
namespace Go.Lg.B
open Go Go.Conc Go.Lg Go.Proofs Go.Proofs.Tryz
theorem compact_is (l : List Int) : (compactL (l.mergeSort fun x y => decide (x ≤ y))).Pairwise (· < ·) ∧ ∀ x, x ∈ compactL (l.mergeSort fun x y => decide (x ≤ y)) ↔ x ∈ l := by
  have hs : (l.mergeSort fun x y => decide (x ≤ y)).Pairwise (· ≤ ·) := by
    have := List.pairwise_mergeSort (le := fun x y : Int => decide (x ≤ y)) (by intro a b c; simp; omega) (by intro a b; simp; omega) l
    exact this.imp (by intro a b; simp)
  have hf := fold_asc _ [] .nil hs (by simp)
  refine ⟨hf.1, fun x => ?_⟩
  show x ∈ List.foldl cstep [] _ ↔ _
  rw [hf.2]
  simp [(List.mergeSort_perm l _).mem_iff]
section
variable {main : Bool} {J : Goroutine → Mem → Prop} (hJ : Closed prog main J)
include hJ
end
end Go.Lg.B
namespace Go.Lg.B
open Go Go.Conc Go.Lg Go.Proofs Go.Proofs.Tryz
def setC (b : Bk) (k : Nat) (y : Rc) : Bk := { b with cs := b.cs.set k y }
def inRc (y : Rc) (n : Int) : Bool := decide (y.lo ≤ n ∧ n ≤ y.hi)
theorem rz_in {x y : Rc} (h1 : x.lo ≤ y.lo) (h2 : y.hi ≤ x.hi) : (rz x.lo (wideRc x)).filter (inRc y) = rz y.lo (wideRc y) := by
  refine up_ext ((rz_up _ _).filter _) (rz_up _ _) fun n => ?_
  simp only [List.mem_filter, rz_iff, inRc, decide_eq_true_eq, wideRc]
  omega
theorem offsAll_snoc (l : List Rc) (x : Rc) : offsAll (l ++ [x]) = offsStep x (offsAll l) := by unfold offsAll; rw [List.foldl_append]; rfl
theorem offs_len {l : List Rc} : ∀ o ∈ offsAll l, o.length = l.length := by
  have := offsAll_each l l.length (Nat.le_refl _)
  rwa [List.take_length] at this
theorem step_filter {x y : Rc} {k : Nat} {L : List (List Int)} (h : ∀ o ∈ L, k < o.length) : offsStep x (L.filter fun o => inRc y (o.getD k 0)) = (offsStep x L).filter fun o => inRc y (o.getD k 0) := by
  unfold offsStep
  rw [List.filter_flatMap, flat_filter]
  refine flat_congr fun o ho => ?_
  have hk := h o ho
  rw [List.filter_map]
  have e : ((fun o : List Int => inRc y (o.getD k 0)) ∘ fun n => o ++ [n]) = fun _ : Int => inRc y (o.getD k 0) := by
    funext n
    show inRc y ((o ++ [n]).getD k 0) = _
    rw [List.getD_eq_getElem?_getD, List.getElem?_append_left hk, List.getD_eq_getElem?_getD]
  rw [e]
  cases inRc y (o.getD k 0)
  · simp
  · rw [if_pos rfl, List.filter_eq_self.2 (fun _ _ => rfl)]
theorem step_last {x y : Rc} {k : Nat} {L : List (List Int)} (h : ∀ o ∈ L, o.length = k) (h1 : x.lo ≤ y.lo) (h2 : y.hi ≤ x.hi) : offsStep y L = (offsStep x L).filter fun o => inRc y (o.getD k 0) := by
  unfold offsStep
  rw [List.filter_flatMap]
  refine flat_congr fun o ho => ?_
  have hk := h o ho
  subst hk
  rw [List.filter_map]
  have e : ((fun o' : List Int => inRc y (o'.getD o.length 0)) ∘ fun n => o ++ [n]) = inRc y := by
    funext n
    show inRc y ((o ++ [n]).getD o.length 0) = _
    rw [List.getD_eq_getElem?_getD, List.getElem?_append_right (Nat.le_refl _), Nat.sub_self]; rfl
  rw [e, rz_in h1 h2]
theorem offsAll_set {k : Nat} {y : Rc} : ∀ (n : Nat) (l : List Rc), l.length = n → k < l.length → (l.getD k ⟨0, 0⟩).lo ≤ y.lo → y.hi ≤ (l.getD k ⟨0, 0⟩).hi → offsAll (l.set k y) = (offsAll l).filter fun o => inRc y (o.getD k 0)
  | 0, l, h, hk, _, _ => by omega
  | n + 1, l, h, hk, h1, h2 => by
    have hne : l ≠ [] := fun e => by rw [e] at h; simp at h
    obtain ⟨l', x, rfl⟩ : ∃ l' x, l = l' ++ [x] := ⟨l.dropLast, l.getLast hne, (List.dropLast_concat_getLast hne).symm⟩
    rw [List.length_append, List.length_singleton] at h hk
    rw [List.set_append]
    by_cases hlt : k < l'.length
    · rw [if_pos hlt, offsAll_snoc, offsAll_snoc]
      rw [List.getD_eq_getElem?_getD, List.getElem?_append_left hlt, ← List.getD_eq_getElem?_getD] at h1 h2
      rw [offsAll_set n l' (by omega) hlt h1 h2]
      exact step_filter fun o ho => by rw [offs_len o ho]; exact hlt
    · obtain rfl : k = l'.length := by omega
      rw [if_neg hlt, Nat.sub_self]
      rw [List.getD_eq_getElem?_getD, List.getElem?_append_right (Nat.le_refl _), Nat.sub_self] at h1 h2
      show offsAll (l' ++ [y]) = _
      rw [offsAll_snoc, offsAll_snoc]
      exact step_last (fun o ho => offs_len o ho) h1 h2
theorem set_good {b : Bk} (hb : b.good) {k : Nat} (hk : k < b.cs.length) {y : Rc} (h1 : (b.cs.getD k ⟨0, 0⟩).lo ≤ y.lo) (h2 : y.hi ≤ (b.cs.getD k ⟨0, 0⟩).hi) (h3 : y.lo ≤ y.hi) : (setC b k y).good := by
  obtain ⟨g1, g2, g3, g4, g5, g6, g7⟩ := hb
  refine ⟨g1, g2, g3, by show 1 ≤ (b.cs.set k y).length ∧ (b.cs.set k y).length ≤ 3; rw [List.length_set]; exact g4, fun x hx => ?_, g6, fun x hx => by show x.fine (b.cs.set k y).length = true; rw [List.length_set]; exact g7 x hx⟩
  rcases List.mem_or_eq_of_mem_set (show x ∈ b.cs.set k y from hx) with h8 | h8
  · exact g5 x h8
  · rw [h8]
    have := g5 _ (List.getElem_mem hk)
    rw [getD_at hk] at h1 h2
    simp only [Rc.fine, isReach, Bool.and_eq_true, decide_eq_true_eq] at this ⊢
    omega
theorem aim_off (s : Sq) (o l : List Int) {k : Nat} (hk : k < 3) : (Cs.aim ⟨s, o, l⟩).off (k : Int) = o.getD k 0 := by
  have : k = 0 ∨ k = 1 ∨ k = 2 := by omega
  rcases this with rfl | rfl | rfl <;> rfl
theorem aims_set {b : Bk} (hb : b.good) {k : Nat} (hk : k < b.cs.length) {y : Rc} (h1 : (b.cs.getD k ⟨0, 0⟩).lo ≤ y.lo) (h2 : y.hi ≤ (b.cs.getD k ⟨0, 0⟩).hi) (h3 : y.lo ≤ y.hi) : aims (setC b k y) = (aims b).filter fun a => inRc y (a.off (k : Int)) := by
  have hnc := hb.nc
  rw [aims_eq (set_good hb hk h1 h2 h3), aims_eq hb, List.filter_flatMap]
  refine flat_congr fun s _ => ?_
  show (offsAll (b.cs.set k y)).map _ = _
  rw [offsAll_set _ _ rfl hk h1 h2, List.filter_map]
  congr 1
  refine List.filter_congr fun o _ => ?_
  show _ = inRc y ((Cs.aim ⟨s, o, []⟩).off (k : Int))
  rw [aim_off _ _ _ (by omega)]
theorem cases_set {b : Bk} (hb : b.good) {k : Nat} (hk : k < b.cs.length) {y : Rc} (h1 : (b.cs.getD k ⟨0, 0⟩).lo ≤ y.lo) (h2 : y.hi ≤ (b.cs.getD k ⟨0, 0⟩).hi) (h3 : y.lo ≤ y.hi) : cases (setC b k y) = (cases b).filter fun c => inRc y (c.a.off (k : Int)) := by
  unfold cases
  rw [aims_set hb hk h1 h2 h3, List.filter_flatMap, flat_filter]
  refine flat_congr fun a _ => ?_
  have e : lots (setC b k y) a 0 (2 ^ (setC b k y).ws.length) = lots b a 0 (2 ^ b.ws.length) := rfl
  rw [e]
  unfold lots
  rw [List.filter_map]
  have e2 : ((fun c : Lot => inRc y (c.a.off (k : Int))) ∘ fun m => (⟨a, m⟩ : Lot)) = fun _ : Nat => inRc y (a.off (k : Int)) := rfl
  rw [e2]
  cases inRc y (a.off (k : Int))
  · simp
  · rw [if_pos rfl, List.filter_eq_self.2 (fun _ _ => rfl)]
theorem swung_set {b : Bk} {k : Int} {x : Rc} : swung b k x = setC b k.toNat (cut (b.cs.getD k.toNat ⟨0, 0⟩) x) := rfl
theorem cases_swung {b : Bk} (hb : b.good) {k : Nat} (hk : k < b.cs.length) {x : Rc} (h3 : (cut (b.cs.getD k ⟨0, 0⟩) x).lo ≤ (cut (b.cs.getD k ⟨0, 0⟩) x).hi) : cases (swung b (k : Int) x) = (cases b).filter fun c => inRc (cut (b.cs.getD k ⟨0, 0⟩) x) (c.a.off (k : Int)) := by
  rw [swung_set, Int.toNat_natCast]
  exact cases_set hb hk (by simp only [cut]; omega) (by simp only [cut]; omega) h3
theorem firsts_mem {α : Type} [DecidableEq α] {x : α} : ∀ (l acc : List α), x ∈ l.foldl addNew acc ↔ x ∈ acc ∨ x ∈ l
  | [], acc => by simp
  | y :: l, acc => by
    rw [List.foldl_cons, firsts_mem l]
    unfold addNew
    split
    · rename_i h
      constructor
      · rintro (g | g)
        · exact .inl g
        · exact .inr (List.mem_cons_of_mem _ g)
      · rintro (g | g)
        · exact .inl g
        · rcases List.mem_cons.1 g with rfl | g
          · exact .inl h
          · exact .inr g
    · simp only [List.mem_append, List.mem_cons, List.not_mem_nil, or_false]
      exact or_assoc
theorem wheres_mem {b : Bk} (h : openH b 0 = 0) (s : Sq) : s ∈ wheres b ↔ ∃ c ∈ cases b, c.a.s = s := by
  rw [wheres, if_neg (by simp [h]), firsts, firsts_mem]
  simp
theorem offOf_mem {b : Bk} {k : Int} (h : openH b (b.compass k) = 0) (x : Int) : x ∈ (offOf b k).1 ↔ ∃ c ∈ cases b, c.a.off k = x := by
  rw [offOf, if_neg (by simp [h])]
  show x ∈ compactL _ ↔ _
  rw [(compact_is _).2]
  simp
end Go.Lg.B
namespace Go.Lg.B
open Go Go.Conc Go.Lg Go.Proofs Go.Proofs.Tryz
theorem squares_mem {b : Bk} (hw : 0 < b.w) (hh : 0 < b.h) (s : Sq) : s ∈ squares b ↔ (0 ≤ s.e ∧ s.e < b.w) ∧ 0 ≤ s.n ∧ s.n < b.h := by
  have hwh : 0 ≤ b.w * b.h := Int.mul_nonneg (by omega) (by omega)
  simp only [squares, List.mem_map, List.mem_range]
  constructor
  · rintro ⟨n, hn, rfl⟩
    have h1 := Int.emod_nonneg (n : Int) (show b.w ≠ 0 by omega)
    have h2 := Int.emod_lt_of_pos (n : Int) hw
    have h3 := Int.ediv_nonneg (show (0 : Int) ≤ n by omega) (show 0 ≤ b.w by omega)
    have h4 : (n : Int) / b.w < b.h := Int.ediv_lt_of_lt_mul hw (by rw [Int.mul_comm]; omega)
    exact ⟨⟨h1, h2⟩, h3, h4⟩
  · rintro ⟨⟨h1, h2⟩, h3, h4⟩
    have h5 : 0 ≤ s.n * b.w := Int.mul_nonneg h3 (by omega)
    have h6 : (s.n + 1) * b.w ≤ b.h * b.w := Int.mul_le_mul_of_nonneg_right (by omega) (by omega)
    rw [Int.add_mul, Int.one_mul] at h6
    have h7 : b.h * b.w = b.w * b.h := Int.mul_comm _ _
    refine ⟨(s.e + s.n * b.w).toNat, by omega, ?_⟩
    rw [sqAt, show (((s.e + s.n * b.w).toNat : Nat) : Int) = s.e + s.n * b.w by omega, Int.add_mul_emod_self_right, Int.add_mul_ediv_right _ _ (by omega), Int.emod_eq_of_lt h1 h2, Int.ediv_eq_zero_of_lt h1 h2, Int.zero_add]
end Go.Lg.B
namespace Go.Lg.B
open Go Go.Conc Go.Lg Go.Proofs Go.Proofs.Tryz
theorem wheresR_len {b : Bk} (h : knownH b true = 0) : (wheresR b).length ≤ 49 := by
  rw [wheresR, if_neg (by simp [h])]
  exact Nat.le_trans (List.length_filter_le _ _) (squares_len (known_good h).1)
section
variable {main : Bool} {J : Goroutine → Mem → Prop} (hJ : Closed prog main J)
include hJ
end
end Go.Lg.B
namespace Go.Lg.B
open Go Go.Conc Go.Lg Go.Proofs Go.Proofs.Tryz
theorem cut_one {x : Rc} {i : Int} (h1 : x.lo ≤ i) (h2 : i ≤ x.hi) : cut x ⟨i, i⟩ = ⟨i, i⟩ := by
  unfold cut
  simp only [Rc.mk.injEq]
  omega
theorem in_one (i n : Int) : inRc ⟨i, i⟩ n = decide (n = i) := by
  rw [inRc, decide_eq_decide]
  simp only
  omega
theorem off_in {b : Bk} (hb : b.good) {k : Nat} (hk : k < b.cs.length) {c : Lot} (hc : c ∈ cases b) : (b.cs.getD k ⟨0, 0⟩).lo ≤ c.a.off (k : Int) ∧ c.a.off (k : Int) ≤ (b.cs.getD k ⟨0, 0⟩).hi := by
  have hd : b.cs.getD k ⟨0, 0⟩ = b.cs[k] := getD_at hk
  have hf := hb.cs _ (List.getElem_mem hk)
  simp only [Rc.fine, isReach, Bool.and_eq_true, decide_eq_true_eq] at hf
  have hs := cases_set hb hk (y := b.cs[k]) (by rw [hd]; exact Int.le_refl _) (by rw [hd]; exact Int.le_refl _) (by omega)
  have he : setC b k b.cs[k] = b := by rw [setC, List.set_getElem_self]
  rw [he] at hs
  rw [hs] at hc
  have := (List.mem_filter.1 hc).2
  rw [inRc, decide_eq_true_eq] at this
  rw [hd]; exact this
theorem one_cases {b : Bk} (hb : b.good) {k : Nat} (hk : k < b.cs.length) {i : Int} (h1 : (b.cs.getD k ⟨0, 0⟩).lo ≤ i) (h2 : i ≤ (b.cs.getD k ⟨0, 0⟩).hi) : cases (swung b (k : Int) ⟨i, i⟩) = (cases b).filter fun c => decide (c.a.off (k : Int) = i) := by
  rw [cases_swung hb hk (by rw [cut_one h1 h2]; exact Int.le_refl _), cut_one h1 h2]
  exact List.filter_congr fun c _ => in_one i _
theorem one_good {b : Bk} (hb : b.good) {k : Nat} (hk : k < b.cs.length) {i : Int} (h1 : (b.cs.getD k ⟨0, 0⟩).lo ≤ i) (h2 : i ≤ (b.cs.getD k ⟨0, 0⟩).hi) : (swung b (k : Int) ⟨i, i⟩).good := by
  rw [swung_set, Int.toNat_natCast, cut_one h1 h2]
  exact set_good hb hk h1 h2 (Int.le_refl _)
theorem one_swing {b : Bk} (hb : b.good) {k : Nat} (hk : k < b.cs.length) {i : Int} (h1 : (b.cs.getD k ⟨0, 0⟩).lo ≤ i) (h2 : i ≤ (b.cs.getD k ⟨0, 0⟩).hi) : swingH b (k : Int) ⟨i, i⟩ = openH (swung b (k : Int) ⟨i, i⟩) 0 := by
  have hc : b.compass (k : Int) = 0 := by rw [Bk.compass, there_zero, between, Bool.and_eq_true, decide_eq_true_eq, decide_eq_true_eq]; omega
  have hf := hb.cs _ (List.getElem_mem hk)
  rw [getD_at hk] at h1 h2
  simp only [Rc.fine, isReach, Bool.and_eq_true, decide_eq_true_eq] at hf
  rw [swingH, good_iff.2 hb, hc, if_neg (by simp), if_neg (by simp), if_neg, if_neg]
  · rw [Int.toNat_natCast, getD_at hk, cut_one h1 h2]; simp
  · simp [isReach]; omega
theorem one_open {b : Bk} (hb : b.good) {k : Nat} (hk : k < b.cs.length) {i : Int} (h1 : (b.cs.getD k ⟨0, 0⟩).lo ≤ i) (h2 : i ≤ (b.cs.getD k ⟨0, 0⟩).hi) : openH (swung b (k : Int) ⟨i, i⟩) 0 = if ∃ c ∈ cases b, c.a.off (k : Int) = i then 0 else 9 := by
  rw [openH, good_iff.2 (one_good hb hk h1 h2), if_neg (by simp), if_neg (by simp), one_cases hb hk h1 h2]
  by_cases h : ∃ c ∈ cases b, c.a.off (k : Int) = i
  · rw [if_pos h, if_neg]
    intro e
    obtain ⟨c, hc, hi⟩ := h
    have : c ∈ (cases b).filter fun c => decide (c.a.off (k : Int) = i) := List.mem_filter.2 ⟨hc, by simpa using hi⟩
    rw [e] at this; cases this
  · rw [if_neg h, if_pos]
    rw [List.filter_eq_nil_iff]
    intro c hc hi
    exact h ⟨c, hc, by simpa using hi⟩
theorem one_off {b : Bk} (hb : b.good) {k : Nat} (hk : k < b.cs.length) {i : Int} (h1 : (b.cs.getD k ⟨0, 0⟩).lo ≤ i) (h2 : i ≤ (b.cs.getD k ⟨0, 0⟩).hi) (ho : openH (swung b (k : Int) ⟨i, i⟩) 0 = 0) : offOf (swung b (k : Int) ⟨i, i⟩) (k : Int) = ([i], 0) := by
  have hc : (swung b (k : Int) ⟨i, i⟩).compass (k : Int) = 0 := by
    rw [Bk.compass, there_zero, swung_set, show (setC b (k : Int).toNat _).cs.length = b.cs.length from List.length_set, between, Bool.and_eq_true, decide_eq_true_eq, decide_eq_true_eq]; omega
  have hoo : openH (swung b (k : Int) ⟨i, i⟩) ((swung b (k : Int) ⟨i, i⟩).compass (k : Int)) = 0 := by rw [hc]; exact ho
  rw [offOf, if_neg (by simp [hoo])]
  refine Prod.ext ?_ rfl
  have hne := (openH_good ho).2.2
  show compactL _ = [i]
  refine up_ext (compact_is _).1 (List.pairwise_singleton _ _) fun x => ?_
  rw [(compact_is _).2, one_cases hb hk h1 h2]
  rw [one_cases hb hk h1 h2] at hne
  simp only [List.mem_map, List.mem_filter, decide_eq_true_eq, List.mem_singleton]
  constructor
  · rintro ⟨c, ⟨_, e⟩, rfl⟩; exact e
  · rintro rfl
    obtain ⟨c, hc'⟩ := List.exists_mem_of_ne_nil _ hne
    have := List.mem_filter.1 hc'
    exact ⟨c, ⟨this.1, by simpa using this.2⟩, by simpa using this.2⟩
theorem below_step (L : List Lot) (k : Nat) (i : Int) : L.countP (fun c => decide (c.a.off (k : Int) < i + 1)) = L.countP (fun c => decide (c.a.off (k : Int) < i)) + (L.filter fun c => decide (c.a.off (k : Int) = i)).length := by
  rw [← List.countP_eq_length_filter]
  induction L with
  | nil => rfl
  | cons c L ih =>
    simp only [List.countP_cons, ih, decide_eq_true_eq]
    by_cases h1 : c.a.off (k : Int) < i
    · rw [if_pos h1, if_pos (by omega), if_neg (by omega)]; omega
    · by_cases h2 : c.a.off (k : Int) = i
      · rw [if_neg h1, if_pos (by omega), if_pos h2]; omega
      · rw [if_neg h1, if_neg (by omega), if_neg h2]; omega
theorem below_none {b : Bk} (hb : b.good) {k : Nat} (hk : k < b.cs.length) : (cases b).countP (fun c => decide (c.a.off (k : Int) < (b.cs.getD k ⟨0, 0⟩).lo)) = 0 := by
  rw [List.countP_eq_zero]
  intro c hc h
  have := off_in hb hk hc
  rw [decide_eq_true_eq] at h; omega
theorem below_all {b : Bk} (hb : b.good) {k : Nat} (hk : k < b.cs.length) : (cases b).countP (fun c => decide (c.a.off (k : Int) < (b.cs.getD k ⟨0, 0⟩).hi + 1)) = (cases b).length := by
  rw [List.countP_eq_length]
  intro c hc
  have := off_in hb hk hc
  rw [decide_eq_true_eq]; omega
theorem offs_few {b : Bk} (hb : b.good) {k : Nat} (hk : k < b.cs.length) : (offOf b (k : Int)).1.length ≤ 3 := by
  rw [offOf]
  split
  · exact Nat.zero_le _
  · have hf := hb.cs _ (List.getElem_mem hk)
    have hd : b.cs.getD k ⟨0, 0⟩ = b.cs[k] := getD_at hk
    simp only [Rc.fine, isReach, Bool.and_eq_true, decide_eq_true_eq] at hf
    have := up_len _ (b.cs[k]).lo ((b.cs[k]).hi + 1 - (b.cs[k]).lo).toNat (compact_is (((cases b).map fun c => c.a.off (k : Int)))).1 fun x hx => by
      rw [(compact_is _).2] at hx
      obtain ⟨c, hc, rfl⟩ := List.mem_map.1 hx
      have := off_in hb hk hc
      rw [hd] at this; omega
    show (compactL _).length ≤ 3
    omega
def sqLt (s t : Sq) : Prop := s.n < t.n ∨ s.n = t.n ∧ s.e < t.e
theorem squares_up {b : Bk} (hw : 0 < b.w) : (squares b).Pairwise sqLt := by
  unfold squares
  refine List.pairwise_map.2 (List.pairwise_lt_range.imp fun {n m} h => ?_)
  have h1 := Int.emod_add_mul_ediv (n : Int) b.w
  have h2 := Int.emod_add_mul_ediv (m : Int) b.w
  have h3 : (n : Int) / b.w ≤ (m : Int) / b.w := Int.ediv_le_ediv hw (by omega)
  show (n : Int) / b.w < (m : Int) / b.w ∨ (n : Int) / b.w = (m : Int) / b.w ∧ (n : Int) % b.w < (m : Int) % b.w
  by_cases he : (n : Int) / b.w = (m : Int) / b.w
  · right
    rw [he] at h1
    exact ⟨he, by omega⟩
  · left; omega
theorem wheres_up {b : Bk} (hb : b.good) : (wheres b).Pairwise sqLt := by
  have hw := hb.w
  rw [where_law, wheresR]
  split
  · exact .nil
  · exact (squares_up (by omega)).filter _
theorem wheres_few {b : Bk} (hb : b.good) : ((wheres b).length : Int) ≤ b.w * b.h := by
  have hw := hb.w
  have hh := hb.h
  have h0 : 0 ≤ b.w * b.h := Int.mul_nonneg (by omega) (by omega)
  have : (wheres b).length ≤ (squares b).length := by
    rw [where_law, wheresR]
    split
    · exact Nat.zero_le _
    · exact List.length_filter_le _ _
  have h2 : (squares b).length = (b.w * b.h).toNat := by simp [squares]
  omega
theorem wheres_in {b : Bk} (hb : b.good) : ∀ s ∈ wheres b, (0 ≤ s.e ∧ s.e < b.w) ∧ 0 ≤ s.n ∧ s.n < b.h := fun s hs => by
  have hw := hb.w
  have hh := hb.h
  rw [where_law, wheresR] at hs
  split at hs
  · cases hs
  · exact (squares_mem (by omega) (by omega) s).1 (List.mem_filter.1 hs).1
theorem known_where {b : Bk} (h0 : openH b 0 = 0) (s : Sq) : (knownZ (fun c => decide (c.a.s = s)) (cases b) = 2 ↔ s ∉ wheres b) ∧ (knownZ (fun c => decide (c.a.s = s)) (cases b) = 1 ↔ wheres b = [s]) := by
  have hb := (openH_good h0).1
  have hne := (openH_good h0).2.2
  have hup := wheres_up hb
  have hpos := List.length_pos_iff.2 hne
  have hz : (cases b).countP (fun c => decide (c.a.s = s)) = 0 ↔ s ∉ wheres b := by
    rw [List.countP_eq_zero, wheres_mem h0]
    simp only [decide_eq_true_eq]
    constructor
    · rintro h ⟨c, hc, e⟩; exact h c hc e
    · intro h c hc e; exact h ⟨c, hc, e⟩
  have ha : (cases b).countP (fun c => decide (c.a.s = s)) = (cases b).length ↔ wheres b = [s] := by
    rw [List.countP_eq_length]
    simp only [decide_eq_true_eq]
    constructor
    · intro h
      have hall : ∀ q ∈ wheres b, q = s := fun q hq => by
        obtain ⟨c, hc, e⟩ := (wheres_mem h0 q).1 hq
        rw [← e]; exact h c hc
      obtain ⟨c, hc⟩ := List.exists_mem_of_ne_nil _ hne
      have hin : s ∈ wheres b := (wheres_mem h0 s).2 ⟨c, hc, h c hc⟩
      cases hW : wheres b with
      | nil => rw [hW] at hin; cases hin
      | cons q l =>
        rw [hW] at hall hup
        have hq := hall q List.mem_cons_self
        cases l with
        | nil => rw [hq]
        | cons r l =>
          have hr := hall r (by simp)
          have := (List.pairwise_cons.1 hup).1 r List.mem_cons_self
          rw [hq, hr] at this
          rcases this with h | ⟨_, h⟩ <;> omega
    · intro h c hc
      have : c.a.s ∈ wheres b := (wheres_mem h0 _).2 ⟨c, hc, rfl⟩
      rw [h] at this
      exact List.mem_singleton.1 this
  unfold knownZ
  by_cases h1 : (cases b).countP (fun c => decide (c.a.s = s)) = 0
  · rw [if_pos h1]
    refine ⟨⟨fun _ => hz.1 h1, fun _ => rfl⟩, ⟨fun h => absurd h (by decide), fun h => ?_⟩⟩
    have := ha.2 h
    omega
  · rw [if_neg h1]
    by_cases h2 : (cases b).countP (fun c => decide (c.a.s = s)) = (cases b).length
    · rw [if_pos h2]
      exact ⟨⟨fun h => absurd h (by decide), fun h => absurd (hz.2 h) h1⟩, ⟨fun _ => ha.1 h2, fun _ => rfl⟩⟩
    · rw [if_neg h2]
      exact ⟨⟨fun h => absurd h (by decide), fun h => absurd (hz.2 h) h1⟩, ⟨fun h => absurd h (by decide), fun h => absurd (ha.2 h) h2⟩⟩
end Go.Lg.B
namespace Go.Lg.B
open Go Go.Conc Go.Lg Go.Proofs Go.Proofs.Tryz
theorem wheresR_small (b : Bk) : (wheresR b).length ≤ 1000000 := by
  by_cases h : knownH b true = 0
  · have := wheresR_len h; omega
  · rw [wheresR, if_pos h]; exact Nat.zero_le _
end Go.Lg.B
namespace Go.Lg.B
open Go Go.Conc Go.Lg Go.Proofs Go.Proofs.Tryz
section
variable {main : Bool} {J : Goroutine → Mem → Prop} (hJ : Closed prog main J)
include hJ
theorem hasSquareR_c {v : Value} {ro : RO} {l : List Sq} (hl : LsS ro v l) (hn : l.length ≤ 1000000) (s : Sq) : CallP prog J (fnv 52) [v, s.val] ro (.bool (l.any fun q => decide (q = s))) := by
  have hl0 := hl
  obtain ⟨lb, lc, rfl⟩ := hl.form
  refine CallP.intro hJ (by kernel_rfl) fun c cs tail hret => enter_X (n := 18) func52 rfl rfl (Nl rfl) ?_
  have C : Ctx prog main J (bf 52 .normal) := ⟨hJ, by decide⟩
  refine Xr C rfl rfl <| R.box C rfl rfl rfl rfl fun p3 => Ad C rfl rfl <| Xs C <| Xr C rfl rfl <| Ad C rfl rfl <| X.block C.1 <| X.loopI (ι := Nat) C.1 (fun i => i ≤ l.length ∧ (l.any fun q => decide (q = s)) = ((l.drop i).any fun q => decide (q = s))) (fun i => [(0, .slice lb l.length lc), (3, .pointer (some ⟨p3, 0, none⟩)), (5, .int .i64 (i : Int))])
    (fun _ => ⟨ro, (p3, .cells s.cells.toArray 27 (0, 0)) :: tail⟩) (fun i => l.length - i) 0 ⟨Nat.zero_le _, rfl⟩ rfl ⟨rfl, rfl, rfl, trivial⟩ fun i hi hnext => ?_
  obtain ⟨hi, hr⟩ := hi
  refine Xs C <| Xr C rfl rfl <| Rm C rfl rfl <| Rm C rfl rfl <| R.lenSlice C rfl rfl rfl runUnderlying41 <| R.int C rfl rfl rfl rfl b_lss <| R.done C <| X.cond C.1 rfl (fun hlt => ?_) (fun hlt => ?_)
  · have hlt := hlt
    simp only [decide_eq_true_eq] at hlt
    have hi' : i < l.length := by omega
    obtain ⟨pp, off, cap, ll, t, fq, hsl, hrop, hsub⟩ := hl0.at Sq.len (by omega)
    cases hsl
    have hq := hsub i hi'
    rw [List.drop_eq_getElem_cons hi', List.any_cons] at hr
    refine X.skip C.1 <| Xs C <| X.block C.1 <| Xs C <| Xd C fun hok => Dm C 0 hok rfl rfl rfl <| Dm C 1 hok rfl rfl rfl <| Dx C 2 hok rfl rfl rfl runUnderlying41 sizeOf27 <| Dl 3 hok (fun _ _ A h => R.loadAggRo C rfl (A.w rfl rfl) (A.x rfl rfl) isAgg27 sizeOf27 hrop hq h) <| D5 C 4 hok rfl rfl isAgg27 sizeOf27 (by repeat (first | exact Mh | apply Mt)) Tk2 <| Dp 5 hok (fun _ _ _ A h => R.eqAgg (p := [l[i].e, l[i].n]) (q := [s.e, s.n]) C rfl (A.w rfl rfl) (A.x rfl rfl) (A.x rfl rfl) eqT27 rfl rfl (by kernel_rfl) h) <| D.done C hok (by kernel_rfl) <| X.cond C.1 rfl (fun he => ?_) (fun he => ?_)
    · have he := he
      have he2 : decide (l[i] = s) = true := by
        obtain ⟨se, sn⟩ := s
        generalize l[i] = q at he ⊢
        obtain ⟨qe, qn⟩ := q
        simpa using he
      rw [he2, Bool.true_or] at hr
      refine Xr C rfl rfl <| Ad C rfl rfl <| Xt C func52 <| Hp hret ?_
      rw [hr]; rfl
    · have he := he
      have he2 : decide (l[i] = s) = false := by
        obtain ⟨se, sn⟩ := s
        generalize l[i] = q at he ⊢
        obtain ⟨qe, qn⟩ := q
        simpa using he
      rw [he2, Bool.false_or] at hr
      refine X.skip C.1 <| X.inBlock C.1 <| X.region C rfl rfl <| Rm C rfl rfl <| R.int C rfl rfl rfl rfl (b_add (by omega) (by omega)) <| Ad C rfl rfl <| X.weaken ?_ (hnext (i + 1) ⟨hi', hr⟩ (by omega))
      exact ⟨rfl, rfl, by simp [look], trivial⟩
  · have hlt := hlt
    simp only [decide_eq_false_iff_not] at hlt
    obtain rfl : i = l.length := by omega
    rw [List.drop_length] at hr
    refine X.exit C.1 rfl <| Xr C rfl rfl <| Ad C rfl rfl <| Xt C func52 <| Hp hret ?_
    rw [hr]; rfl
end
end Go.Lg.B
namespace Go.Lg.B
open Go Go.Conc Go.Lg Go.Proofs Go.Proofs.Tryz
def nob : Bk := ⟨0, 0, 0, [], []⟩
theorem NewV.both {ro : RO} {b : Bk} {h : Int} {w : Value} (hw : NewV ro b h w) (hs : b.short) : ∃ v b', BkV ro v b' ∧ b'.short ∧ b' = (if h = 0 then b else nob) ∧ w = .tuple [v, .int .i64 h].toArray := by
  rcases hw with ⟨h0, rfl⟩ | ⟨rfl, v, hv, rfl⟩
  · exact ⟨noBk, nob, ⟨_, _, rfl, Ls.nil, Ls.nil⟩, ⟨Nat.zero_le _, Nat.zero_le _⟩, by rw [if_neg h0], rfl⟩
  · exact ⟨v, b, hv, hs, by rw [if_pos rfl], rfl⟩
end Go.Lg.B
namespace Go.Lg.B
open Go Go.Conc Go.Lg Go.Proofs Go.Proofs.Tryz
set_option maxRecDepth 100000
theorem open_two {b : Bk} (h : checkChart b = 0) : openH b 0 = 0 ∨ openH b 0 = 9 := by
  rw [openH, h, if_neg (by simp), if_neg (by simp)]
  split
  · exact .inr rfl
  · exact .inl rfl
theorem square_mod {b : Bk} (hg : b.good) {q : Int} : b.square ⟨q % b.w, q / 8 % b.h⟩ = 0 := by
  have hw := hg.w
  have hh := hg.h
  have h1 := Int.emod_nonneg q (show b.w ≠ 0 by omega)
  have h2 := Int.emod_lt_of_pos q (show 0 < b.w by omega)
  have h3 := Int.emod_nonneg (q / 8) (show b.h ≠ 0 by omega)
  have h4 := Int.emod_lt_of_pos (q / 8) (show 0 < b.h by omega)
  rw [Bk.square, there_zero]
  simp only [between, Bool.and_eq_true, decide_eq_true_eq]
  omega
theorem compass_mod {b : Bk} (hg : b.good) (q : Int) : b.compass (q % (b.cs.length : Int)) = 0 := by
  have hn := hg.nc
  have h1 := Int.emod_nonneg q (show (b.cs.length : Int) ≠ 0 by omega)
  have h2 := Int.emod_lt_of_pos q (show 0 < (b.cs.length : Int) by omega)
  rw [Bk.compass, there_zero]
  simp only [between, Bool.and_eq_true, decide_eq_true_eq]
  omega
theorem nob_val {ro : RO} : BkV ro noBk nob := ⟨_, _, rfl, Ls.nil, Ls.nil⟩
theorem nob_short : nob.short := ⟨Nat.zero_le _, Nat.zero_le _⟩
end Go.Lg.B
namespace Go.Lg.B
open Go Go.Conc Go.Lg Go.Proofs Go.Proofs.Tryz
set_option maxRecDepth 100000
theorem offs_iff {b : Bk} (hg : b.good) {k : Int} (hk : b.compass k = 0) (i : Int) : (offOf b k).1.contains i = true ↔ ∃ c ∈ cases b, c.a.off k = i := by
  by_cases h : openH b 0 = 0
  · rw [List.contains_eq_mem, decide_eq_true_eq, offOf_mem (by rw [hk]; exact h)]
  · have h9 := (open_two (good_iff.2 hg)).resolve_left h
    have hc : cases b = [] := by
      cases hc : cases b with
      | nil => rfl
      | cons c l => rw [openH, good_iff.2 hg, if_neg (by simp), if_neg (by simp), if_neg (by rw [hc]; simp)] at h9; cases h9
    rw [offOf, hk, if_pos (by rw [h9]; decide), hc]
    simp
theorem reached_root {b : Bk} {vb : Value} {cq sq : Int} (h1 : 0 ≤ cq ∧ cq ≤ 255) (h2 : 0 ≤ sq ∧ sq ≤ 65535) {ro : RO} (he : Env ro) (hv : BkV ro vb b) : Root prog 7 [vb, .int .u8 cq, .int .u16 sq] ro (fun w _ => w = .bool true) := by
  intro Post hret
  have hJ : Closed prog true (JM prog (Go.Conc.Good prog Post)) := JM.closed
  have hvv := hv
  obtain ⟨vc, vw, rfl, hc, hw⟩ := hv
  have hc0 := hc
  obtain ⟨cb, cc, rfl⟩ := hc.form
  obtain ⟨wb, wc, rfl⟩ := hw.form
  let main := true
  let J := JM prog (Go.Conc.Good prog Post)
  refine enter_X (n := 312) func7 rfl rfl (Nl rfl) ?_
  have C : Ctx prog main J (bf 7 .normal) := ⟨hJ, by decide⟩
  refine Xr C rfl rfl <| R.box C rfl rfl rfl rfl fun p3 => Ad C rfl rfl <| Xs C <| Xr C rfl rfl <| R.loadAgg C rfl rfl rfl isAgg25 sizeOf25 (by repeat (first | exact Mh | apply Mt)) Tk5 <| R.callP C rfl rfl rfl rfl (fitR_c hJ hvv) <| R.not C rfl rfl rfl <| R.done C <| X.cond C.1 rfl (fun hfit => ?_) (fun hfit => ?_)
  · have hfit := hfit
    refine Xr C rfl rfl <| R.callR C rfl rfl rfl rfl ((found_c _ he)) fun v9 ro9 hl9 hq9 => Ad C rfl rfl <| X.ret0 C (by kernel_rfl) rfl rfl func7 rfl (by exact (.tmp rfl .nil)) fun w9 hs9 => hret _ _ _ hl9 ?_ w9 hs9
    exact hq9
  · have hfit := hfit
    have hch : checkChart b = 0 := by simpa using hfit
    have hg := good_iff.1 hch
    have hnw := hg.nw
    have hnc := hg.nc
    have hwd := hg.w
    have hht := hg.h
    have hsh : b.short := ⟨by omega, by omega⟩
    obtain ⟨se, hse⟩ : ∃ se, se = sq % b.w := ⟨_, rfl⟩
    obtain ⟨sn, hsn⟩ : ∃ sn, sn = sq / 8 % b.h := ⟨_, rfl⟩
    obtain ⟨k, hk⟩ : ∃ k : Nat, (k : Int) = cq % (b.cs.length : Int) := ⟨(cq % (b.cs.length : Int)).toNat, by have := Int.emod_nonneg cq (show (b.cs.length : Int) ≠ 0 by omega); omega⟩
    have hki : k < b.cs.length := by have := Int.emod_lt_of_pos cq (show (0 : Int) < b.cs.length by omega); omega
    have hkc : b.compass (k : Int) = 0 := by rw [hk]; exact compass_mod hg _
    have hsq : b.square ⟨se, sn⟩ = 0 := by rw [hse, hsn]; exact square_mod hg
    have hfz := hg.cs _ (List.getElem_mem hki)
    have hzd : b.cs.getD k ⟨0, 0⟩ = b.cs[k] := getD_at hki
    have hin := fun c (hc : c ∈ cases b) => off_in hg hki hc
    have hbn := below_none hg hki
    have hba := below_all hg hki
    have hof3 := offs_few hg hki
    have hwf := wheres_few hg
    have hoi := offs_iff hg hkc
    have h1c := @one_cases b hg k hki
    have h1s := @one_swing b hg k hki
    have h1o := @one_open b hg k hki
    have h1f := @one_off b hg k hki
    have hcut1 := fun (x : Rc) i => @cut_one x i
    obtain ⟨pr, offr, capr, lr, tr, fqr, hslr, hropr, hsubr⟩ := hc0.at Rc.len (by omega)
    injection hslr with e1 e2 e3
    subst e1
    have hrz := hsubr k hki
    rw [hzd] at hin hbn hba h1c h1s h1o h1f
    obtain ⟨Z, hZ⟩ : ∃ Z, Z = b.cs[k] := ⟨_, rfl⟩
    rw [← hZ] at hin hbn hba h1c h1s h1o h1f hrz hfz hzd
    simp only [Rc.fine, isReach, Bool.and_eq_true, decide_eq_true_eq] at hfz
    have hz0 : lr[offr + k * 2 + 0]? = some (.int .i64 Z.lo) := by simpa [Rc.cells] using hrz.get 0 (by decide)
    have hz1 : lr[offr + k * 2 + 1]? = some (.int .i64 Z.hi) := by simpa [Rc.cells] using hrz.get 1 (by decide)
    have hwl : (wheres b).length ≤ 1000000 := by rw [where_law]; exact wheresR_small b
    have hle := cases_le hg
    have hwh : b.w * b.h ≤ 7 * 7 := Int.mul_le_mul hwd.2 hht.2 (by omega) (by omega)
    have hwh0 : 0 ≤ b.w * b.h := Int.mul_nonneg (by omega) (by omega)
    have hof : (offOf b (k : Int)).2 = openH b 0 := by
      rw [offOf, hkc]
      by_cases h : openH b 0 = 0 <;> simp [h]
    have htl : (told b (b.square ⟨se, sn⟩) fun c => decide (c.a.s = ⟨se, sn⟩)).2 = openH b 0 := by
      rw [told, hsq]
      by_cases h : openH b 0 = 0 <;> simp [h]
    have htk : openH b 0 = 0 → (told b (b.square ⟨se, sn⟩) fun c => decide (c.a.s = ⟨se, sn⟩)).1 = knownZ (fun c => decide (c.a.s = ⟨se, sn⟩)) (cases b) := fun h => by rw [told, hsq, if_neg (by simp [h])]
    have hkw := fun h => known_where (b := b) h ⟨se, sn⟩
    have hup := wheres_up hg
    have hwin := wheres_in hg
    have htwo := open_two hch
    have hnil : openH b 0 = 9 → cases b = [] ∧ (offOf b (k : Int)).1.length = 0 ∧ (wheres b).length = 0 := fun h => by
      refine ⟨?_, by rw [offOf, hkc, if_pos (by rw [h]; decide)]; rfl, by rw [wheres, if_pos (by rw [h]; decide)]; rfl⟩
      cases hcs : cases b with
      | nil => rfl
      | cons c l => rw [openH, hch, if_neg (by simp), if_neg (by simp), if_neg (by rw [hcs]; simp)] at h; cases h
    have hsome : openH b 0 = 0 → 0 < (cases b).length := fun h => List.length_pos_iff.2 (openH_good h).2.2
    refine X.skip C.1 <| Xs C <| X.afterI (ι := Nat) (fun _ => True) (fun p8 => [(3, .pointer (some ⟨p3, 0, none⟩)), (7, .int .i64 (k : Int)), (8, .pointer (some ⟨p8, 0, none⟩))]) (fun p8 => ⟨ro, (p8, .cells [.int .i64 se, .int .i64 sn].toArray 27 (0, 0)) :: (p3, .cells [.int .i64 b.w, .int .i64 b.h, .int .i64 b.f, .slice (some ⟨pr, offr, none⟩) b.cs.length cc, .slice wb b.ws.length wc].toArray 25 (0, 0)) :: []⟩) (fun p8 _ => ?_) (fun hcont => ?_)
    · have hM : ro.le ro := RO.le_refl _
      refine Xr C rfl rfl <| R.loadAgg C rfl rfl rfl isAgg25 sizeOf25 (by repeat (first | exact Mh | apply Mt)) Tk5 <| Rm C rfl rfl <| R.callR C rfl rfl rfl rfl ((off_c hJ (he.mono hM) (hvv.mono hM) hsh (k : Int))) fun x1 so1 hm1 hq1 => ?_
      obtain ⟨vs1, hs1, rfl⟩ := hq1
      rw [hof]
      replace hM := RO.le_trans hM hm1
      refine Rm C rfl rfl <| R.ext C rfl rfl rfl rfl <| R.ext C rfl rfl rfl rfl <| R.asg C rfl rfl rfl <| Ad C rfl rfl <| Xr C rfl rfl <| R.loadAgg C rfl rfl rfl isAgg25 sizeOf25 (by repeat (first | exact Mh | apply Mt)) Tk5 <| R.callR C rfl rfl rfl rfl ((cases_c hJ (he.mono hM) (hvv.mono hM) hsh)) fun x2 so2 hm2 hq2 => ?_
      subst hq2
      rw [if_neg (show ¬ checkChart b ≠ 0 by simp [hch]), hch]
      replace hM := RO.le_trans hM hm2
      refine Rm C rfl rfl <| R.ext C rfl rfl rfl rfl <| R.ext C rfl rfl rfl rfl <| R.asg C rfl rfl rfl <| Ad C rfl rfl <| Xr C rfl rfl <| R.loadAgg C rfl rfl rfl isAgg25 sizeOf25 (by repeat (first | exact Mh | apply Mt)) Tk5 <| R.callR C rfl rfl rfl rfl ((where_c hJ (he.mono hM) (hvv.mono hM) hsh)) fun x3 so3 hm3 hq3 => ?_
      obtain ⟨vs3, hs3, rfl⟩ := hq3
      replace hM := RO.le_trans hM hm3
      refine Rm C rfl rfl <| R.ext C rfl rfl rfl rfl <| R.ext C rfl rfl rfl rfl <| R.asg C rfl rfl rfl <| Ad C rfl rfl <| Xr C rfl rfl <| R.loadAgg C rfl rfl rfl isAgg25 sizeOf25 (by repeat (first | exact Mh | apply Mt)) Tk5 <| R.loadAgg C rfl rfl rfl isAgg27 sizeOf27 (by repeat (first | exact Mh | apply Mt)) Tk2 <| R.callR C rfl rfl rfl rfl ((at_c hJ (he.mono hM) (hvv.mono hM) hsh ⟨se, sn⟩)) fun x4 so4 hm4 hq4 => ?_
      subst hq4
      rw [htl]
      replace hM := RO.le_trans hM hm4
      have hs1b := ((hs1.mono hm2).mono hm3).mono hm4
      have hs3b := hs3.mono hm4
      obtain ⟨fb, fc, rfl⟩ := hs1.form
      obtain ⟨gb, gc, rfl⟩ := hs3.form
      generalize (told b (b.square ⟨se, sn⟩) fun c => decide (c.a.s = ⟨se, sn⟩)).1 = u at *
      refine Rm C rfl rfl <| R.ext C rfl rfl rfl rfl <| R.ext C rfl rfl rfl rfl <| R.asg C rfl rfl rfl <| Ad C rfl rfl <| Xs C <| Xs C <| X.afterI (ι := Unit) (fun _ => True) (fun _ => [(3, .pointer (some ⟨p3, 0, none⟩)), (7, .int .i64 (k : Int)), (8, .pointer (some ⟨p8, 0, none⟩)), (9, .slice fb (offOf b (k : Int)).1.length fc), (11, .int .i64 ((cases b).length : Int)), (13, .slice gb (wheres b).length gc), (15, .int .i64 u), (104, .bool false)]) (fun _ => ⟨so4, (p8, .cells [.int .i64 se, .int .i64 sn].toArray 27 (0, 0)) :: (p3, .cells [.int .i64 b.w, .int .i64 b.h, .int .i64 b.f, .slice (some ⟨pr, offr, none⟩) b.cs.length cc, .slice wb b.ws.length wc].toArray 25 (0, 0)) :: []⟩) (fun _ _ => ?_) (fun hcont2 => ?_)
      · have heM := he.mono hM
        have hvM := hvv.mono hM
        have hropM := hM _ _ hropr
        refine X.cond C.1 rfl (fun h => nomatch h) (fun _ => ?_)
        refine X.skip C.1 <| Xr C rfl rfl <| Ad C rfl rfl <| Xs C <| Xr C rfl rfl <| Rf C 3 rfl rfl runUnderlying25 rfl sizeOf22 <| R.loadOne C rfl rfl rfl isAgg22 (by repeat (first | exact Mh | apply Mt)) rfl <| Rm C rfl rfl <| Rx C rfl rfl rfl runUnderlying22 sizeOf46 <| R.fieldAddr C rfl rfl rfl runUnderlying46 rfl sizeOf3 rfl <| R.loadOneRo C rfl rfl rfl isAgg3 hropM hz0 <| Ad C rfl rfl <| X.block C.1 <| X.loopI (ι := RO × Int × Int) C.1 (fun s => so4.le s.1 ∧ Z.lo ≤ s.2.1 ∧ s.2.1 ≤ Z.hi + 1 ∧ s.2.2 = ((cases b).countP (fun c => decide (c.a.off (k : Int) < s.2.1)) : Nat)) (fun s => [(3, .pointer (some ⟨p3, 0, none⟩)), (7, .int .i64 (k : Int)), (8, .pointer (some ⟨p8, 0, none⟩)), (9, .slice fb (offOf b (k : Int)).1.length fc), (11, .int .i64 ((cases b).length : Int)), (13, .slice gb (wheres b).length gc), (15, .int .i64 u), (17, .int .i64 s.2.2), (18, .int .i64 s.2.1)])
          (fun s => ⟨s.1, (p8, .cells [.int .i64 se, .int .i64 sn].toArray 27 (0, 0)) :: (p3, .cells [.int .i64 b.w, .int .i64 b.h, .int .i64 b.f, .slice (some ⟨pr, offr, none⟩) b.cs.length cc, .slice wb b.ws.length wc].toArray 25 (0, 0)) :: []⟩) (fun s => (Z.hi + 1 - s.2.1).toNat) (so4, Z.lo, 0) ⟨RO.le_refl _, Int.le_refl _, by show Z.lo ≤ Z.hi + 1; omega, by rw [hbn]; rfl⟩ rfl ⟨rfl, rfl, rfl, rfl, rfl, rfl, rfl, rfl, rfl, trivial⟩ fun s hs' hnext => ?_
        obtain ⟨ro1, i, sum⟩ := s
        obtain ⟨hl1, hi0, hi1, hsum⟩ := hs'
        simp only at hl1 hi0 hi1 hsum hnext ⊢
        have hsb := List.countP_le_length (p := fun c : Lot => decide (c.a.off (k : Int) < i)) (l := cases b)
        have he1 := heM.mono hl1
        have hv1 := hvM.mono hl1
        have hrop1 := hl1 _ _ hropM
        refine Xs C <| Xr C rfl rfl <| Rm C rfl rfl <| Rf C 3 rfl rfl runUnderlying25 rfl sizeOf22 <| R.loadOne C rfl rfl rfl isAgg22 (by repeat (first | exact Mh | apply Mt)) rfl <| Rm C rfl rfl <| Rx C rfl rfl rfl runUnderlying22 sizeOf46 <| R.fieldAddr C rfl rfl rfl runUnderlying46 rfl sizeOf3 rfl <| R.loadOneRo C rfl rfl rfl isAgg3 hrop1 hz1 <| R.int C rfl rfl rfl rfl b_leq <| R.done C <| X.cond C.1 rfl (fun hlt => ?_) (fun hlt => ?_)
        · have hlt := hlt
          simp only [decide_eq_true_eq] at hlt
          have hcases1 := h1c hi0 hlt
          have hsw1 := h1s hi0 hlt
          have hop1 := h1o hi0 hlt
          have hoff1 := h1f hi0 hlt
          have hstep := below_step (cases b) k i
          have hfl := List.length_filter_le (fun c : Lot => decide (c.a.off (k : Int) = i)) (cases b)
          have hsh4 : (swung b (k : Int) ⟨i, i⟩).short := ⟨by show (b.cs.set _ _).length ≤ 1000; simp; omega, by show b.ws.length ≤ 1000; omega⟩
          obtain ⟨B4, hB4⟩ : ∃ B4, B4 = if swingH b (k : Int) ⟨i, i⟩ = 0 then swung b (k : Int) ⟨i, i⟩ else nob := ⟨_, rfl⟩
          have hB4s : B4.short := by rw [hB4]; split; exact hsh4; exact nob_short
          refine X.skip C.1 <| Xs C <| X.block C.1 <| Xs C <| X.afterI (ι := RO × Nat × (Option Addr × Nat) × (Option Addr × Nat)) (fun s => ro1.le s.1 ∧ Ls Rc.cells 2 s.1 (.slice s.2.2.1.1 B4.cs.length s.2.2.1.2) B4.cs ∧ Ls Wt.cells 5 s.1 (.slice s.2.2.2.1 B4.ws.length s.2.2.2.2) B4.ws) (fun s => [(3, .pointer (some ⟨p3, 0, none⟩)), (7, .int .i64 (k : Int)), (8, .pointer (some ⟨p8, 0, none⟩)), (9, .slice fb (offOf b (k : Int)).1.length fc), (11, .int .i64 ((cases b).length : Int)), (13, .slice gb (wheres b).length gc), (15, .int .i64 u), (17, .int .i64 sum), (18, .int .i64 i), (19, .pointer (some ⟨s.2.1, 0, none⟩)), (20, .int .i64 (swingH b (k : Int) ⟨i, i⟩))]) (fun s => ⟨s.1, (s.2.1, .cells [.int .i64 B4.w, .int .i64 B4.h, .int .i64 B4.f, .slice s.2.2.1.1 B4.cs.length s.2.2.1.2, .slice s.2.2.2.1 B4.ws.length s.2.2.2.2].toArray 25 (0, 0)) :: (p8, .cells [.int .i64 se, .int .i64 sn].toArray 27 (0, 0)) :: (p3, .cells [.int .i64 b.w, .int .i64 b.h, .int .i64 b.f, .slice (some ⟨pr, offr, none⟩) b.cs.length cc, .slice wb b.ws.length wc].toArray 25 (0, 0)) :: []⟩) (fun s hs' => ?_) (fun hcont3 => ?_)
          · obtain ⟨ro5, p19, ⟨cb4, cc4⟩, ⟨wb4, wc4⟩⟩ := s
            obtain ⟨hl5, hc4, hw4⟩ := hs'
            simp only at hl5 hc4 hw4 ⊢
            have he5 := he1.mono hl5
            have hv5 := hv1.mono hl5
            have hs5 := hs1b.mono (RO.le_trans hl1 hl5)
            have hB4v : BkV ro5 (.agg [.int .i64 B4.w, .int .i64 B4.h, .int .i64 B4.f, .slice cb4 B4.cs.length cc4, .slice wb4 B4.ws.length wc4].toArray) B4 := ⟨_, _, rfl, hc4, hw4⟩
            by_cases hq : ∃ c ∈ cases b, c.a.off (k : Int) = i
            · have hH : swingH b (k : Int) ⟨i, i⟩ = 0 := by rw [hsw1, hop1, if_pos hq]
              have hop : openH (swung b (k : Int) ⟨i, i⟩) 0 = 0 := by rw [hop1, if_pos hq]
              have hcon := (hoi i).2 hq
              rw [if_pos hH] at hB4
              subst hB4
              rw [hH]
              have hchs := good_iff.2 (openH_good hop).1
              have hpos := List.length_pos_iff.2 (openH_good hop).2.2
              have hlen4 : (cases (swung b (k : Int) ⟨i, i⟩)).length = ((cases b).filter fun c => decide (c.a.off (k : Int) = i)).length := by rw [hcases1]
              have heq : swung b (k : Int) ⟨i, i⟩ = { b with cs := b.cs.set (k : Int).toNat ⟨i, i⟩ } := by rw [swung, Int.toNat_natCast, hzd, hcut1 Z i hi0 hlt]
              refine Xs C <| Xr C rfl rfl <| Rm C rfl rfl <| R.int C rfl rfl rfl rfl b_eql <| R.fixv (t := 130) (v' := .bool true) rfl (by rfl) <| Rm C rfl rfl <| Rm C rfl rfl <| R.callP C rfl rfl rfl rfl (holdsR_c hJ hs5 (by omega) i) <| R.neBool C rfl rfl rfl rfl runUnderlying4 <| R.fixv (t := 134) (v' := .bool false) rfl (by (exact congrArg Value.bool (by rw [hcon]; rfl))) <| Rm C rfl rfl <| R.fixv (t := 135) (v' := .bool false) rfl (by rfl) <| Rm C rfl rfl <| R.int C rfl rfl rfl rfl b_neq <| R.fixv (t := 137) (v' := .bool false) rfl (by rfl) <| Rm C rfl rfl <| R.fixv (t := 138) (v' := .bool false) rfl (by rfl) <| R.pass C rfl rfl <| R.pass C rfl rfl <| R.pass C rfl rfl <| R.pass C rfl rfl <| R.pass C rfl rfl <| R.pass C rfl rfl <| R.pass C rfl rfl <| R.pass C rfl rfl <| R.pickF C rfl rfl rfl rfl <| R.pickF C rfl rfl rfl rfl <| R.done C <| X.cond C.1 rfl (fun h => nomatch h) (fun _ => ?_)
              refine X.skip C.1 <| Xs C <| Xr C rfl rfl <| Rm C rfl rfl <| R.int C rfl rfl rfl rfl b_neq <| R.fixv (t := 150) (v' := .bool false) rfl (by rfl) <| R.done C <| X.cond C.1 rfl (fun h => nomatch h) (fun _ => ?_)
              refine X.skip C.1 <| Xr C rfl rfl <| R.loadAgg C rfl rfl rfl isAgg25 sizeOf25 (by repeat (first | exact Mh | apply Mt)) Tk5 <| R.callR C rfl rfl rfl rfl ((cases_c hJ he5 hB4v hB4s)) fun y6 ro6 hl6 hq6 => ?_
              subst hq6
              rw [if_neg (show ¬ checkChart (swung b (k : Int) ⟨i, i⟩) ≠ 0 by simp [hchs]), hchs]
              refine Rm C rfl rfl <| R.ext C rfl rfl rfl rfl <| R.ext C rfl rfl rfl rfl <| R.asg C rfl rfl rfl <| Ad C rfl rfl <| Xr C rfl rfl <| R.loadAgg C rfl rfl rfl isAgg25 sizeOf25 (by repeat (first | exact Mh | apply Mt)) Tk5 <| Rm C rfl rfl <| R.callR C rfl rfl rfl rfl ((off_c hJ (he5.mono hl6) (hB4v.mono hl6) hB4s (k : Int))) fun y7 ro7 hl7 hq7 => ?_
              obtain ⟨vl7, hs7, rfl⟩ := hq7
              have hoe := hoff1 hop
              replace hs7 : LsI ro7 vl7 [i] := by rw [hoe] at hs7; exact hs7
              rw [hoe]
              refine Rm C rfl rfl <| R.ext C rfl rfl rfl rfl <| R.ext C rfl rfl rfl rfl <| R.asg C rfl rfl rfl <| Ad C rfl rfl <| Xs C <| Xs C <| Xd C fun hok => Dm C 0 hok rfl rfl rfl <| Di C 1 hok rfl rfl rfl rfl rfl b_neq <| D.fixv (t := 163) (v' := .bool false) rfl (by rfl) <| Dm C 2 hok rfl rfl rfl <| D.fixv (t := 164) (v' := .bool false) rfl (by rfl) <| Dm C 3 hok rfl rfl rfl <| Di C 4 hok rfl rfl rfl rfl rfl b_neq <| D.fixv (t := 166) (v' := .bool false) rfl (by rfl) <| Dp 5 hok (fun _ _ _ A h => R.pickF C rfl (A.w rfl rfl) (A.x rfl rfl) (A.x rfl rfl) h) <| Dm C 6 hok rfl rfl rfl <| D.fixv (t := 168) (v' := .bool false) rfl (by rfl) <| Dm C 7 hok rfl rfl rfl <| Di C 8 hok rfl rfl rfl rfl rfl b_lss <| D.fixv (t := 170) (v' := .bool false) rfl (by (exact congrArg Value.bool (by simp; omega))) <| Dp 9 hok (fun _ _ _ A h => R.pickF C rfl (A.w rfl rfl) (A.x rfl rfl) (A.x rfl rfl) h) <| Dm C 10 hok rfl rfl rfl <| D.fixv (t := 172) (v' := .bool false) rfl (by rfl) <| D5 C 11 hok rfl rfl isAgg25 sizeOf25 (by repeat (first | exact Mh | apply Mt)) Tk5 <| D5 C 12 hok rfl rfl isAgg25 sizeOf25 (by repeat (first | exact Mh | apply Mt)) Tk5 <| Dm C 13 hok rfl rfl rfl <| Dm C 14 hok rfl rfl rfl <| De 15 (some 177) [true, true] hok (fun σr rest A hk => ?_)
              refine R.callP C rfl (A.w rfl rfl) (A.x rfl rfl) (A.s rfl rfl) (one_c hJ i _) (hk _ _ ⟨(QFs.cons (QF.of rfl (fun _ _ A h => R.loadAgg C rfl (A.w rfl rfl) (A.x rfl rfl) isAgg25 sizeOf25 (by repeat (first | exact Mh | apply Mt)) Tk5 h)) (QFs.cons (QF.of rfl (fun _ _ A h => R.loadAgg C rfl (A.w rfl rfl) (A.x rfl rfl) isAgg25 sizeOf25 (by repeat (first | exact Mh | apply Mt)) Tk5 h)) QFs.nil)), ?_⟩)
              refine De 16 (some 178) [false, true] hok (fun σr rest A hk => ?_)
              refine R.callR C rfl (A.w rfl rfl) (A.x rfl rfl) (A.s rfl rfl) ((swungR_c hJ ((hv5.mono hl6).mono hl7) hg (k := (k : Int)) (by omega) (by omega) ⟨i, i⟩)) fun y8 ro8 hl8 hv8 => hk _ _ ⟨(QFs.cons (QF.of rfl (fun _ _ A h => R.loadAgg C rfl (A.w rfl rfl) (A.x rfl rfl) isAgg25 sizeOf25 (by repeat (first | exact Mh | apply Mt)) Tk5 h)) QFs.nil), ?_⟩
              refine De 17 (some 179) [false] hok (fun σr rest A hk => ?_)
              refine R.callP C rfl (A.w rfl rfl) (A.x rfl rfl) (A.s rfl rfl) ((sameR_c hJ (((hB4v.mono hl6).mono hl7).mono hl8) hv8 heq hB4s)) (hk _ _ ⟨QFs.nil, ?_⟩)
              refine Dp 18 hok (fun _ _ _ A h => R.not C rfl (A.w rfl rfl) (A.x rfl rfl) h) <| D.fixv (t := 180) (v' := .bool false) rfl (by rfl) <| Dp 19 hok (fun _ _ _ A h => R.pickF C rfl (A.w rfl rfl) (A.x rfl rfl) (A.x rfl rfl) h) <| Dm C 20 hok rfl rfl rfl <| D.fixv (t := 182) (v' := .bool false) rfl (by rfl) <| Dm C 21 hok rfl rfl rfl <| Dm C 22 hok rfl rfl rfl <| De 23 (some 185) [] hok (fun σr rest A hk => ?_)
              refine R.buildSlice C (vs := _) rfl (A.w rfl rfl) (show pvals _ _ = some (numbered 0 [_]) from (A.p rfl rfl)) rfl runUnderlying28 sizeOf3 zeroValue3 (by decide) (Cat.one rfl rfl) fun p185 => hk _ _ ⟨QFs.nil, ?_⟩
              refine De 24 (some 186) [] hok (fun σr rest A hk => ?_)
              refine R.persist C.1 fun ro9 hl9 hp9 => ?_
              have hs9 := (hs7.mono hl8).mono hl9
              refine R.callP C rfl (A.w rfl rfl) (A.x rfl rfl) (A.s rfl rfl) ((sameInts_c hJ hs9 (Ls.lit (xs := [i]) (t := 3) (fq := (0, 0)) ic_len hp9) (by simp) (by simp))) (hk _ _ ⟨QFs.nil, ?_⟩)
              refine Dp 25 hok (fun _ _ _ A h => R.not C rfl (A.w rfl rfl) (A.x rfl rfl) h) <| D.fixv (t := 187) (v' := .bool false) rfl (by (exact congrArg Value.bool (by rw [sameInts_iff]; simp))) <| Dp 26 hok (fun _ _ _ A h => R.pickF C rfl (A.w rfl rfl) (A.x rfl rfl) (A.x rfl rfl) h) <| D.done C hok (by kernel_rfl) <| X.cond C.1 rfl (fun h => nomatch h) (fun _ => ?_)
              refine X.skip C.1 <| X.region C rfl rfl <| Rm C rfl rfl <| Rm C rfl rfl <| R.int C rfl rfl rfl rfl (b_add (by omega) (by omega)) <| Ad C rfl rfl <| X.inBlock C.1 <| X.region C rfl rfl <| Rm C rfl rfl <| R.int C rfl rfl rfl rfl (b_add (by omega) (by omega)) <| Ad C rfl rfl <| X.drop C.1 (List.sublist_cons_self _ _) <| X.weaken ?_ (hnext (ro9, i + 1, sum + ((cases (swung b (k : Int) ⟨i, i⟩)).length : Int)) ⟨RO.le_trans hl1 (RO.le_trans hl5 (RO.le_trans hl6 (RO.le_trans hl7 (RO.le_trans hl8 hl9)))), by show Z.lo ≤ i + 1; omega, by show i + 1 ≤ Z.hi + 1; omega, by rw [hstep, hsum, hlen4]; rfl⟩ (by show (Z.hi + 1 - (i + 1)).toNat < (Z.hi + 1 - i).toNat; omega))
              exact ⟨rfl, rfl, rfl, rfl, rfl, rfl, rfl, rfl, rfl, trivial⟩
            · have hH : swingH b (k : Int) ⟨i, i⟩ = 9 := by rw [hsw1, hop1, if_neg hq]
              have hcon : (offOf b (k : Int)).1.contains i = false := by
                rw [Bool.eq_false_iff]; exact fun h => hq ((hoi i).1 h)
              rw [if_neg (by rw [hH]; decide)] at hB4
              subst hB4
              rw [hH]
              have hz : ((cases b).filter fun c => decide (c.a.off (k : Int) = i)).length = 0 := by
                rw [List.length_eq_zero_iff, List.filter_eq_nil_iff]
                intro c hc h
                exact hq ⟨c, hc, by simpa using h⟩
              refine Xs C <| Xr C rfl rfl <| Rm C rfl rfl <| R.int C rfl rfl rfl rfl b_eql <| R.fixv (t := 130) (v' := .bool false) rfl (by rfl) <| Rm C rfl rfl <| Rm C rfl rfl <| R.callP C rfl rfl rfl rfl (holdsR_c hJ hs5 (by omega) i) <| R.neBool C rfl rfl rfl rfl runUnderlying4 <| R.fixv (t := 134) (v' := .bool false) rfl (by (exact congrArg Value.bool (by rw [hcon]; rfl))) <| Rm C rfl rfl <| R.fixv (t := 135) (v' := .bool false) rfl (by rfl) <| Rm C rfl rfl <| R.int C rfl rfl rfl rfl b_neq <| R.fixv (t := 137) (v' := .bool true) rfl (by rfl) <| Rm C rfl rfl <| R.fixv (t := 138) (v' := .bool true) rfl (by rfl) <| Rm C rfl rfl <| R.int C rfl rfl rfl rfl b_neq <| R.fixv (t := 140) (v' := .bool false) rfl (by rfl) <| Rm C rfl rfl <| R.fixv (t := 141) (v' := .bool false) rfl (by rfl) <| R.loadAgg C rfl rfl rfl isAgg25 sizeOf25 (by repeat (first | exact Mh | apply Mt)) Tk5 <| R.build C rfl rfl rfl zeroValue25 rfl runUnderlying25 (by kernel_rfl) .nil <| R.callP C rfl rfl rfl rfl ((sameR_c hJ hB4v nob_val rfl hB4s)) <| R.not C rfl rfl rfl <| R.fixv (t := 145) (v' := .bool false) rfl (by rfl) <| R.pickF C rfl rfl rfl rfl <| R.pickT C rfl rfl rfl rfl <| R.pickF C rfl rfl rfl rfl <| R.done C <| X.cond C.1 rfl (fun h => nomatch h) (fun _ => ?_)
              refine X.skip C.1 <| Xs C <| Xr C rfl rfl <| Rm C rfl rfl <| R.int C rfl rfl rfl rfl b_neq <| R.fixv (t := 150) (v' := .bool true) rfl (by rfl) <| R.done C <| X.cond C.1 rfl (fun _ => ?_) (fun h => nomatch h)
              refine X.exit C.1 rfl <| X.region C rfl rfl <| Rm C rfl rfl <| R.int C rfl rfl rfl rfl (b_add (by omega) (by omega)) <| Ad C rfl rfl <| X.drop C.1 (List.sublist_cons_self _ _) <| X.weaken ?_ (hnext (ro5, i + 1, sum) ⟨RO.le_trans hl1 hl5, by show Z.lo ≤ i + 1; omega, by show i + 1 ≤ Z.hi + 1; omega, by rw [hstep, hz]; exact hsum⟩ (by show (Z.hi + 1 - (i + 1)).toNat < (Z.hi + 1 - i).toNat; omega))
              exact ⟨rfl, rfl, rfl, rfl, rfl, rfl, rfl, rfl, rfl, trivial⟩
          · have _ := hcont3
            refine Xd C fun hok => D5 C 0 hok rfl rfl isAgg25 sizeOf25 (by repeat (first | exact Mh | apply Mt)) Tk5 <| Dm C 1 hok rfl rfl rfl <| Dm C 2 hok rfl rfl rfl <| D.eP2 (i := 3) (i' := 8) (dst := (some 125)) (dst' := (some 19)) [true] [true] hok rfl rfl (by kernel_rfl) (by kernel_rfl) (by kernel_rfl) (fun σr rest A hk => ?_) (fun σr rest A hk => ?_)
            ·
              refine R.callP C rfl (A.w rfl rfl) (A.x rfl rfl) (A.s rfl rfl) (one_c hJ _ _) (hk _ _ ⟨(QFs.cons (QF.of rfl (fun _ _ A h => R.loadAgg C rfl (A.w rfl rfl) (A.x rfl rfl) isAgg25 sizeOf25 (by repeat (first | exact Mh | apply Mt)) Tk5 h)) QFs.nil), ?_⟩)
              refine D.eP2 (i := 4) (i' := 8) (dst := (some 126)) (dst' := (some 19)) [false] [true] hok rfl rfl (by kernel_rfl) (by kernel_rfl) (by kernel_rfl) (fun σr rest A hk => ?_) (fun σr rest A hk => ?_)
              ·
                refine R.callR C rfl (A.w rfl rfl) (A.x rfl rfl) (A.s rfl rfl) ((swing_c hJ he1 hv1 hsh (k : Int) ⟨i, i⟩)) fun w4 ro4 hl4 hp4 => hk _ _ ⟨QFs.nil, ?_⟩
                obtain ⟨v4, b4, hv4, hs4, hb4, rfl⟩ := hp4.both hsh4
                rw [← hB4] at hb4
                subst hb4
                obtain ⟨vc4, vw4, rfl, hc4, hw4⟩ := hv4
                obtain ⟨cb4, cc4, rfl⟩ := hc4.form
                obtain ⟨wb4, wc4, rfl⟩ := hw4.form
                refine Dm C 5 hok rfl rfl rfl <| Dp 6 hok (fun _ _ _ A h => R.ext C rfl (A.w rfl rfl) (A.x rfl rfl) rfl h) <| Dp 7 hok (fun _ _ _ A h => R.ext C rfl (A.w rfl rfl) (A.x rfl rfl) rfl h) <| De 8 (some 19) [] hok (fun σr rest A hk => ?_)
                refine R.alloc C rfl (A.w rfl rfl) zeroValue25 rfl fun p19 => hk _ _ ⟨QFs.nil, ?_⟩
                refine De 9 none [] hok (fun σr rest A hk => ?_)
                refine R.store C rfl (A.w rfl rfl) (A.x rfl rfl) (A.x rfl rfl) sizeOf25 rfl rfl rfl (by repeat (first | exact Uh | apply Ut)) (.here (.here (.here (.here (.here .nil))))) (hk undef _ ⟨QFs.nil, ?_⟩)
                refine Dp 10 hok (fun _ _ _ A h => R.asg C rfl (A.w rfl rfl) (A.x rfl rfl) h) <| D.done C hok (by kernel_rfl) <| X.weaken ?_ (hcont3 (ro4, p19, (cb4, cc4), (wb4, wc4)) ⟨hl4, hc4, hw4⟩)
                exact ⟨rfl, rfl, rfl, rfl, rfl, rfl, rfl, rfl, rfl, rfl, rfl, trivial⟩
              ·
                refine R.alloc C rfl (A.w rfl rfl) zeroValue25 rfl fun p19 => hk _ _ ⟨(QFs.cons (QF.of rfl (fun _ _ A h => R.loadAgg C rfl (A.w rfl rfl) (A.x rfl rfl) isAgg25 sizeOf25 (by repeat (first | exact Mh | apply Mt)) Tk5 h)) QFs.nil), ?_⟩
                refine De 4 (some 126) [false] hok (fun σr rest A hk => ?_)
                refine R.callR C rfl (A.w rfl rfl) (A.x rfl rfl) (A.s rfl rfl) ((swing_c hJ he1 hv1 hsh (k : Int) ⟨i, i⟩)) fun w4 ro4 hl4 hp4 => hk _ _ ⟨QFs.nil, ?_⟩
                obtain ⟨v4, b4, hv4, hs4, hb4, rfl⟩ := hp4.both hsh4
                rw [← hB4] at hb4
                subst hb4
                obtain ⟨vc4, vw4, rfl, hc4, hw4⟩ := hv4
                obtain ⟨cb4, cc4, rfl⟩ := hc4.form
                obtain ⟨wb4, wc4, rfl⟩ := hw4.form
                refine Dm C 5 hok rfl rfl rfl <| Dp 6 hok (fun _ _ _ A h => R.ext C rfl (A.w rfl rfl) (A.x rfl rfl) rfl h) <| Dp 7 hok (fun _ _ _ A h => R.ext C rfl (A.w rfl rfl) (A.x rfl rfl) rfl h) <| De 9 none [] hok (fun σr rest A hk => ?_)
                refine R.store C rfl (A.w rfl rfl) (A.x rfl rfl) (A.x rfl rfl) sizeOf25 rfl rfl rfl (by repeat (first | exact Uh | apply Ut)) (.here (.here (.here (.here (.here .nil))))) (hk undef _ ⟨QFs.nil, ?_⟩)
                refine Dp 10 hok (fun _ _ _ A h => R.asg C rfl (A.w rfl rfl) (A.x rfl rfl) h) <| D.done C hok (by kernel_rfl) <| X.weaken ?_ (hcont3 (ro4, p19, (cb4, cc4), (wb4, wc4)) ⟨hl4, hc4, hw4⟩)
                exact ⟨rfl, rfl, rfl, rfl, rfl, rfl, rfl, rfl, rfl, rfl, rfl, trivial⟩
            ·
              refine R.alloc C rfl (A.w rfl rfl) zeroValue25 rfl fun p19 => hk _ _ ⟨(QFs.cons (QF.of rfl (fun _ _ A h => R.loadAgg C rfl (A.w rfl rfl) (A.x rfl rfl) isAgg25 sizeOf25 (by repeat (first | exact Mh | apply Mt)) Tk5 h)) QFs.nil), ?_⟩
              refine De 3 (some 125) [true] hok (fun σr rest A hk => ?_)
              refine R.callP C rfl (A.w rfl rfl) (A.x rfl rfl) (A.s rfl rfl) (one_c hJ _ _) (hk _ _ ⟨(QFs.cons (QF.of rfl (fun _ _ A h => R.loadAgg C rfl (A.w rfl rfl) (A.x rfl rfl) isAgg25 sizeOf25 (by repeat (first | exact Mh | apply Mt)) Tk5 h)) QFs.nil), ?_⟩)
              refine De 4 (some 126) [false] hok (fun σr rest A hk => ?_)
              refine R.callR C rfl (A.w rfl rfl) (A.x rfl rfl) (A.s rfl rfl) ((swing_c hJ he1 hv1 hsh (k : Int) ⟨i, i⟩)) fun w4 ro4 hl4 hp4 => hk _ _ ⟨QFs.nil, ?_⟩
              obtain ⟨v4, b4, hv4, hs4, hb4, rfl⟩ := hp4.both hsh4
              rw [← hB4] at hb4
              subst hb4
              obtain ⟨vc4, vw4, rfl, hc4, hw4⟩ := hv4
              obtain ⟨cb4, cc4, rfl⟩ := hc4.form
              obtain ⟨wb4, wc4, rfl⟩ := hw4.form
              refine Dm C 5 hok rfl rfl rfl <| Dp 6 hok (fun _ _ _ A h => R.ext C rfl (A.w rfl rfl) (A.x rfl rfl) rfl h) <| Dp 7 hok (fun _ _ _ A h => R.ext C rfl (A.w rfl rfl) (A.x rfl rfl) rfl h) <| De 9 none [] hok (fun σr rest A hk => ?_)
              refine R.store C rfl (A.w rfl rfl) (A.x rfl rfl) (A.x rfl rfl) sizeOf25 rfl rfl rfl (by repeat (first | exact Uh | apply Ut)) (.here (.here (.here (.here (.here .nil))))) (hk undef _ ⟨QFs.nil, ?_⟩)
              refine Dp 10 hok (fun _ _ _ A h => R.asg C rfl (A.w rfl rfl) (A.x rfl rfl) h) <| D.done C hok (by kernel_rfl) <| X.weaken ?_ (hcont3 (ro4, p19, (cb4, cc4), (wb4, wc4)) ⟨hl4, hc4, hw4⟩)
              exact ⟨rfl, rfl, rfl, rfl, rfl, rfl, rfl, rfl, rfl, rfl, rfl, trivial⟩
        · have hlt := hlt
          simp only [decide_eq_false_iff_not] at hlt
          obtain rfl : i = Z.hi + 1 := by omega
          rw [hba] at hsum
          have hs3e := hs3b.mono hl1
          refine X.exit C.1 rfl <| Xs C <| Xr C rfl rfl <| Rm C rfl rfl <| Rm C rfl rfl <| R.int C rfl rfl rfl rfl b_neq <| R.fixv (t := 194) (v' := .bool false) rfl (by (exact congrArg Value.bool (by rw [hsum]; simp))) <| Rm C rfl rfl <| R.fixv (t := 195) (v' := .bool false) rfl (by rfl) <| Rm C rfl rfl <| R.lenSlice C rfl rfl rfl runUnderlying28 <| R.int C rfl rfl rfl rfl b_gtr <| R.fixv (t := 198) (v' := .bool false) rfl (by (exact congrArg Value.bool (by simp; omega))) <| R.pickF C rfl rfl rfl rfl <| Rm C rfl rfl <| R.fixv (t := 200) (v' := .bool false) rfl (by rfl) <| Rm C rfl rfl <| R.lenSlice C rfl rfl rfl runUnderlying41 <| Rf C 0 rfl rfl runUnderlying25 rfl sizeOf3 <| R.loadOne C rfl rfl rfl isAgg3 (by repeat (first | exact Mh | apply Mt)) rfl <| Rf C 1 rfl rfl runUnderlying25 rfl sizeOf3 <| R.loadOne C rfl rfl rfl isAgg3 (by repeat (first | exact Mh | apply Mt)) rfl <| R.int C rfl rfl rfl rfl (b_mul (by omega) (by omega)) <| R.int C rfl rfl rfl rfl b_gtr <| R.fixv (t := 208) (v' := .bool false) rfl (by (exact congrArg Value.bool (by simp; omega))) <| R.pickF C rfl rfl rfl rfl <| R.done C <| X.cond C.1 rfl (fun h => nomatch h) (fun _ => ?_)
          refine X.skip C.1 <| Xs C <| Xr C rfl rfl <| Ad C rfl rfl <| X.block C.1 <| X.loopI (ι := Nat) C.1 (fun i => i ≤ (wheres b).length) (fun i => [(3, .pointer (some ⟨p3, 0, none⟩)), (8, .pointer (some ⟨p8, 0, none⟩)), (11, .int .i64 ((cases b).length : Int)), (13, .slice gb (wheres b).length gc), (15, .int .i64 u), (25, .int .i64 (i : Int))])
            (fun _ => ⟨ro1, (p8, .cells [.int .i64 se, .int .i64 sn].toArray 27 (0, 0)) :: (p3, .cells [.int .i64 b.w, .int .i64 b.h, .int .i64 b.f, .slice (some ⟨pr, offr, none⟩) b.cs.length cc, .slice wb b.ws.length wc].toArray 25 (0, 0)) :: []⟩) (fun i => (wheres b).length - i) 0 (Nat.zero_le _) rfl ⟨rfl, rfl, rfl, rfl, rfl, rfl, trivial⟩ fun i hi hnext2 => ?_
          refine Xs C <| Xr C rfl rfl <| Rm C rfl rfl <| Rm C rfl rfl <| R.lenSlice C rfl rfl rfl runUnderlying41 <| R.int C rfl rfl rfl rfl b_lss <| R.done C <| X.cond C.1 rfl (fun hlt2 => ?_) (fun hlt2 => ?_)
          · have hlt2 := hlt2
            simp only [decide_eq_true_eq] at hlt2
            have hi' : i < (wheres b).length := by omega
            obtain ⟨ps, offs', caps, lls, ts, fqs, hsls, hrops, hsubs⟩ := hs3e.at Sq.len (by omega)
            cases hsls
            have hsi := hsubs i hi'
            have hqin := hwin _ (List.getElem_mem hi')
            have hprev : ∀ h0 : 0 < i, Sub (offs' + (i - 1) * 2) 2 lls (Sq.cells ((wheres b)[i - 1]'(by omega))) ∧ sqLt ((wheres b)[i - 1]'(by omega)) (wheres b)[i] := fun h0 => ⟨hsubs (i - 1) (by omega), List.pairwise_iff_getElem.1 hup (i - 1) i (by omega) hi' (by omega)⟩
            generalize (wheres b)[i] = q at hsi hqin hprev
            have hg0 : lls[offs' + i * 2 + 0]? = some (.int .i64 q.e) := by simpa [Sq.cells] using hsi.get 0 (by decide)
            have hg1 : lls[offs' + i * 2 + 1]? = some (.int .i64 q.n) := by simpa [Sq.cells] using hsi.get 1 (by decide)
            refine X.skip C.1 <| Xs C <| X.block C.1 <| Xs C <| Xd C fun hok => Dm C 0 hok rfl rfl rfl <| Dm C 1 hok rfl rfl rfl <| Dx C 2 hok rfl rfl rfl runUnderlying41 sizeOf27 <| Df C 3 hok rfl rfl rfl runUnderlying27 rfl sizeOf3 rfl <| Dl 4 hok (fun _ _ A h => R.loadOneRo C rfl (A.w rfl rfl) (A.x rfl rfl) isAgg3 hrops hg0 h) <| Df (off' := 0) C 5 hok rfl rfl rfl runUnderlying25 rfl sizeOf3 rfl <| D1 C 6 hok rfl rfl isAgg3 (by repeat (first | exact Mh | apply Mt)) rfl <| Di C 7 hok rfl rfl rfl rfl rfl (b_sub (by omega) (by omega)) <| De 8 (some 224) [false, false] hok (fun σr rest A hk => ?_)
            refine R.callP C rfl (A.w rfl rfl) (A.x rfl rfl) (A.s rfl rfl) (betweenR_c hJ _ _ _ _) (hk _ _ ⟨QFs.nil, ?_⟩)
            refine D.fixv (t := 224) (v' := .bool true) rfl (by (exact congrArg Value.bool (by simp [between]; omega))) <| Dp 9 hok (fun _ _ _ A h => R.not C rfl (A.w rfl rfl) (A.x rfl rfl) h) <| D.fixv (t := 225) (v' := .bool false) rfl rfl <| D.fixv (t := 225) (v' := .bool false) rfl (by rfl) <| Dm C 10 hok rfl rfl rfl <| D.fixv (t := 226) (v' := .bool false) rfl (by rfl) <| Dm C 11 hok rfl rfl rfl <| Dm C 12 hok rfl rfl rfl <| Dx C 13 hok rfl rfl rfl runUnderlying41 sizeOf27 <| Df C 14 hok rfl rfl rfl runUnderlying27 rfl sizeOf3 rfl <| Dl 15 hok (fun _ _ A h => R.loadOneRo C rfl (A.w rfl rfl) (A.x rfl rfl) isAgg3 hrops hg1 h) <| Df (off' := 1) C 16 hok rfl rfl rfl runUnderlying25 rfl sizeOf3 rfl <| D1 C 17 hok rfl rfl isAgg3 (by repeat (first | exact Mh | apply Mt)) rfl <| Di C 18 hok rfl rfl rfl rfl rfl (b_sub (by omega) (by omega)) <| De 19 (some 235) [false, false] hok (fun σr rest A hk => ?_)
            refine R.callP C rfl (A.w rfl rfl) (A.x rfl rfl) (A.s rfl rfl) (betweenR_c hJ _ _ _ _) (hk _ _ ⟨QFs.nil, ?_⟩)
            refine D.fixv (t := 235) (v' := .bool true) rfl (by (exact congrArg Value.bool (by simp [between]; omega))) <| Dp 20 hok (fun _ _ _ A h => R.not C rfl (A.w rfl rfl) (A.x rfl rfl) h) <| D.fixv (t := 236) (v' := .bool false) rfl rfl <| D.fixv (t := 236) (v' := .bool false) rfl (by rfl) <| Dp 21 hok (fun _ _ _ A h => R.pickF C rfl (A.w rfl rfl) (A.x rfl rfl) (A.x rfl rfl) h) <| Dm C 22 hok rfl rfl rfl <| D.fixv (t := 238) (v' := .bool false) rfl (by rfl) <| Dm C 23 hok rfl rfl rfl <| Di C 24 hok rfl rfl rfl rfl rfl b_gtr <| Dm C 25 hok rfl rfl rfl <| D.fix (t := 241) rfl (fun hi0' => ?_) (fun hi0' => ?_)
            · have hi0' := hi0'
              simp only [gt_iff_lt, decide_eq_true_eq] at hi0'
              have h0 : 0 < i := by omega
              obtain ⟨hsp, hlt3⟩ := hprev h0
              have hidx : ((i : Int) - 1).toNat = i - 1 := by omega
              generalize (wheres b)[i - 1]'(by omega) = r at hsp hlt3
              have hr0 : lls[offs' + ((i : Int) - 1).toNat * 2 + 0]? = some (.int .i64 r.e) := by rw [hidx]; simpa [Sq.cells] using hsp.get 0 (by decide)
              have hr1 : lls[offs' + ((i : Int) - 1).toNat * 2 + 1]? = some (.int .i64 r.n) := by rw [hidx]; simpa [Sq.cells] using hsp.get 1 (by decide)
              unfold sqLt at hlt3
              refine Dm C 26 hok rfl rfl rfl <| Dm C 27 hok rfl rfl rfl <| Dx C 28 hok rfl rfl rfl runUnderlying41 sizeOf27 <| Df C 29 hok rfl rfl rfl runUnderlying27 rfl sizeOf3 rfl <| Dl 30 hok (fun _ _ A h => R.loadOneRo C rfl (A.w rfl rfl) (A.x rfl rfl) isAgg3 hrops hg1 h) <| Dm C 31 hok rfl rfl rfl <| Dm C 32 hok rfl rfl rfl <| Di C 33 hok rfl rfl rfl rfl rfl (b_sub (by omega) (by omega)) <| Dx C 34 hok rfl rfl rfl runUnderlying41 sizeOf27 <| Df C 35 hok rfl rfl rfl runUnderlying27 rfl sizeOf3 rfl <| Dl 36 hok (fun _ _ A h => R.loadOneRo C rfl (A.w rfl rfl) (A.x rfl rfl) isAgg3 hrops hr1 h) <| Di C 37 hok rfl rfl rfl rfl rfl b_lss <| D.fixv (t := 253) (v' := .bool false) rfl (by (exact congrArg Value.bool (by simp; omega))) <| Dm C 38 hok rfl rfl rfl <| D.fixv (t := 254) (v' := .bool false) rfl (by rfl) <| Dm C 39 hok rfl rfl rfl <| Dm C 40 hok rfl rfl rfl <| Dx C 41 hok rfl rfl rfl runUnderlying41 sizeOf27 <| Df C 42 hok rfl rfl rfl runUnderlying27 rfl sizeOf3 rfl <| Dl 43 hok (fun _ _ A h => R.loadOneRo C rfl (A.w rfl rfl) (A.x rfl rfl) isAgg3 hrops hg1 h) <| Dm C 44 hok rfl rfl rfl <| Dm C 45 hok rfl rfl rfl <| Di C 46 hok rfl rfl rfl rfl rfl (b_sub (by omega) (by omega)) <| Dx C 47 hok rfl rfl rfl runUnderlying41 sizeOf27 <| Df C 48 hok rfl rfl rfl runUnderlying27 rfl sizeOf3 rfl <| Dl 49 hok (fun _ _ A h => R.loadOneRo C rfl (A.w rfl rfl) (A.x rfl rfl) isAgg3 hrops hr1 h) <| Di C 50 hok rfl rfl rfl rfl rfl b_eql <| Dm C 51 hok rfl rfl rfl <| D.fix (t := 267) rfl (fun heq => ?_) (fun heq => ?_)
              · have heq := heq
                have heq' : q.n = r.n := by simpa using heq
                refine Dm C 52 hok rfl rfl rfl <| Dm C 53 hok rfl rfl rfl <| Dx C 54 hok rfl rfl rfl runUnderlying41 sizeOf27 <| Df C 55 hok rfl rfl rfl runUnderlying27 rfl sizeOf3 rfl <| Dl 56 hok (fun _ _ A h => R.loadOneRo C rfl (A.w rfl rfl) (A.x rfl rfl) isAgg3 hrops hg0 h) <| Dm C 57 hok rfl rfl rfl <| Dm C 58 hok rfl rfl rfl <| Di C 59 hok rfl rfl rfl rfl rfl (b_sub (by omega) (by omega)) <| Dx C 60 hok rfl rfl rfl runUnderlying41 sizeOf27 <| Df C 61 hok rfl rfl rfl runUnderlying27 rfl sizeOf3 rfl <| Dl 62 hok (fun _ _ A h => R.loadOneRo C rfl (A.w rfl rfl) (A.x rfl rfl) isAgg3 hrops hr0 h) <| Di C 63 hok rfl rfl rfl rfl rfl b_leq <| D.fixv (t := 279) (v' := .bool false) rfl (by (exact congrArg Value.bool (by simp; omega))) <| Dp 64 hok (fun _ _ _ A h => R.pickT C rfl (A.w rfl rfl) (A.x rfl rfl) (A.x rfl rfl) h) <| Dp 65 hok (fun _ _ _ A h => R.pickF C rfl (A.w rfl rfl) (A.x rfl rfl) (A.x rfl rfl) h) <| Dp 66 hok (fun _ _ _ A h => R.pickT C rfl (A.w rfl rfl) (A.x rfl rfl) (A.x rfl rfl) h) <| Dp 67 hok (fun _ _ _ A h => R.pickF C rfl (A.w rfl rfl) (A.x rfl rfl) (A.x rfl rfl) h) <| D.done C hok (by kernel_rfl) <| X.cond C.1 rfl (fun h => nomatch h) (fun _ => ?_)
                refine X.skip C.1 <| X.inBlock C.1 <| X.region C rfl rfl <| Rm C rfl rfl <| R.int C rfl rfl rfl rfl (b_add (by omega) (by omega)) <| Ad C rfl rfl <| X.weaken ?_ (hnext2 (i + 1) hi' (by omega))
                exact ⟨rfl, rfl, rfl, rfl, rfl, by simp [look], trivial⟩
              · have heq := heq
                refine Du C 52 hok rfl <| Du C 53 hok rfl <| Du C 54 hok rfl <| Du C 55 hok rfl <| Du C 56 hok rfl <| Du C 57 hok rfl <| Du C 58 hok rfl <| Du C 59 hok rfl <| Du C 60 hok rfl <| Du C 61 hok rfl <| Du C 62 hok rfl <| Du C 63 hok rfl <| Dp 64 hok (fun _ _ _ A h => R.pickF C rfl (A.w rfl rfl) (A.x rfl rfl) (A.x rfl rfl) h) <| Dp 65 hok (fun _ _ _ A h => R.pickF C rfl (A.w rfl rfl) (A.x rfl rfl) (A.x rfl rfl) h) <| Dp 66 hok (fun _ _ _ A h => R.pickT C rfl (A.w rfl rfl) (A.x rfl rfl) (A.x rfl rfl) h) <| Dp 67 hok (fun _ _ _ A h => R.pickF C rfl (A.w rfl rfl) (A.x rfl rfl) (A.x rfl rfl) h) <| D.done C hok (by kernel_rfl) <| X.cond C.1 rfl (fun h => nomatch h) (fun _ => ?_)
                refine X.skip C.1 <| X.inBlock C.1 <| X.region C rfl rfl <| Rm C rfl rfl <| R.int C rfl rfl rfl rfl (b_add (by omega) (by omega)) <| Ad C rfl rfl <| X.weaken ?_ (hnext2 (i + 1) hi' (by omega))
                exact ⟨rfl, rfl, rfl, rfl, rfl, by simp [look], trivial⟩
            · have hi0' := hi0'
              refine Du C 26 hok rfl <| Du C 27 hok rfl <| Du C 28 hok rfl <| Du C 29 hok rfl <| Du C 30 hok rfl <| Du C 31 hok rfl <| Du C 32 hok rfl <| Du C 33 hok rfl <| Du C 34 hok rfl <| Du C 35 hok rfl <| Du C 36 hok rfl <| Du C 37 hok rfl <| Du C 38 hok rfl <| Du C 39 hok rfl <| Du C 40 hok rfl <| Du C 41 hok rfl <| Du C 42 hok rfl <| Du C 43 hok rfl <| Du C 44 hok rfl <| Du C 45 hok rfl <| Du C 46 hok rfl <| Du C 47 hok rfl <| Du C 48 hok rfl <| Du C 49 hok rfl <| Du C 50 hok rfl <| Du C 51 hok rfl <| Du C 52 hok rfl <| Du C 53 hok rfl <| Du C 54 hok rfl <| Du C 55 hok rfl <| Du C 56 hok rfl <| Du C 57 hok rfl <| Du C 58 hok rfl <| Du C 59 hok rfl <| Du C 60 hok rfl <| Du C 61 hok rfl <| Du C 62 hok rfl <| Du C 63 hok rfl <| Du C 64 hok rfl <| Du C 65 hok rfl ?_; refine Dp 66 hok (fun _ _ _ A h => R.pickF C rfl (A.w rfl rfl) (A.x rfl rfl) (A.x rfl rfl) h) <| Dp 67 hok (fun _ _ _ A h => R.pickF C rfl (A.w rfl rfl) (A.x rfl rfl) (A.x rfl rfl) h) <| D.done C hok (by kernel_rfl) <| X.cond C.1 rfl (fun h => nomatch h) (fun _ => ?_)
              refine X.skip C.1 <| X.inBlock C.1 <| X.region C rfl rfl <| Rm C rfl rfl <| R.int C rfl rfl rfl rfl (b_add (by omega) (by omega)) <| Ad C rfl rfl <| X.weaken ?_ (hnext2 (i + 1) hi' (by omega))
              exact ⟨rfl, rfl, rfl, rfl, rfl, by simp [look], trivial⟩
          · have hlt2 := hlt2
            by_cases h0 : openH b 0 = 0
            · obtain ⟨k2, k1⟩ := hkw h0
              rw [← htk h0] at k2 k1
              have hpos := hsome h0
              have hany : (u != 2) = ((wheres b).any fun r => decide (r = ⟨se, sn⟩)) := by
                rw [Bool.eq_iff_iff, bne_iff_ne, List.any_eq_true]
                simp only [decide_eq_true_eq, exists_eq_right]
                rw [ne_eq, k2, Decidable.not_not]
              by_cases h1 : (wheres b).length = 1
              · obtain ⟨ps, offs', caps, lls, ts, fqs, hsls, hrops, hsubs⟩ := hs3e.at Sq.len (by omega)
                cases hsls
                have hsi := hsubs 0 (by omega)
                have hW : wheres b = [(wheres b)[0]] := by
                  obtain ⟨a, ha⟩ := List.length_eq_one_iff.1 h1
                  simp [ha]
                have hu1 : (u == 1) = decide ((wheres b)[0] = (⟨se, sn⟩ : Sq)) := by
                  rw [Bool.eq_iff_iff, beq_iff_eq, decide_eq_true_eq, k1]
                  constructor
                  · intro h; simp [h]
                  · intro h; rw [hW, h]
                generalize (wheres b)[0] = q at hsi hu1
                have hsi2 : Sub (offs' + 0 * 2) 2 lls [.int .i64 q.e, .int .i64 q.n] := hsi
                have hqe : decide ([q.e, q.n] = [se, sn]) = decide (q = (⟨se, sn⟩ : Sq)) := by
                  obtain ⟨a1, a2⟩ := q
                  rw [decide_eq_decide]; simp
                refine X.exit C.1 rfl <| Xs C <| Xd C fun hok => Dm C 0 hok rfl rfl rfl <| Di C 1 hok rfl rfl rfl rfl rfl b_eql <| D.fixv (t := 285) (v' := .bool false) rfl (by (exact congrArg Value.bool (by rw [beq_eq_false_iff_ne]; omega))) <| Dm C 2 hok rfl rfl rfl <| D.fixv (t := 286) (v' := .bool false) rfl (by rfl) <| Dm C 3 hok rfl rfl rfl <| Di C 4 hok rfl rfl rfl rfl rfl b_neq <| Dm C 5 hok rfl rfl rfl <| D5 C 6 hok rfl rfl isAgg27 sizeOf27 (by repeat (first | exact Mh | apply Mt)) Tk2 <| De 7 (some 291) [false] hok (fun σr rest A hk => ?_)
                refine R.callP C rfl (A.w rfl rfl) (A.x rfl rfl) (A.s rfl rfl) (hasSquareR_c hJ hs3e hwl ⟨se, sn⟩) (hk _ _ ⟨QFs.nil, ?_⟩)
                refine Dp 8 hok (fun _ _ _ A h => R.eqBool C rfl (A.w rfl rfl) (A.x rfl rfl) (A.x rfl rfl) runUnderlying4 h) <| D.fixv (t := 292) (v' := .bool true) rfl (by (exact congrArg Value.bool (by rw [hany]; simp))) <| Dm C 9 hok rfl rfl rfl <| D.fixv (t := 293) (v' := .bool true) rfl (by rfl) <| Dm C 10 hok rfl rfl rfl <| Di C 11 hok rfl rfl rfl rfl rfl b_eql <| Dm C 12 hok rfl rfl rfl <| Dp 13 hok (fun _ _ _ A h => R.lenSlice C rfl (A.w rfl rfl) (A.x rfl rfl) runUnderlying41 h) <| Di C 14 hok rfl rfl rfl rfl rfl b_eql <| D.fixv (t := 298) (v' := .bool true) rfl (by (exact congrArg Value.bool (by rw [h1]; rfl))) <| Dm C 15 hok rfl rfl rfl <| D.fixv (t := 299) (v' := .bool true) rfl (by rfl) <| Dm C 16 hok rfl rfl rfl <| Dx C 17 hok rfl rfl rfl runUnderlying41 sizeOf27 <| Dl 18 hok (fun _ _ A h => R.loadAggRo C rfl (A.w rfl rfl) (A.x rfl rfl) isAgg27 sizeOf27 hrops hsi2 h) <| D5 C 19 hok rfl rfl isAgg27 sizeOf27 (by repeat (first | exact Mh | apply Mt)) Tk2 <| Dp 20 hok (fun _ _ _ A h => R.eqAgg (p := [q.e, q.n]) (q := [se, sn]) C rfl (A.w rfl rfl) (A.x rfl rfl) (A.x rfl rfl) eqT27 rfl rfl (by kernel_rfl) h) <| Dp 21 hok (fun _ _ _ A h => R.pickT C rfl (A.w rfl rfl) (A.x rfl rfl) (A.x rfl rfl) h) <| Dp 22 hok (fun _ _ _ A h => R.eqBool C rfl (A.w rfl rfl) (A.x rfl rfl) (A.x rfl rfl) runUnderlying4 h) <| D.fixv (t := 306) (v' := .bool true) rfl (by (exact congrArg Value.bool (by rw [hqe, hu1]; simp))) <| Dp 23 hok (fun _ _ _ A h => R.pickT C rfl (A.w rfl rfl) (A.x rfl rfl) (A.x rfl rfl) h) <| Dp 24 hok (fun _ _ _ A h => R.pickF C rfl (A.w rfl rfl) (A.x rfl rfl) (A.x rfl rfl) h) <| Dm C 25 hok rfl rfl rfl <| D.fixv (t := 309) (v' := .bool true) rfl (by rfl) <| De 26 (some 310) [false, false] hok (fun σr rest A hk => ?_)
                refine R.callR C rfl (A.w rfl rfl) (A.x rfl rfl) (A.s rfl rfl) ((found_c _ (heM.mono hl1))) fun v9 ro9 hl9 hq9 => hk _ _ ⟨QFs.nil, ?_⟩
                refine Dp 27 hok (fun _ _ _ A h => R.pickT C rfl (A.w rfl rfl) (A.x rfl rfl) (A.x rfl rfl) h) <| Dp 28 hok (fun _ _ _ A h => R.asg C rfl (A.w rfl rfl) (A.x rfl rfl) h) <| D.done C hok (by kernel_rfl) <| X.ret0 C (by kernel_rfl) rfl rfl func7 rfl (by exact (.tmp rfl .nil)) fun w9 hs9 => hret _ _ _ (RO.le_trans hM (RO.le_trans hl1 hl9)) ?_ w9 hs9
                exact hq9
              · have hu1 : (u == 1) = false := by
                  rw [beq_eq_false_iff_ne]
                  intro h
                  exact h1 (by rw [k1.1 h]; rfl)
                refine X.exit C.1 rfl <| Xs C <| Xd C fun hok => Dm C 0 hok rfl rfl rfl <| Di C 1 hok rfl rfl rfl rfl rfl b_eql <| D.fixv (t := 285) (v' := .bool false) rfl (by (exact congrArg Value.bool (by rw [beq_eq_false_iff_ne]; omega))) <| Dm C 2 hok rfl rfl rfl <| D.fixv (t := 286) (v' := .bool false) rfl (by rfl) <| Dm C 3 hok rfl rfl rfl <| Di C 4 hok rfl rfl rfl rfl rfl b_neq <| Dm C 5 hok rfl rfl rfl <| D5 C 6 hok rfl rfl isAgg27 sizeOf27 (by repeat (first | exact Mh | apply Mt)) Tk2 <| De 7 (some 291) [false] hok (fun σr rest A hk => ?_)
                refine R.callP C rfl (A.w rfl rfl) (A.x rfl rfl) (A.s rfl rfl) (hasSquareR_c hJ hs3e hwl ⟨se, sn⟩) (hk _ _ ⟨QFs.nil, ?_⟩)
                refine Dp 8 hok (fun _ _ _ A h => R.eqBool C rfl (A.w rfl rfl) (A.x rfl rfl) (A.x rfl rfl) runUnderlying4 h) <| D.fixv (t := 292) (v' := .bool true) rfl (by (exact congrArg Value.bool (by rw [hany]; simp))) <| Dm C 9 hok rfl rfl rfl <| D.fixv (t := 293) (v' := .bool true) rfl (by rfl) <| Dm C 10 hok rfl rfl rfl <| Di C 11 hok rfl rfl rfl rfl rfl b_eql <| Dm C 12 hok rfl rfl rfl <| Dp 13 hok (fun _ _ _ A h => R.lenSlice C rfl (A.w rfl rfl) (A.x rfl rfl) runUnderlying41 h) <| Di C 14 hok rfl rfl rfl rfl rfl b_eql <| D.fixv (t := 298) (v' := .bool false) rfl (by (exact congrArg Value.bool (by simp; omega))) <| Dm C 15 hok rfl rfl rfl <| D.fixv (t := 299) (v' := .bool false) rfl (by rfl) <| Du C 16 hok rfl <| Du C 17 hok rfl <| Du C 18 hok rfl <| Du C 19 hok rfl <| Du C 20 hok rfl <| Dp 21 hok (fun _ _ _ A h => R.pickF C rfl (A.w rfl rfl) (A.x rfl rfl) (A.x rfl rfl) h) <| Dp 22 hok (fun _ _ _ A h => R.eqBool C rfl (A.w rfl rfl) (A.x rfl rfl) (A.x rfl rfl) runUnderlying4 h) <| D.fixv (t := 306) (v' := .bool true) rfl (by (exact congrArg Value.bool (by rw [hu1]; rfl))) <| Dp 23 hok (fun _ _ _ A h => R.pickT C rfl (A.w rfl rfl) (A.x rfl rfl) (A.x rfl rfl) h) <| Dp 24 hok (fun _ _ _ A h => R.pickF C rfl (A.w rfl rfl) (A.x rfl rfl) (A.x rfl rfl) h) <| Dm C 25 hok rfl rfl rfl <| D.fixv (t := 309) (v' := .bool true) rfl (by rfl) <| De 26 (some 310) [] hok (fun σr rest A hk => ?_)
                refine R.callR C rfl (A.w rfl rfl) (A.x rfl rfl) (A.s rfl rfl) ((found_c _ (heM.mono hl1))) fun v9 ro9 hl9 hq9 => hk _ _ ⟨QFs.nil, ?_⟩
                refine Dp 27 hok (fun _ _ _ A h => R.pickT C rfl (A.w rfl rfl) (A.x rfl rfl) (A.x rfl rfl) h) <| Dp 28 hok (fun _ _ _ A h => R.asg C rfl (A.w rfl rfl) (A.x rfl rfl) h) <| D.done C hok (by kernel_rfl) <| X.ret0 C (by kernel_rfl) rfl rfl func7 rfl (by exact (.tmp rfl .nil)) fun w9 hs9 => hret _ _ _ (RO.le_trans hM (RO.le_trans hl1 hl9)) ?_ w9 hs9
                exact hq9
            · have hc9 := (hnil (htwo.resolve_left h0)).1
              refine X.exit C.1 rfl <| Xs C <| Xd C fun hok => Dm C 0 hok rfl rfl rfl <| Di C 1 hok rfl rfl rfl rfl rfl b_eql <| D.fixv (t := 285) (v' := .bool true) rfl (by (exact congrArg Value.bool (by rw [hc9]; rfl))) <| Dm C 2 hok rfl rfl rfl <| D.fixv (t := 286) (v' := .bool true) rfl (by rfl) <| Du C 3 hok rfl <| Du C 4 hok rfl <| Du C 5 hok rfl <| Du C 6 hok rfl <| Du C 7 hok rfl <| Du C 8 hok rfl <| Du C 9 hok rfl <| Du C 10 hok rfl <| Du C 11 hok rfl <| Du C 12 hok rfl <| Du C 13 hok rfl <| Du C 14 hok rfl <| Du C 15 hok rfl <| Du C 16 hok rfl <| Du C 17 hok rfl <| Du C 18 hok rfl <| Du C 19 hok rfl <| Du C 20 hok rfl <| Du C 21 hok rfl <| Du C 22 hok rfl <| Du C 23 hok rfl <| Dp 24 hok (fun _ _ _ A h => R.pickT C rfl (A.w rfl rfl) (A.x rfl rfl) (A.x rfl rfl) h) <| Dm C 25 hok rfl rfl rfl <| D.fixv (t := 309) (v' := .bool true) rfl (by rfl) <| De 26 (some 310) [] hok (fun σr rest A hk => ?_)
              refine R.callR C rfl (A.w rfl rfl) (A.x rfl rfl) (A.s rfl rfl) ((found_c _ (heM.mono hl1))) fun v9 ro9 hl9 hq9 => hk _ _ ⟨QFs.nil, ?_⟩
              refine Dp 27 hok (fun _ _ _ A h => R.pickT C rfl (A.w rfl rfl) (A.x rfl rfl) (A.x rfl rfl) h) <| Dp 28 hok (fun _ _ _ A h => R.asg C rfl (A.w rfl rfl) (A.x rfl rfl) h) <| D.done C hok (by kernel_rfl) <| X.ret0 C (by kernel_rfl) rfl rfl func7 rfl (by exact (.tmp rfl .nil)) fun w9 hs9 => hret _ _ _ (RO.le_trans hM (RO.le_trans hl1 hl9)) ?_ w9 hs9
              exact hq9
      · have _ := hcont2
        by_cases h0 : openH b 0 = 0
        · have hpos := hsome h0
          rw [h0]
          refine X.region C rfl rfl <| Rm C rfl rfl <| R.int C rfl rfl rfl rfl b_neq <| R.fixv (t := 71) (v' := .bool false) rfl (by rfl) <| Rm C rfl rfl <| R.fixv (t := 72) (v' := .bool false) rfl (by rfl) <| Rm C rfl rfl <| Rm C rfl rfl <| R.int C rfl rfl rfl rfl b_neq <| R.fixv (t := 75) (v' := .bool false) rfl (by rfl) <| R.pickF C rfl rfl rfl rfl <| Rm C rfl rfl <| R.fixv (t := 77) (v' := .bool false) rfl (by rfl) <| Rm C rfl rfl <| Rm C rfl rfl <| R.int C rfl rfl rfl rfl b_neq <| R.fixv (t := 80) (v' := .bool false) rfl (by rfl) <| R.pickF C rfl rfl rfl rfl <| Rm C rfl rfl <| R.fixv (t := 82) (v' := .bool false) rfl (by rfl) <| Rm C rfl rfl <| R.int C rfl rfl rfl rfl b_eql <| Rm C rfl rfl <| R.int C rfl rfl rfl rfl b_gtr <| R.neBool C rfl rfl rfl rfl runUnderlying4 <| R.fixv (t := 87) (v' := .bool false) rfl (by (exact congrArg Value.bool (by simp; omega))) <| R.pickF C rfl rfl rfl rfl <| Rm C rfl rfl <| R.fixv (t := 89) (v' := .bool false) rfl (by rfl) <| Rm C rfl rfl <| R.int C rfl rfl rfl rfl b_neq <| R.fixv (t := 91) (v' := .bool false) rfl (by rfl) <| Rm C rfl rfl <| R.fixv (t := 92) (v' := .bool false) rfl (by rfl) <| R.pass C rfl rfl <| R.pass C rfl rfl <| R.pass C rfl rfl <| R.pass C rfl rfl <| R.pass C rfl rfl <| R.pass C rfl rfl ?_; refine R.pass C rfl rfl <| R.pass C rfl rfl <| R.pass C rfl rfl <| R.pass C rfl rfl <| R.pickF C rfl rfl rfl rfl <| R.pickF C rfl rfl rfl rfl <| R.done C <| X.weaken ?_ (hcont2 () trivial)
          exact ⟨rfl, rfl, rfl, rfl, rfl, rfl, rfl, rfl, trivial⟩
        · have h9 := htwo.resolve_left h0
          obtain ⟨n1, n2, n3⟩ := hnil h9
          rw [h9]
          refine X.region C rfl rfl <| Rm C rfl rfl <| R.int C rfl rfl rfl rfl b_neq <| R.fixv (t := 71) (v' := .bool false) rfl (by rfl) <| Rm C rfl rfl <| R.fixv (t := 72) (v' := .bool false) rfl (by rfl) <| Rm C rfl rfl <| Rm C rfl rfl <| R.int C rfl rfl rfl rfl b_neq <| R.fixv (t := 75) (v' := .bool false) rfl (by rfl) <| R.pickF C rfl rfl rfl rfl <| Rm C rfl rfl <| R.fixv (t := 77) (v' := .bool false) rfl (by rfl) <| Rm C rfl rfl <| Rm C rfl rfl <| R.int C rfl rfl rfl rfl b_neq <| R.fixv (t := 80) (v' := .bool false) rfl (by rfl) <| R.pickF C rfl rfl rfl rfl <| Rm C rfl rfl <| R.fixv (t := 82) (v' := .bool false) rfl (by rfl) <| Rm C rfl rfl <| R.int C rfl rfl rfl rfl b_eql <| Rm C rfl rfl <| R.int C rfl rfl rfl rfl b_gtr <| R.neBool C rfl rfl rfl rfl runUnderlying4 <| R.fixv (t := 87) (v' := .bool false) rfl (by (exact congrArg Value.bool (by rw [n1]; rfl))) <| R.pickF C rfl rfl rfl rfl <| Rm C rfl rfl <| R.fixv (t := 89) (v' := .bool false) rfl (by rfl) <| Rm C rfl rfl <| R.int C rfl rfl rfl rfl b_neq <| R.fixv (t := 91) (v' := .bool true) rfl (by rfl) <| Rm C rfl rfl <| R.fixv (t := 92) (v' := .bool true) rfl (by rfl) <| Rm C rfl rfl <| R.int C rfl rfl rfl rfl b_neq <| R.fixv (t := 94) (v' := .bool false) rfl (by rfl) <| Rm C rfl rfl <| R.fixv (t := 95) (v' := .bool false) rfl (by rfl) <| Rm C rfl rfl ?_; refine R.lenSlice C rfl rfl rfl runUnderlying28 <| Rm C rfl rfl <| R.lenSlice C rfl rfl rfl runUnderlying41 <| R.int C rfl rfl rfl rfl (b_add (by omega) (by omega)) <| R.int C rfl rfl rfl rfl b_gtr <| R.fixv (t := 101) (v' := .bool false) rfl (by (exact congrArg Value.bool (by rw [n2, n3]; rfl))) <| R.pickF C rfl rfl rfl rfl <| R.pickT C rfl rfl rfl rfl <| R.pickF C rfl rfl rfl rfl <| R.done C <| X.weaken ?_ (hcont2 () trivial)
          exact ⟨rfl, rfl, rfl, rfl, rfl, rfl, rfl, rfl, trivial⟩
    · have _ := hcont
      refine Xd C fun hok => Dm C 0 hok rfl rfl rfl <| Dp 1 hok (fun _ _ _ A h => R.convInt C rfl (A.w rfl rfl) (A.x rfl rfl) runUnderlying5 runUnderlying3 (wrap64 (by omega) (by omega)) h) <| Df (off' := 3) C 2 hok rfl rfl rfl runUnderlying25 rfl sizeOf22 rfl <| D1 C 3 hok rfl rfl isAgg22 (by repeat (first | exact Mh | apply Mt)) rfl <| Dp 4 hok (fun _ _ _ A h => R.lenSlice C rfl (A.w rfl rfl) (A.x rfl rfl) runUnderlying22 h) <| Di C 5 hok rfl rfl rfl rfl rfl (b_remP (by omega) (by omega)) <| D.fixv (t := 35) (v' := .int .i64 (k : Int)) rfl (by exact congrArg (Value.int .i64) hk.symm) <| Dm C 6 hok rfl rfl rfl <| Dp 7 hok (fun _ _ _ A h => R.convInt C rfl (A.w rfl rfl) (A.x rfl rfl) runUnderlying66 runUnderlying3 (wrap64 (by omega) (by omega)) h) <| Df (off' := 0) C 8 hok rfl rfl rfl runUnderlying25 rfl sizeOf3 rfl <| D1 C 9 hok rfl rfl isAgg3 (by repeat (first | exact Mh | apply Mt)) rfl <| Di C 10 hok rfl rfl rfl rfl rfl (b_remP (by omega) (by omega)) <| D.fixv (t := 40) (v' := .int .i64 se) rfl (by exact congrArg (Value.int .i64) hse.symm) <| Dm C 11 hok rfl rfl rfl <| Dp 12 hok (fun _ _ _ A h => R.convInt C rfl (A.w rfl rfl) (A.x rfl rfl) runUnderlying66 runUnderlying3 (wrap64 (by omega) (by omega)) h) <| Di C 13 hok rfl rfl rfl rfl rfl (b_quoP (by omega) (by omega) (by omega)) <| Df (off' := 1) C 14 hok rfl rfl rfl runUnderlying25 rfl sizeOf3 rfl <| D1 C 15 hok rfl rfl isAgg3 (by repeat (first | exact Mh | apply Mt)) rfl <| Di C 16 hok rfl rfl rfl rfl rfl (b_remP (by omega) (by omega)) <| D.fixv (t := 46) (v' := .int .i64 sn) rfl (by exact congrArg (Value.int .i64) hsn.symm) <| D.eP2 (i := 17) (i' := 18) (dst := (some 47)) (dst' := (some 8)) [false, false, true] [true, true, true] hok rfl rfl (by kernel_rfl) (by kernel_rfl) (by kernel_rfl) (fun σr rest A hk => ?_) (fun σr rest A hk => ?_)
      ·
        refine R.callP C rfl (A.w rfl rfl) (A.x rfl rfl) (A.s rfl rfl) (sq_c hJ _ _ _) (hk _ _ ⟨(QFs.cons (QF.of rfl (fun _ _ A h => R.loadOne C rfl (A.w rfl rfl) (A.x rfl rfl) isAgg22 (by repeat (first | exact Mh | apply Mt)) rfl h)) QFs.nil), ?_⟩)
        refine De 18 (some 8) [true] hok (fun σr rest A hk => ?_)
        refine R.alloc C rfl (A.w rfl rfl) zeroValue27 rfl fun p8 => hk _ _ ⟨(QFs.cons (QF.of rfl (fun _ _ A h => R.loadOne C rfl (A.w rfl rfl) (A.x rfl rfl) isAgg22 (by repeat (first | exact Mh | apply Mt)) rfl h)) QFs.nil), ?_⟩
        refine Dp 19 hok (fun _ _ _ A h => R.asg C rfl (A.w rfl rfl) (A.x rfl rfl) h) <| De 20 none [false] hok (fun σr rest A hk => ?_)
        refine R.store C rfl (A.w rfl rfl) (A.x rfl rfl) (A.x rfl rfl) sizeOf27 rfl rfl rfl (by repeat (first | exact Uh | apply Ut)) (.here (.here .nil)) (hk undef _ ⟨QFs.nil, ?_⟩)
        refine D.done C hok (by kernel_rfl) <| X.weaken ?_ (hcont p8 trivial)
        exact ⟨rfl, rfl, rfl, trivial⟩
      ·
        refine R.alloc C rfl (A.w rfl rfl) zeroValue27 rfl fun p8 => hk _ _ ⟨(QFs.cons (QF.of rfl (fun _ _ A h => R.loadOne C rfl (A.w rfl rfl) (A.x rfl rfl) isAgg3 (by repeat (first | exact Mh | apply Mt)) rfl h)) (QFs.cons (QF.of rfl (fun _ _ A h => R.loadOne C rfl (A.w rfl rfl) (A.x rfl rfl) isAgg3 (by repeat (first | exact Mh | apply Mt)) rfl h)) (QFs.cons (QF.of rfl (fun _ _ A h => R.loadOne C rfl (A.w rfl rfl) (A.x rfl rfl) isAgg22 (by repeat (first | exact Mh | apply Mt)) rfl h)) QFs.nil))), ?_⟩
        refine De 17 (some 47) [false, false, true] hok (fun σr rest A hk => ?_)
        refine R.callP C rfl (A.w rfl rfl) (A.x rfl rfl) (A.s rfl rfl) (sq_c hJ _ _ _) (hk _ _ ⟨(QFs.cons (QF.of rfl (fun _ _ A h => R.loadOne C rfl (A.w rfl rfl) (A.x rfl rfl) isAgg22 (by repeat (first | exact Mh | apply Mt)) rfl h)) QFs.nil), ?_⟩)
        refine Dp 19 hok (fun _ _ _ A h => R.asg C rfl (A.w rfl rfl) (A.x rfl rfl) h) <| De 20 none [false] hok (fun σr rest A hk => ?_)
        refine R.store C rfl (A.w rfl rfl) (A.x rfl rfl) (A.x rfl rfl) sizeOf27 rfl rfl rfl (by repeat (first | exact Uh | apply Ut)) (.here (.here .nil)) (hk undef _ ⟨QFs.nil, ?_⟩)
        refine D.done C hok (by kernel_rfl) <| X.weaken ?_ (hcont p8 trivial)
        exact ⟨rfl, rfl, rfl, trivial⟩
end Go.Lg.B
namespace Go.Lg.B
open Go Go.Conc Go.Lg Go.Proofs Go.Proofs.Tryz
structure RealC (b : Bk) (c : Cs) : Prop where
  s : b.square c.s = 0
  o : c.o ∈ offsAll b.cs
  f : c.f ∈ sets b.f b.ws.length
  sure : noSure b c.f = true
end Go.Lg.B
namespace Go.Lg.B
open Go Go.Conc Go.Lg Go.Proofs Go.Proofs.Tryz
abbrev U16 := {n : Int // 0 ≤ n ∧ n ≤ 65535}
def uc (n : U16) : List Value := [.int .u16 n.1]
section
variable {main : Bool} {J : Goroutine → Mem → Prop} (hJ : Closed prog main J)
include hJ
end
end Go.Lg.B
namespace Go.Lg.B
open Go Go.Conc Go.Lg Go.Proofs Go.WideShapes Go.ChangeShapes Go.Proofs.Tryz
set_option maxRecDepth 100000
section
variable {H : Type} {enc0 : TypeId × Value → H} {W : World} {base : Nat} {sp : Nat → Bool} {held : Bool}
theorem argU16 {r : Reach} {b0 : Nat} {v : Value} {d : DataW H} {p : List MemPlace} (hv : Value.okWide prog W r b0 66 v) (h : DataW.Trod enc0 prog W base sp held 66 v d p) : ∃ n, v = .int .u16 n ∧ 0 ≤ n ∧ n ≤ 65535 := by
  obtain ⟨x, rfl, _, _, wx⟩ := open_int underlying66 hv h
  exact ⟨x, rfl, by simpa [Lit.wf, IntKind.min, IntKind.max, IntKind.signed, IntKind.bits] using wx⟩
end
end Go.Lg.B
namespace Go.Lg.B
open Go Go.Proofs Go.Proofs.YtlkmnfdipiielaaGreatDoor Go.Proofs.Tryz
set_option maxRecDepth 100000
theorem reached_k1 : (Rows.bearingReachedRow.inPlace == prog.inPlace 7) = true := by kernel_rfl
theorem reached_k2 : (Rows.bearingReachedRow.unfollowed == prog.unfollowed 7) = true := by kernel_rfl
theorem reached_k3 : (Rows.bearingReachedRow.recurses == prog.recurses 7) = true := by kernel_rfl
theorem reached_k4 : (Rows.bearingReachedRow.named == prog.varsNamed 7) = true := by kernel_rfl
theorem reached_name : prog.funcNamed "lagan/laganlaw01.BearingReached" = some 7 := by kernel_rfl
theorem reached_goes : true = Rows.bearingReachedRow.goesBy prog := by kernel_rfl
theorem reached_wf : Rows.bearingReachedRow.wfByText (OpenSpec.ofChange Rows.bearingReachedSpec) = true := by kernel_rfl
theorem reached_facts : joinedFacts prog 7 Tryz.f7 Rows.bearingReachedSpec Rows.bearingReachedRow = true := by
  unfold joinedFacts
  exact (and_mk (and_mk (and_mk (and_mk (and_mk (and_mk (and_mk (and_mk (and_mk (and_mk (and_mk (and_mk (and_mk (and_mk (and_mk (and_mk (and_mk (and_mk (and_mk (and_mk (and_mk (and_mk (and_mk (and_mk (and_mk (and_mk (and_mk (and_mk (and_mk (and_mk (and_mk (by as_aux_lemma => kernel_rfl)
    k_lo)
    k_mr)
    (by as_aux_lemma => kernel_rfl))
    (by as_aux_lemma => kernel_rfl))
    (by as_aux_lemma => kernel_rfl))
    k_stops)
    (by as_aux_lemma => kernel_rfl))
    k_knobs)
    reached_k1)
    reached_k2)
    reached_k3)
    reached_k4)
    (by as_aux_lemma => kernel_rfl))
    (by as_aux_lemma => kernel_rfl))
    (by as_aux_lemma => kernel_rfl))
    (by as_aux_lemma => kernel_rfl))
    (by as_aux_lemma => kernel_rfl))
    (by as_aux_lemma => kernel_rfl))
    (by as_aux_lemma => kernel_rfl))
    (by as_aux_lemma => kernel_rfl))
    (by as_aux_lemma => kernel_rfl))
    (beq_iff_eq.2 k_pk.symm))
    (by as_aux_lemma => kernel_rfl))
    k_heard)
    k_may)
    (beq_iff_eq.2 k_lift.symm))
    (beq_iff_eq.2 k_make))
    (by as_aux_lemma => kernel_rfl))
    (by as_aux_lemma => kernel_rfl))
    (by as_aux_lemma => kernel_rfl))
    (by as_aux_lemma => kernel_rfl))
end Go.Lg.B
namespace Go.Proofs.YtlkmnfdipiielaaGreatDoor
open Go Go.Conc Go.Lg Go.Lg.B Go.ChangeShapes Go.RowKit Go.WideShapes
set_option maxRecDepth 100000
theorem reached_lifted (os : Os) (started : os.Started) (H : Type) (enc : TypeId × Value → H) :
    ReturnsInLeavingWide {} Tryz.checked os 7 .any (fun w args => (Rows.bearingReachedSpec.pre enc Tryz.prog Tryz.f7 [] false w args ∧ laidMetH Tryz.prog laid1 w) ∧ sizedMet enc Tryz.prog Tryz.f7 (OpenSpec.ofChange Rows.bearingReachedSpec) false w args)
      (Rows.bearingReachedSpec.post enc Tryz.prog Tryz.f7 false true false false) := by
  refine leaving_of_root (C := Tryz.checked) (tb := 4) (X := fun w _ => laidMetH Tryz.prog laid1 w) (fun _ _ _ hh h => h.of_heap hh) own0 started Tryz.func7 laid0 (by
      intro t ht
      rw [Tryz.params7] at ht
      have hm : t ∈ [25, 5, 66] := ht
      have hall : ([25, 5, 66].all fun u => Tryz.prog.readableRec u && decide (u < Tryz.prog.types.size)) = true := by kernel_rfl
      have := List.all_eq_true.1 hall t hm
      rw [Bool.and_eq_true, decide_eq_true_eq] at this
      exact this) rfl (by kernel_rfl) Tryz.underlying4
    (ChangeSpec.witness_shaped (enc := enc) (C := Tryz.checked) (os := os) (X := fun w _ => laidMetH Tryz.prog laid1 w) false (World.doorLaid Tryz.prog 89 os) #[.agg #[.int .i64 0, .int .i64 0, .int .i64 0, .slice none 0 0, .slice none 0 0], .int .u8 0, .int .u16 0] 8 rfl (door_shaped os _) (by kernel_rfl) (by kernel_rfl) (by kernel_rfl) (door_met os _)) ?_
  intro W base args ds gs before hval hW _ _ hL
  obtain ⟨p, q, hA, hV, rfl, _, _⟩ := hW
  obtain ⟨rfl, rfl⟩ := trodVars_none hV
  have hA : DataW.TrodAll enc Tryz.prog W 0 (fun _ => true) true Tryz.f7.params.toList args.toList ds p := hA
  have hval : ∀ (j : Nat) t v, Tryz.f7.params[j]? = some t → args[j]? = some v → Value.okWide Tryz.prog W .any base t v := hval
  rw [Tryz.params7] at hA hval
  obtain ⟨v1, l1, d1, k1, p1, q1, e1, rfl, rfl, h1, hA⟩ := trodAll_cons hA
  obtain ⟨v2, l2, d2, k2, p2, q2, rfl, rfl, rfl, h2, hA⟩ := trodAll_cons hA
  obtain ⟨v3, l3, d3, k3, p3, q3, rfl, rfl, rfl, h3, hA⟩ := trodAll_cons hA
  obtain ⟨rfl, rfl, rfl⟩ := trodAll_nil hA
  have ea : args = #[v1, v2, v3] := Array.toList_inj.1 e1
  subst ea
  obtain ⟨b, b1⟩ := argBk (hval 0 25 v1 rfl rfl) h1
  obtain ⟨o, rfl, o1⟩ := argU8 (hval 1 5 v2 rfl rfl) h2
  obtain ⟨q, rfl, o2⟩ := argU16 (hval 2 66 v3 rfl rfl) h3
  exact ⟨rfl, reached_root o1 o2 (env_of_laid hL) b1⟩
theorem reached_row : Rows.BearingReachedSaid :=
  OpenClaim.holds_of_wide_leaving 7 Tryz.f7 rfl rfl rfl rfl rfl rfl rfl ⟨rfl, rfl, rfl, rfl, rfl⟩ rfl rfl rfl rfl rfl reached_name Tryz.func7 reached_facts
    (of_decide_eq_true (by kernel_rfl)) (by unfold Func.isWrapper; first | (rw [if_pos (by decide +kernel)]; kernel_rfl) | (rw [if_neg (by decide +kernel)]; exact ⟨rfl, rfl⟩))
    (fun os started H enc _ => reached_lifted os started H enc)
theorem reached_holds : Rows.BearingReachedCardSaid :=
  card_goes .later [.funcs] true (true, "6da441031df1273c87b994104071112c0d6d76e328f9edd428a3df0ab3bd48e1") true
    reached_row reached_wf bearingReached_row_tie rfl ⟨rfl, rfl⟩ k_main rfl
    (fun f fn hf hfn => by
      obtain rfl : f = 7 := Option.some.inj (reached_name.symm.trans hf) |>.symm
      obtain rfl : fn = Tryz.f7 := (Option.some.inj (Tryz.func7.symm.trans hfn)).symm
      exact ⟨k_looks, fun j t ht => by
        rw [Tryz.params7] at ht
        have hm : t ∈ [25, 5, 66] := by simpa using Array.mem_of_getElem? ht
        have hall : ([25, 5, 66].all fun u => !Tryz.prog.wantsStandIn u) = true := by kernel_rfl
        exact (show Tryz.prog.wantsStandIn t = false by simpa using List.all_eq_true.1 hall t hm)⟩)
    reached_goes
end Go.Proofs.YtlkmnfdipiielaaGreatDoor
