/-
  It is proved that the given function answers true for every input, whatever is scheduled: the statement Witnesses of the seat. Conditions: none but those of the given statement itself.
-/
import Derived.Test.YtlkmnfdipiielaaGreatDoorKE
import Derived.ChangeArms
import Derived.WideShapes
import Derived.ChangeShapes
import Derived.Conc.Holds
set_option maxRecDepth 100000
set_option linter.all false
set_option linter.unusedVariables false
set_option linter.unusedSimpArgs false
set_option linter.unusedSectionVars false
namespace Go.Lg.B
open Go Go.Conc Go.Lg Go.Proofs Go.Proofs.Tryz
def sound (b : Bk) : Bool × Int := if checkChart b ≠ 0 then (false, checkChart b) else (together b (everybody b), 0)
variable {main : Bool} {J : Goroutine → Mem → Prop} (hJ : Closed prog main J)
include hJ
theorem sound_c {b : Bk} {v : Value} {ro : RO} (he : Env ro) (hv : BkV ro v b) (hs : b.short) : CallR prog J (fnv 64) [v] ro (fun w _ => w = .tuple [.bool (sound b).1, .int .i64 (sound b).2].toArray) := by
  have hvv := hv
  obtain ⟨vc, vw, rfl, hc, hw⟩ := hv
  obtain ⟨cb, cc, rfl⟩ := hc.form
  obtain ⟨wb, wc, rfl⟩ := hw.form
  refine CallR.intro hJ (by kernel_rfl) fun c cs tail hret => enter_X (n := 17) func64 rfl rfl (Nl rfl) ?_
  have C : Ctx prog main J (bf 64 .normal) := ⟨hJ, by decide⟩
  refine Xr C rfl rfl <| R.box C rfl rfl rfl rfl fun p1 => R.asg C rfl rfl rfl <| Ad C rfl rfl <| Xs C <| Xr C rfl rfl <| R.loadAgg C rfl rfl rfl isAgg25 sizeOf25 (by repeat (first | exact Mh | apply Mt)) Tk5 <| R.callP C rfl rfl rfl rfl (checkChart_c hJ (by assumption) (by assumption) (by assumption)) <| Ad C rfl rfl <| Xr C rfl rfl <| Rm C rfl rfl <| R.int C rfl rfl rfl rfl b_neq <| R.done C <| X.cond C.1 rfl (fun hh => ?_) (fun hh => ?_)
  · have hh := hh
    refine Xr C rfl rfl <| Rm C rfl rfl <| R.asg C rfl rfl rfl <| Ad C rfl rfl <| X.ret C rfl rfl func64 rfl (by exact (.tmp rfl (.tmp rfl .nil))) <| Hr hret (RO.le_refl _) ?_
    simp at hh; simp [sound, hh, retVal]
  · have hh := hh
    simp at hh
    have hb := good_iff.1 hh
    have hnw := hb.nw
    have hev : everybody b < 2 ^ 63 := Nat.lt_of_le_of_lt (Nat.sub_le _ _) (pow62 (n := b.ws.length) (by omega))
    refine X.skip C.1 <| Xr C rfl rfl <| R.loadAgg C rfl rfl rfl isAgg25 sizeOf25 (by repeat (first | exact Mh | apply Mt)) Tk5 <| R.build C rfl rfl rfl zeroValue105 rfl runUnderlying105 (by kernel_rfl) (Fills.part rfl rfl sizeOf25 rfl (.here (.here (.here (.here (.here .nil))))) .nil) <| R.alloc C rfl rfl zeroValue105 rfl fun p5 => R.store C rfl rfl rfl rfl sizeOf105 rfl rfl rfl (by repeat (first | exact Uh | apply Ut)) (.here (.here (.here (.here (.here .nil))))) <| R.done C <| Xs C <| Xd C fun hok => D5 C 0 hok rfl rfl isAgg105 sizeOf105 (by repeat (first | exact Mh | apply Mt)) Tk5 <| D5 C 1 hok rfl rfl isAgg105 sizeOf105 (by repeat (first | exact Mh | apply Mt)) Tk5 <| De 2 (some 15) [false, true] hok (fun σr rest A hk => ?_)
    refine R.callP C rfl (A.w rfl rfl) (A.x rfl rfl) (A.s rfl rfl) (everybody_c hJ hvv (by omega)) (hk _ _ ⟨(QFs.cons (QF.of rfl (fun _ _ A h => R.loadAgg C rfl (A.w rfl rfl) (A.x rfl rfl) isAgg105 sizeOf105 (by repeat (first | exact Mh | apply Mt)) Tk5 h)) QFs.nil), ?_⟩)
    refine De 3 (some 16) [false] hok (fun σr rest A hk => ?_)
    refine R.callR C rfl (A.w rfl rfl) (A.x rfl rfl) (A.s rfl rfl) (together_c hJ hvv hb hev) fun v' ro' hle' hp' => hk _ _ ⟨QFs.nil, ?_⟩
    refine Dp 4 hok (fun _ _ _ A h => R.asg C rfl (A.w rfl rfl) (A.x rfl rfl) h) <| Dp 5 hok (fun _ _ _ A h => R.asg C rfl (A.w rfl rfl) (A.x rfl rfl) h) <| D.done C hok (by kernel_rfl) ?_
    subst hp'
    refine X.ret C rfl rfl func64 rfl (by exact (.tmp rfl (.tmp rfl .nil))) <| Hr hret hle' ?_
    simp [sound, hh, retVal]
end Go.Lg.B
namespace Go.Lg
open Go Go.Conc
end Go.Lg
namespace Go.Lg.B
open Go Go.Conc Go.Lg Go.Proofs Go.Proofs.Tryz
theorem sameInts_iff {a c : List Int} : sameInts a c = decide (a = c) := by
  unfold sameInts earlier
  have h := cmpL_flip a c
  by_cases e : a = c
  · subst e; simp [cmpL_refl]
  · have : cmpL a c ≠ 0 := fun h => e (cmpL_zero h)
    rw [decide_eq_false e]
    by_cases h1 : cmpL a c < 0
    · simp [h1]
    · have h2 : cmpL c a < 0 := by omega
      simp [h2]
variable {main : Bool} {J : Goroutine → Mem → Prop} (hJ : Closed prog main J)
include hJ
end Go.Lg.B
namespace Go.Lg
open Go
abbrev roOf (W : World) : RO := fun b => W.heap[b]?
theorem Sub.of_get {off n : Nat} {l out : List Value} (hn : off + n ≤ l.length) (ho : out.length = n) (h : ∀ i, i < n → l[off + i]? = out[i]?) : Sub off n l out := by
  have e : out = (l.drop off).take n := by
    refine List.ext_getElem? fun i => ?_
    by_cases hi : i < n
    · rw [← h i hi, List.getElem?_take_of_lt hi, List.getElem?_drop]
    · rw [List.getElem?_eq_none (by omega), List.getElem?_eq_none (by simp; omega)]
  rw [e]; exact Sub.of hn
theorem cell_block {W : World} {a : Addr} {v : Value} (h : W.cell? a = some v) : a.spot = none ∧ ∃ l t fq, W.heap[a.block]? = some (.cells l t fq) ∧ l[a.off]? = some v := by
  unfold World.cell? at h
  split at h
  · rename_i c t fq hc
    split at h
    · cases h
    · rename_i hs
      exact ⟨by simpa using hs, c, t, fq, hc, h⟩
  · cases h
theorem cells_get {W : World} {base : Nat} {a : Addr} {n : Nat} {l : List Value} (h : W.cells? base a n = some l) : l.length = n ∧ ∀ i, i < n → W.cell? (a.add i) = l[i]? := by
  unfold World.cells? at h
  split at h
  · refine ⟨by simpa using mapM_some_length h, fun i hi => mapM_some_get h i i (by simp [hi])⟩
  · cases h
theorem add_add (a : Addr) (i j : Nat) : (a.add i).add j = a.add (i + j) := by
  by_cases h1 : i = 0 <;> by_cases h2 : j = 0 <;> simp [Addr.add, h1, h2] <;> omega
theorem add_none {a : Addr} (h : a.spot = none) (i : Nat) : a.add i = ⟨a.block, a.off + i, none⟩ := by
  obtain ⟨b, o, s⟩ := a
  subst h
  by_cases h1 : i = 0 <;> simp [Addr.add, h1]
section
variable {H : Type} {enc0 : TypeId × Value → H} {P : Program} {W : World} {base : Nat} {sp : Nat → Bool} {held : Bool}
theorem ls_of_trod {α : Type} {enc : α → List Value} {k : Nat} {t e : TypeId} {fuel : Nat} {cs : List Value} {x : DataW H × List MemPlace} (ht : P.underlying t = some (.slice e)) (hc : P.cellsOf e = k) (hk : 0 < k) (hlen : ∀ x, (enc x).length = k)
    (hel : ∀ n cs z, DataW.trod enc0 P W base sp held n e cs = some z → ∃ y, cs = enc y) (h : DataW.trod enc0 P W base sp held fuel t cs = some x) : ∃ v xs, cs = [v] ∧ Ls enc k (roOf W) v xs := by
  subst hc
  rcases DataW.trod_slice ht h with ⟨rfl, _⟩ | ⟨a, len, cap, elems, rest, n, _, rfl, _, hb, hl, _, hlen2, hel2, _⟩
  · exact ⟨_, [], rfl, .nil⟩
  · have one : ∀ i, i < len → ∃ y : α, W.cells? base (a.add (i * P.cellsOf e)) (P.cellsOf e) = some (enc y) := fun i hi => by
      have h1 := hel2 i hi
      rw [List.getElem?_eq_getElem (by omega)] at h1
      obtain ⟨l, h2, h3⟩ := Option.bind_eq_some_iff.1 h1
      obtain ⟨y, rfl⟩ := hel _ _ _ h3
      exact ⟨y, h2⟩
    have all : ∀ m, m ≤ len → ∃ ys : List α, ys.length = m ∧ ∀ j, j < m * P.cellsOf e → W.cell? (a.add j) = (ys.flatMap enc)[j]? := by
      intro m
      induction m with
      | zero => exact fun _ => ⟨[], rfl, fun j hj => by omega⟩
      | succ m ih =>
        intro hm
        obtain ⟨ys, h1, h2⟩ := ih (by omega)
        obtain ⟨y, hy⟩ := one m (by omega)
        refine ⟨ys ++ [y], by simp [h1], fun j hj => ?_⟩
        have hfl : (ys.flatMap enc).length = m * P.cellsOf e := by rw [flatMap_len hlen, h1]
        rw [List.flatMap_append]
        by_cases hjm : j < m * P.cellsOf e
        · rw [List.getElem?_append_left (by omega)]; exact h2 j hjm
        · rw [List.getElem?_append_right (by omega), hfl]
          have := (cells_get hy).2 (j - m * P.cellsOf e) (by rw [Nat.succ_mul] at hj; omega)
          simp only [List.flatMap_cons, List.flatMap_nil, List.append_nil]
          rw [← this, add_add]
          congr 2
          omega
    obtain ⟨ys, h1, h2⟩ := all len (Nat.le_refl _)
    refine ⟨_, ys, rfl, some a, cap, by rw [h1], ?_⟩
    by_cases h0 : len = 0
    · exact .inl (List.eq_nil_of_length_eq_zero (by omega))
    · right
      have hfl : (ys.flatMap enc).length = len * P.cellsOf e := by rw [flatMap_len hlen, h1]
      have hpos : 0 < len * P.cellsOf e := Nat.mul_pos (by omega) hk
      have hlast := h2 (len * P.cellsOf e - 1) (by omega)
      rw [List.getElem?_eq_getElem (by omega)] at hlast
      have hfirst := h2 0 hpos
      rw [List.getElem?_eq_getElem (by omega)] at hfirst
      have hs : a.spot = none := (cell_block hfirst).1
      rw [add_none hs] at hlast
      obtain ⟨_, l, t', fq, hh, hl2⟩ := cell_block hlast
      refine ⟨a.block, a.off, l.toList, t', fq, by obtain ⟨ab, ao, az⟩ := a; subst hs; rfl, by rw [Array.toArray_toList]; exact hh, ?_⟩
      rw [h1]
      have hlt : a.off + (len * P.cellsOf e - 1) < l.size := (Array.getElem?_eq_some_iff.1 hl2).1
      refine Sub.of_get (by simp; omega) hfl fun i hi => ?_
      have := h2 i hi
      rw [add_none hs] at this
      unfold World.cell? at this
      simp only at this
      rw [hh] at this
      simpa using this
theorem int_of_trod {t : TypeId} {k : IntKind} {fuel : Nat} {cs : List Value} {x : DataW H × List MemPlace} (ht : P.underlying t = some (.int k)) (h : DataW.trod enc0 P W base sp held fuel t cs = some x) : ∃ n, cs = [.int k n] ∧ (Lit.int k n).wf = true := by
  cases fuel with
  | zero => simp [DataW.trod] at h
  | succ n =>
    unfold DataW.trod at h
    rw [ht] at h
    split at h <;> simp_all
theorem bool_of_trod {t : TypeId} {fuel : Nat} {cs : List Value} {x : DataW H × List MemPlace} (ht : P.underlying t = some .bool) (h : DataW.trod enc0 P W base sp held fuel t cs = some x) : ∃ b, cs = [.bool b] := by
  cases fuel with
  | zero => simp [DataW.trod] at h
  | succ n =>
    unfold DataW.trod at h
    rw [ht] at h
    split at h <;> simp_all
end
end Go.Lg
namespace Go.Lg.B
open Go Go.Conc Go.Lg Go.Proofs Go.WideShapes Go.ChangeShapes Go.Proofs.Tryz
set_option maxRecDepth 100000
theorem cells3 : prog.cellsOf 3 = 1 := by kernel_rfl
theorem cells4 : prog.cellsOf 4 = 1 := by kernel_rfl
theorem cells22 : prog.cellsOf 22 = 1 := by kernel_rfl
theorem cells23 : prog.cellsOf 23 = 1 := by kernel_rfl
theorem cells25 : prog.cellsOf 25 = 5 := by kernel_rfl
theorem cells27 : prog.cellsOf 27 = 2 := by kernel_rfl
theorem cells46 : prog.cellsOf 46 = 2 := by kernel_rfl
theorem cells58 : prog.cellsOf 58 = 5 := by kernel_rfl
section
variable {H : Type} {enc0 : TypeId × Value → H} {W : World} {base : Nat} {sp : Nat → Bool} {held : Bool}
theorem field_of {P : Program} {t : TypeId} {fs : Array Field} {fuel : Nat} {cs : List Value} {x : DataW H × List MemPlace} (ht : P.underlying t = some (.struct fs)) (h : DataW.trod enc0 P W base sp held fuel t cs = some x) :
    cs.length = P.cellsOf t ∧ ∀ (i : Nat) (f : Field), fs[i]? = some f → ∃ n z, DataW.trod enc0 P W base sp held n f.type ((cs.drop f.offset).take (P.cellsOf f.type)) = some z := by
  obtain ⟨xs, n, _, _, h1, h2, h3⟩ := DataW.trod_struct ht h
  refine ⟨h1, fun i f hf => ?_⟩
  have hi : i < xs.length := by rw [h2]; exact (Array.getElem?_eq_some_iff.1 hf).1
  exact ⟨n, xs[i], by rw [h3 i f hf, List.getElem?_eq_getElem hi]⟩
theorem sq_of {n : Nat} {cs : List Value} {z : DataW H × List MemPlace} (h : DataW.trod enc0 prog W base sp held n 27 cs = some z) : ∃ s : Sq, cs = s.cells := by
  obtain ⟨hl, hf⟩ := field_of underlying27 h
  rw [cells27] at hl
  match cs, hl with
  | [a, c], _ =>
    have g0 : ∃ n z, DataW.trod enc0 prog W base sp held n 3 (([a, c].drop 0).take (prog.cellsOf 3)) = some z := hf 0 _ rfl
    rw [cells3] at g0
    obtain ⟨_, _, h0⟩ := g0
    have g1 : ∃ n z, DataW.trod enc0 prog W base sp held n 3 (([a, c].drop 1).take (prog.cellsOf 3)) = some z := hf 1 _ rfl
    rw [cells3] at g1
    obtain ⟨_, _, h1⟩ := g1
    obtain ⟨x0, e0, _⟩ := int_of_trod underlying3 h0
    obtain ⟨x1, e1, _⟩ := int_of_trod underlying3 h1
    simp at e0 e1
    subst e0; subst e1
    exact ⟨⟨x0, x1⟩, rfl⟩
theorem rc_of {n : Nat} {cs : List Value} {z : DataW H × List MemPlace} (h : DataW.trod enc0 prog W base sp held n 46 cs = some z) : ∃ s : Rc, cs = s.cells := by
  obtain ⟨hl, hf⟩ := field_of underlying46 h
  rw [cells46] at hl
  match cs, hl with
  | [a, c], _ =>
    have g0 : ∃ n z, DataW.trod enc0 prog W base sp held n 3 (([a, c].drop 0).take (prog.cellsOf 3)) = some z := hf 0 _ rfl
    rw [cells3] at g0
    obtain ⟨_, _, h0⟩ := g0
    have g1 : ∃ n z, DataW.trod enc0 prog W base sp held n 3 (([a, c].drop 1).take (prog.cellsOf 3)) = some z := hf 1 _ rfl
    rw [cells3] at g1
    obtain ⟨_, _, h1⟩ := g1
    obtain ⟨x0, e0, _⟩ := int_of_trod underlying3 h0
    obtain ⟨x1, e1, _⟩ := int_of_trod underlying3 h1
    simp at e0 e1
    subst e0; subst e1
    exact ⟨⟨x0, x1⟩, rfl⟩
theorem wt_of {n : Nat} {cs : List Value} {z : DataW H × List MemPlace} (h : DataW.trod enc0 prog W base sp held n 58 cs = some z) : ∃ s : Wt, cs = s.cells := by
  obtain ⟨hl, hf⟩ := field_of underlying58 h
  rw [cells58] at hl
  match cs, hl with
  | [a, c, d, e, f], _ =>
    have g0 : ∃ n z, DataW.trod enc0 prog W base sp held n 27 (([a, c, d, e, f].drop 0).take (prog.cellsOf 27)) = some z := hf 0 _ rfl
    rw [cells27] at g0
    obtain ⟨_, _, h0⟩ := g0
    have g1 : ∃ n z, DataW.trod enc0 prog W base sp held n 3 (([a, c, d, e, f].drop 2).take (prog.cellsOf 3)) = some z := hf 1 _ rfl
    rw [cells3] at g1
    obtain ⟨_, _, h1⟩ := g1
    have g2 : ∃ n z, DataW.trod enc0 prog W base sp held n 3 (([a, c, d, e, f].drop 3).take (prog.cellsOf 3)) = some z := hf 2 _ rfl
    rw [cells3] at g2
    obtain ⟨_, _, h2⟩ := g2
    have g3 : ∃ n z, DataW.trod enc0 prog W base sp held n 4 (([a, c, d, e, f].drop 4).take (prog.cellsOf 4)) = some z := hf 3 _ rfl
    rw [cells4] at g3
    obtain ⟨_, _, h3⟩ := g3
    obtain ⟨s, e0⟩ := sq_of h0
    obtain ⟨x1, e1, _⟩ := int_of_trod underlying3 h1
    obtain ⟨x2, e2, _⟩ := int_of_trod underlying3 h2
    obtain ⟨x3, e3⟩ := bool_of_trod underlying4 h3
    simp [Sq.cells] at e0 e1 e2 e3
    obtain ⟨rfl, rfl⟩ := e0
    subst e1; subst e2; subst e3
    exact ⟨⟨s, x1, x2, x3⟩, rfl⟩
theorem rcs_of {n : Nat} {cs : List Value} {z : DataW H × List MemPlace} (h : DataW.trod enc0 prog W base sp held n 22 cs = some z) : ∃ v xs, cs = [v] ∧ Ls Rc.cells 2 (fun b => W.heap[b]?) v xs :=
  ls_of_trod underlying22 cells46 (by decide) Rc.len (fun _ _ _ h => rc_of h) h
theorem wts_of {n : Nat} {cs : List Value} {z : DataW H × List MemPlace} (h : DataW.trod enc0 prog W base sp held n 23 cs = some z) : ∃ v xs, cs = [v] ∧ Ls Wt.cells 5 (fun b => W.heap[b]?) v xs :=
  ls_of_trod underlying23 cells58 (by decide) Wt.len (fun _ _ _ h => wt_of h) h
theorem argBk {r : Reach} {b0 : Nat} {v : Value} {d : DataW H} {p : List MemPlace} (hv : Value.okWide prog W r b0 25 v) (h : DataW.Trod enc0 prog W base sp held 25 v d p) : ∃ b, BkV (fun b => W.heap[b]?) v b := by
  obtain ⟨⟨cs⟩, rfl, _⟩ := okWide_struct underlying25 hv
  obtain ⟨n, h⟩ := h
  obtain ⟨hl, hf⟩ := field_of (cs := cs) underlying25 h
  rw [cells25] at hl
  match cs, hl with
  | [a, c, d, e, f], _ =>
    have g0 : ∃ n z, DataW.trod enc0 prog W base sp held n 3 (([a, c, d, e, f].drop 0).take (prog.cellsOf 3)) = some z := hf 0 _ rfl
    rw [cells3] at g0
    obtain ⟨_, _, h0⟩ := g0
    have g1 : ∃ n z, DataW.trod enc0 prog W base sp held n 3 (([a, c, d, e, f].drop 1).take (prog.cellsOf 3)) = some z := hf 1 _ rfl
    rw [cells3] at g1
    obtain ⟨_, _, h1⟩ := g1
    have g2 : ∃ n z, DataW.trod enc0 prog W base sp held n 3 (([a, c, d, e, f].drop 2).take (prog.cellsOf 3)) = some z := hf 2 _ rfl
    rw [cells3] at g2
    obtain ⟨_, _, h2⟩ := g2
    have g3 : ∃ n z, DataW.trod enc0 prog W base sp held n 22 (([a, c, d, e, f].drop 3).take (prog.cellsOf 22)) = some z := hf 3 _ rfl
    rw [cells22] at g3
    obtain ⟨_, _, h3⟩ := g3
    have g4 : ∃ n z, DataW.trod enc0 prog W base sp held n 23 (([a, c, d, e, f].drop 4).take (prog.cellsOf 23)) = some z := hf 4 _ rfl
    rw [cells23] at g4
    obtain ⟨_, _, h4⟩ := g4
    obtain ⟨x0, e0, _⟩ := int_of_trod underlying3 h0
    obtain ⟨x1, e1, _⟩ := int_of_trod underlying3 h1
    obtain ⟨x2, e2, _⟩ := int_of_trod underlying3 h2
    obtain ⟨v3, x3, e3, l3⟩ := rcs_of h3
    obtain ⟨v4, x4, e4, l4⟩ := wts_of h4
    simp at e0 e1 e2 e3 e4
    subst e0; subst e1; subst e2; subst e3; subst e4
    exact ⟨⟨x0, x1, x2, x3, x4⟩, _, _, rfl, l3, l4⟩
end
end Go.Lg.B
namespace Go.Lg.B
open Go Go.Conc Go.Lg Go.Proofs Go.Proofs.Tryz
def trueOf (x y : Int) : Int :=
  if 12 * min (max x (-x)) (max y (-y)) ≤ 5 * max (max x (-x)) (max y (-y)) then (if max x (-x) > max y (-y) then (if x > 0 then 2 else 6) else if y > 0 then 0 else 4)
  else if x > 0 then (if y > 0 then 1 else 3) else if y > 0 then 7 else 5
theorem trueOf_bearing (a z : Sq) : trueOf (z.e - a.e) (z.n - a.n) = bearing a z := by
  generalize hx : z.e - a.e = x
  generalize hy : z.n - a.n = y
  simp only [bearing, aside, hx, hy, trueOf]
  repeat' split
  all_goals first | rfl | (exfalso; simp_all; done) | (exfalso; simp_all; omega)
section
variable {main : Bool} {J : Goroutine → Mem → Prop} (hJ : Closed prog main J)
include hJ
theorem nearR_c (s : Sq) (ro : RO) : CallP prog J (fnv 83) [s.val] ro (.bool (isPlace s)) := by
  refine CallP.intro hJ (by kernel_rfl) fun c cs tail hret => enter_X (n := 11) func83 rfl rfl (Nl rfl) ?_
  have C : Ctx prog main J (bf 83 .normal) := ⟨hJ, by decide⟩
  refine Xr C rfl rfl <| R.box C rfl rfl rfl rfl fun p1 => Ad C rfl rfl <| Xr C rfl rfl <| Rf C 0 rfl rfl runUnderlying27 rfl sizeOf3 <| R.loadOne C rfl rfl rfl isAgg3 (by repeat (first | exact Mh | apply Mt)) rfl <| R.callP C rfl rfl rfl rfl (betweenR_c hJ _ _ _ _) <| Rm C rfl rfl <| R.fix (t := 6) rfl (fun q1 => ?_) (fun q1 => ?_)
  · have q1 := q1
    refine Rf C 1 rfl rfl runUnderlying27 rfl sizeOf3 <| R.loadOne C rfl rfl rfl isAgg3 (by repeat (first | exact Mh | apply Mt)) rfl <| R.callP C rfl rfl rfl rfl (betweenR_c hJ _ _ _ _) <| R.pickT C rfl rfl rfl rfl <| Ad C rfl rfl <| Xt C func83 <| Hp hret ?_
    simp_all [isPlace, retVal]
  · have q1 := q1
    refine R.pass C rfl rfl <| R.pass C rfl rfl <| R.pass C rfl rfl <| R.pickF C rfl rfl rfl rfl <| Ad C rfl rfl <| Xt C func83 <| Hp hret ?_
    simp_all [isPlace, retVal]
theorem insideR_c (x : Rc) (l m : Int) (ro : RO) : CallP prog J (fnv 90) [x.val, .int .i64 l, .int .i64 m] ro (.bool (isReach x l m)) := by
  refine CallP.intro hJ (by kernel_rfl) fun c cs tail hret => enter_X (n := 24) func90 rfl rfl (Nl rfl) ?_
  have C : Ctx prog main J (bf 90 .normal) := ⟨hJ, by decide⟩
  refine Xr C rfl rfl <| R.box C rfl rfl rfl rfl fun p3 => Ad C rfl rfl <| Xr C rfl rfl <| Rm C rfl rfl <| Rf C 0 rfl rfl runUnderlying46 rfl sizeOf3 <| R.loadOne C rfl rfl rfl isAgg3 (by repeat (first | exact Mh | apply Mt)) rfl <| R.int C rfl rfl rfl rfl b_leq <| Rm C rfl rfl <| R.fix (t := 11) rfl (fun q1 => ?_) (fun q1 => ?_)
  · have q1 := q1
    refine Rf C 0 rfl rfl runUnderlying46 rfl sizeOf3 <| R.loadOne C rfl rfl rfl isAgg3 (by repeat (first | exact Mh | apply Mt)) rfl <| Rf C 1 rfl rfl runUnderlying46 rfl sizeOf3 <| R.loadOne C rfl rfl rfl isAgg3 (by repeat (first | exact Mh | apply Mt)) rfl <| R.int C rfl rfl rfl rfl b_leq <| R.pickT C rfl rfl rfl rfl <| Rm C rfl rfl <| R.fix (t := 18) rfl (fun q2 => ?_) (fun q2 => ?_)
    · have q2 := q2
      refine Rf C 1 rfl rfl runUnderlying46 rfl sizeOf3 <| R.loadOne C rfl rfl rfl isAgg3 (by repeat (first | exact Mh | apply Mt)) rfl <| Rm C rfl rfl <| R.int C rfl rfl rfl rfl b_leq <| R.pickT C rfl rfl rfl rfl <| Ad C rfl rfl <| Xt C func90 <| Hp hret ?_
      first | (simp_all [isReach, retVal]; done) | (simp_all [isReach, retVal]; omega)
    · have q2 := q2
      refine R.pass C rfl rfl <| R.pass C rfl rfl <| R.pass C rfl rfl <| R.pass C rfl rfl <| R.pickF C rfl rfl rfl rfl <| Ad C rfl rfl <| Xt C func90 <| Hp hret ?_
      first | (simp_all [isReach, retVal]; done) | (simp_all [isReach, retVal]; omega)
  · have q1 := q1
    refine R.pass C rfl rfl <| R.pass C rfl rfl <| R.pass C rfl rfl <| R.pass C rfl rfl <| R.pass C rfl rfl <| R.pickF C rfl rfl rfl rfl <| Rm C rfl rfl <| R.pass C rfl rfl <| R.pass C rfl rfl <| R.pass C rfl rfl <| R.pass C rfl rfl <| R.pickF C rfl rfl rfl rfl <| Ad C rfl rfl <| Xt C func90 <| Hp hret ?_
    first | (simp_all [isReach, retVal]; done) | (simp_all [isReach, retVal]; omega)
theorem isCompassR_c {b : Bk} {v : Value} {ro : RO} (hv : BkV ro v b) (hb : b.short) (k : Int) : CallP prog J (fnv 91) [v, .int .i64 k] ro (.bool (between k 0 (b.cs.length - 1))) := by
  obtain ⟨vc, vw, rfl, hc, hw⟩ := hv
  obtain ⟨h1, h2⟩ := hb
  obtain ⟨b1, c1, rfl⟩ := hc.form
  refine CallP.intro hJ (by kernel_rfl) fun c cs tail hret => enter_X (n := 11) func91 rfl rfl (Nl rfl) ?_
  have C : Ctx prog main J (bf 91 .normal) := ⟨hJ, by decide⟩
  refine Xr C rfl rfl <| R.box C rfl rfl rfl rfl fun p2 => Ad C rfl rfl <| Xr C rfl rfl <| Rm C rfl rfl <| Rf C 3 rfl rfl runUnderlying25 rfl sizeOf22 <| R.loadOne C rfl rfl rfl isAgg22 (by repeat (first | exact Mh | apply Mt)) rfl <| R.lenSlice C rfl rfl rfl runUnderlying22 <| R.int C rfl rfl rfl rfl (b_sub (by omega) (by omega)) <| R.callP C rfl rfl rfl rfl (betweenR_c hJ _ _ _ _) <| Ad C rfl rfl <| Xt C func91 <| Hp hret ?_
  simp_all [retVal]
theorem greatR_c {b : Bk} {v : Value} {ro : RO} (hv : BkV ro v b) : CallP prog J (fnv 18) [v] ro (.bool (decide (20 < b.cs.length) || decide (20 < b.ws.length))) := by
  obtain ⟨vc, vw, rfl, hc, hw⟩ := hv
  obtain ⟨b1, c1, rfl⟩ := hc.form
  obtain ⟨b2, c2, rfl⟩ := hw.form
  refine CallP.intro hJ (by kernel_rfl) fun c cs tail hret => enter_X (n := 13) func18 rfl rfl (Nl rfl) ?_
  have C : Ctx prog main J (bf 18 .normal) := ⟨hJ, by decide⟩
  refine Xr C rfl rfl <| R.box C rfl rfl rfl rfl fun p1 => Ad C rfl rfl <| Xr C rfl rfl <| Rf C 3 rfl rfl runUnderlying25 rfl sizeOf22 <| R.loadOne C rfl rfl rfl isAgg22 (by repeat (first | exact Mh | apply Mt)) rfl <| R.lenSlice C rfl rfl rfl runUnderlying22 <| R.int C rfl rfl rfl rfl b_gtr <| Rm C rfl rfl <| R.fix (t := 7) rfl (fun q1 => ?_) (fun q1 => ?_)
  · have q1 := q1
    refine R.pass C rfl rfl <| R.pass C rfl rfl <| R.pass C rfl rfl <| R.pass C rfl rfl <| R.pickT C rfl rfl rfl rfl <| Ad C rfl rfl <| Xt C func18 <| Hp hret ?_
    (simp only [decide_eq_true_eq, decide_eq_false_iff_not, retVal] at *; refine congrArg Value.bool ?_; rw [Bool.eq_iff_iff]; simp; try omega)
  · have q1 := q1
    refine Rf C 4 rfl rfl runUnderlying25 rfl sizeOf23 <| R.loadOne C rfl rfl rfl isAgg23 (by repeat (first | exact Mh | apply Mt)) rfl <| R.lenSlice C rfl rfl rfl runUnderlying23 <| R.int C rfl rfl rfl rfl b_gtr <| R.pickF C rfl rfl rfl rfl <| Ad C rfl rfl <| Xt C func18 <| Hp hret ?_
    (simp only [decide_eq_true_eq, decide_eq_false_iff_not, retVal] at *; refine congrArg Value.bool ?_; rw [Bool.eq_iff_iff]; simp; try omega)
theorem trueOfR_c (x y : Int) (hx : -1000000 ≤ x ∧ x ≤ 1000000) (hy : -1000000 ≤ y ∧ y ≤ 1000000) (ro : RO) : CallP prog J (fnv 84) [.int .i64 x, .int .i64 y] ro (.int .i64 (trueOf x y)) := by
  obtain ⟨x1, x2⟩ := hx
  obtain ⟨y1, y2⟩ := hy
  refine CallP.intro hJ (by kernel_rfl) fun c cs tail hret => enter_X (n := 37) func84 rfl rfl (Nl rfl) ?_
  have C : Ctx prog main J (bf 84 .normal) := ⟨hJ, by decide⟩
  refine Xr C rfl rfl <| Ad C rfl rfl <| Xr C rfl rfl <| Rm C rfl rfl <| Rm C rfl rfl <| R.neg C rfl rfl rfl (by omega) (by omega) <| R.max2 C rfl rfl rfl rfl <| Rm C rfl rfl <| Rm C rfl rfl <| R.neg C rfl rfl rfl (by omega) (by omega) <| R.max2 C rfl rfl rfl rfl <| R.asg C rfl rfl rfl <| Ad C rfl rfl <| Xs C <| Xr C rfl rfl <| Rm C rfl rfl <| Rm C rfl rfl <| R.min2 C rfl rfl rfl rfl <| R.int C rfl rfl rfl rfl (b_mul (by omega) (by omega)) <| Rm C rfl rfl <| Rm C rfl rfl <| R.max2 C rfl rfl rfl rfl <| R.int C rfl rfl rfl rfl (b_mul (by omega) (by omega)) <| R.int C rfl rfl rfl rfl b_leq <| R.done C <| X.cond C.1 rfl (fun q1 => ?_) (fun q1 => ?_)
  · have q1 := q1
    refine Xs C <| Xr C rfl rfl <| Rm C rfl rfl <| Rm C rfl rfl <| R.int C rfl rfl rfl rfl b_gtr <| R.done C <| X.cond C.1 rfl (fun q2 => ?_) (fun q2 => ?_)
    · have q2 := q2
      refine Xs C <| Xr C rfl rfl <| Rm C rfl rfl <| R.int C rfl rfl rfl rfl b_gtr <| R.done C <| X.cond C.1 rfl (fun q3 => ?_) (fun q3 => ?_)
      · have q3 := q3
        refine Xr C rfl rfl <| Ad C rfl rfl <| Xt C func84 <| Hp hret ?_
        (simp only [decide_eq_true_eq, decide_eq_false_iff_not] at *; simp only [trueOf, retVal]; repeat' split) <;> first | rfl | (exfalso; omega)
      · have q3 := q3
        refine X.skip C.1 <| Xr C rfl rfl <| Ad C rfl rfl <| Xt C func84 <| Hp hret ?_
        (simp only [decide_eq_true_eq, decide_eq_false_iff_not] at *; simp only [trueOf, retVal]; repeat' split) <;> first | rfl | (exfalso; omega)
    · have q2 := q2
      refine X.skip C.1 <| Xs C <| Xr C rfl rfl <| Rm C rfl rfl <| R.int C rfl rfl rfl rfl b_gtr <| R.done C <| X.cond C.1 rfl (fun q4 => ?_) (fun q4 => ?_)
      · have q4 := q4
        refine Xr C rfl rfl <| Ad C rfl rfl <| Xt C func84 <| Hp hret ?_
        (simp only [decide_eq_true_eq, decide_eq_false_iff_not] at *; simp only [trueOf, retVal]; repeat' split) <;> first | rfl | (exfalso; omega)
      · have q4 := q4
        refine X.skip C.1 <| Xr C rfl rfl <| Ad C rfl rfl <| Xt C func84 <| Hp hret ?_
        (simp only [decide_eq_true_eq, decide_eq_false_iff_not] at *; simp only [trueOf, retVal]; repeat' split) <;> first | rfl | (exfalso; omega)
  · have q1 := q1
    refine X.skip C.1 <| Xs C <| Xr C rfl rfl <| Rm C rfl rfl <| R.int C rfl rfl rfl rfl b_gtr <| R.done C <| X.cond C.1 rfl (fun q5 => ?_) (fun q5 => ?_)
    · have q5 := q5
      refine Xs C <| Xr C rfl rfl <| Rm C rfl rfl <| R.int C rfl rfl rfl rfl b_gtr <| R.done C <| X.cond C.1 rfl (fun q6 => ?_) (fun q6 => ?_)
      · have q6 := q6
        refine Xr C rfl rfl <| Ad C rfl rfl <| Xt C func84 <| Hp hret ?_
        (simp only [decide_eq_true_eq, decide_eq_false_iff_not] at *; simp only [trueOf, retVal]; repeat' split) <;> first | rfl | (exfalso; omega)
      · have q6 := q6
        refine X.skip C.1 <| Xr C rfl rfl <| Ad C rfl rfl <| Xt C func84 <| Hp hret ?_
        (simp only [decide_eq_true_eq, decide_eq_false_iff_not] at *; simp only [trueOf, retVal]; repeat' split) <;> first | rfl | (exfalso; omega)
    · have q5 := q5
      refine X.skip C.1 <| Xs C <| Xr C rfl rfl <| Rm C rfl rfl <| R.int C rfl rfl rfl rfl b_gtr <| R.done C <| X.cond C.1 rfl (fun q7 => ?_) (fun q7 => ?_)
      · have q7 := q7
        refine Xr C rfl rfl <| Ad C rfl rfl <| Xt C func84 <| Hp hret ?_
        (simp only [decide_eq_true_eq, decide_eq_false_iff_not] at *; simp only [trueOf, retVal]; repeat' split) <;> first | rfl | (exfalso; omega)
      · have q7 := q7
        refine X.skip C.1 <| Xr C rfl rfl <| Ad C rfl rfl <| Xt C func84 <| Hp hret ?_
        (simp only [decide_eq_true_eq, decide_eq_false_iff_not] at *; simp only [trueOf, retVal]; repeat' split) <;> first | rfl | (exfalso; omega)
end
end Go.Lg.B
namespace Go.Lg.B
open Go Go.Conc Go.Lg Go.Proofs Go.Proofs.Tryz
theorem rz_iff {k : Int} : ∀ {m : Nat} {n : Int}, k ∈ rz n m ↔ n ≤ k ∧ k < n + m
  | 0, n => by simp only [rz, List.not_mem_nil, false_iff]; omega
  | m + 1, n => by rw [rz, List.mem_cons, rz_iff]; omega
theorem ups_iff {k : Nat} : ∀ {m n : Nat}, k ∈ ups n m ↔ n ≤ k ∧ k < n + m
  | 0, n => by simp only [ups, List.not_mem_nil, false_iff]; omega
  | m + 1, n => by rw [ups, List.mem_cons, ups_iff]; omega
theorem maskOf_bit (p : Nat → Bool) (i : Nat) : ∀ n, (maskOf p n).testBit i = (decide (i < n) && p i)
  | 0 => by simp [maskOf]
  | n + 1 => by
    simp only [maskOf]
    by_cases h : p n = true
    · rw [if_pos h, Nat.testBit_or, maskOf_bit, Nat.testBit_two_pow]
      by_cases e : i = n
      · subst e; simp [h]
      · have : (i < n + 1) ↔ i < n := by omega
        simp [Ne.symm e, this]
    · rw [if_neg h, maskOf_bit]
      by_cases e : i = n
      · subst e; simp [h]
      · have : (i < n + 1) ↔ i < n := by omega
        simp [this]
theorem andNot_zero {a c : Nat} : (andNot a c == 0) = true ↔ ∀ i, a.testBit i = true → c.testBit i = true := by
  rw [beq_iff_eq]
  constructor
  · intro h i ha
    have := congrArg (fun x => x.testBit i) h
    simp only [andNot, Nat.testBit_xor, Nat.testBit_and, ha, Nat.zero_testBit] at this
    cases hc : c.testBit i
    · rw [hc] at this; simp at this
    · rfl
  · intro h
    refine Nat.eq_of_testBit_eq fun i => ?_
    simp only [andNot, Nat.testBit_xor, Nat.testBit_and, Nat.zero_testBit]
    cases ha : a.testBit i
    · simp
    · simp [h i ha]
theorem and_zero {a c : Nat} : (a &&& c == 0) = true ↔ ∀ i, a.testBit i = true → c.testBit i = false := by
  rw [beq_iff_eq]
  constructor
  · intro h i ha
    have := congrArg (fun x => x.testBit i) h
    simpa only [Nat.testBit_and, ha, Nat.zero_testBit, Bool.true_and] using this
  · intro h
    refine Nat.eq_of_testBit_eq fun i => ?_
    simp only [Nat.testBit_and, Nat.zero_testBit]
    cases ha : a.testBit i
    · simp
    · simp [h i ha]
theorem bits_mem (m : Nat) (k : Int) : ∀ n, k ∈ bitsUpto m n ↔ ∃ i : Nat, i < n ∧ m.testBit i = true ∧ k = i
  | 0 => by simp [bitsUpto]
  | n + 1 => by
    simp only [bitsUpto]
    have ih := bits_mem m k n
    by_cases h : m.testBit n = true
    · rw [if_pos h, List.mem_append, ih, List.mem_singleton]
      constructor
      · rintro (⟨i, h1, h2, h3⟩ | rfl)
        · exact ⟨i, by omega, h2, h3⟩
        · exact ⟨n, by omega, h, rfl⟩
      · rintro ⟨i, h1, h2, h3⟩
        by_cases e : i = n
        · exact .inr (by rw [h3, e])
        · exact .inl ⟨i, by omega, h2, h3⟩
    · rw [if_neg h, ih]
      constructor
      · rintro ⟨i, h1, h2, h3⟩; exact ⟨i, by omega, h2, h3⟩
      · rintro ⟨i, h1, h2, h3⟩
        by_cases e : i = n
        · rw [e] at h2; exact absurd h2 h
        · exact ⟨i, by omega, h2, h3⟩
theorem bits_up (m : Nat) : ∀ n, List.Pairwise (· < ·) (bitsUpto m n)
  | 0 => List.Pairwise.nil
  | n + 1 => by
    simp only [bitsUpto]
    split
    · refine List.pairwise_append.2 ⟨bits_up m n, List.pairwise_singleton _ _, fun x hx y hy => ?_⟩
      obtain ⟨i, h1, _, rfl⟩ := (bits_mem m x n).1 hx
      obtain rfl := List.mem_singleton.1 hy
      omega
    · exact bits_up m n
theorem up_nodup {l : List Int} (h : List.Pairwise (· < ·) l) : l.Nodup := h.imp fun h => by omega
theorem up_ext {l m : List Int} (hl : List.Pairwise (· < ·) l) (hm : List.Pairwise (· < ·) m) (h : ∀ x, x ∈ l ↔ x ∈ m) : l = m :=
  List.Perm.eq_of_pairwise (fun a b _ _ h1 h2 => by omega) hl hm ((List.perm_ext_iff_of_nodup (up_nodup hl) (up_nodup hm)).2 h)
theorem listOf_eq {m : Nat} {l : List Int} (hl : List.Pairwise (· < ·) l) (hr : ∀ k ∈ l, 0 ≤ k ∧ k < 5) (hm : ∀ i : Nat, m.testBit i = l.contains (i : Int)) : listOf m = l := by
  refine up_ext (bits_up m 5) hl fun x => ?_
  unfold listOf
  rw [bits_mem]
  constructor
  · rintro ⟨i, _, h2, rfl⟩
    rw [hm] at h2; simpa using h2
  · intro hx
    obtain ⟨h1, h2⟩ := hr x hx
    refine ⟨x.toNat, by omega, ?_, by omega⟩
    rw [hm, show ((x.toNat : Nat) : Int) = x by omega]
    simpa using hx
end Go.Lg.B
namespace Go.Lg.B
open Go Go.Conc Go.Lg Go.Proofs Go.Proofs.Tryz
section
variable {main : Bool} {J : Goroutine → Mem → Prop} (hJ : Closed prog main J)
include hJ
theorem checkChartR_c {b : Bk} {v : Value} {ro : RO} (hv : BkV ro v b) (hs : b.short) : CallP prog J (fnv 25) [v] ro (.int .i64 (checkChart b)) := by
  have hvv := hv
  obtain ⟨vc, vw, rfl, hc, hw⟩ := hv
  obtain ⟨b1, c1, rfl⟩ := hc.form
  obtain ⟨b2, c2, rfl⟩ := hw.form
  have hs0 := hs
  obtain ⟨hs1, hs2⟩ := hs
  by_cases hch : b.chart = 0
  · have hch' : between b.w 2 7 = true ∧ between b.h 2 7 = true ∧ between b.f 0 2 = true := by
      simp only [Bk.chart] at hch
      cases h1 : between b.w 2 7 <;> cases h2 : between b.h 2 7 <;> cases h3 : between b.f 0 2 <;> simp [h1, h2, h3] at hch ⊢
    obtain ⟨g1, g2, g3⟩ := hch'
    refine CallP.intro hJ (by kernel_rfl) fun c cs tail hret => enter_X (n := 82) func25 rfl rfl (Nl rfl) ?_
    have C : Ctx prog main J (bf 25 .normal) := ⟨hJ, by decide⟩
    refine Xr C rfl rfl <| R.box C rfl rfl rfl rfl fun p1 => Ad C rfl rfl <| Xs C <| Xr C rfl rfl <| Rf C 0 rfl rfl runUnderlying25 rfl sizeOf3 <| R.loadOne C rfl rfl rfl isAgg3 (by repeat (first | exact Mh | apply Mt)) rfl <| R.callP C rfl rfl rfl rfl (betweenR_c hJ _ _ _ _) <| R.not C rfl rfl rfl <| R.fixv (t := 10) (v' := .bool false) rfl (by (rw [g1]; rfl)) <| Rm C rfl rfl <| Rf C 1 rfl rfl runUnderlying25 rfl sizeOf3 <| R.loadOne C rfl rfl rfl isAgg3 (by repeat (first | exact Mh | apply Mt)) rfl <| R.callP C rfl rfl rfl rfl (betweenR_c hJ _ _ _ _) <| R.not C rfl rfl rfl <| R.fixv (t := 15) (v' := .bool false) rfl (by (rw [g2]; rfl)) <| R.pickF C rfl rfl rfl rfl <| Rm C rfl rfl <| Rf C 2 rfl rfl runUnderlying25 rfl sizeOf3 <| R.loadOne C rfl rfl rfl isAgg3 (by repeat (first | exact Mh | apply Mt)) rfl <| R.callP C rfl rfl rfl rfl (betweenR_c hJ _ _ _ _) <| R.not C rfl rfl rfl <| R.fixv (t := 21) (v' := .bool false) rfl (by (rw [g3]; rfl)) <| R.pickF C rfl rfl rfl rfl <| R.done C <| X.cond C.1 rfl (fun h => nomatch h) (fun _ => ?_)
    refine X.skip C.1 <| Xs C <| Xr C rfl rfl <| Rf C 3 rfl rfl runUnderlying25 rfl sizeOf22 <| R.loadOne C rfl rfl rfl isAgg22 (by repeat (first | exact Mh | apply Mt)) rfl <| R.lenSlice C rfl rfl rfl runUnderlying22 <| R.callP C rfl rfl rfl rfl (betweenR_c hJ _ _ _ _) <| R.not C rfl rfl rfl <| R.done C <| X.cond C.1 rfl (fun hn => ?_) (fun hn => ?_)
    · have hn := hn
      refine Xr C rfl rfl <| Ad C rfl rfl <| Xt C func25 <| Hp hret ?_
      simp only [checkChart, hch, Bk.compassesH]
      simp_all [retVal]
    · have hn := hn
      have hn' : between (b.cs.length : Int) 1 3 = true := by simpa using hn
      refine X.skip C.1 <| Xs C <| Xr C rfl rfl <| Ad C rfl rfl <| X.block C.1 <| X.loopI (ι := Nat) C.1 (fun i => i ≤ b.cs.length ∧ csH (b.cs.drop i) = csH b.cs) (fun i => [(1, .pointer (some ⟨p1, 0, none⟩)), (3, .int .i64 (i : Int))])
        (fun _ => ⟨ro, (p1, .cells [.int .i64 b.w, .int .i64 b.h, .int .i64 b.f, .slice b1 b.cs.length c1, .slice b2 b.ws.length c2].toArray 25 (0, 0)) :: tail⟩) (fun i => b.cs.length - i) 0 ⟨Nat.zero_le _, rfl⟩ rfl ⟨rfl, rfl, trivial⟩ fun i hi hnext => ?_
      obtain ⟨hi, hr⟩ := hi
      refine Xs C <| Xr C rfl rfl <| Rm C rfl rfl <| Rf C 3 rfl rfl runUnderlying25 rfl sizeOf22 <| R.loadOne C rfl rfl rfl isAgg22 (by repeat (first | exact Mh | apply Mt)) rfl <| R.lenSlice C rfl rfl rfl runUnderlying22 <| R.int C rfl rfl rfl rfl b_lss <| R.done C <| X.cond C.1 rfl (fun hlt => ?_) (fun hlt => ?_)
      · have hlt := hlt
        simp only [decide_eq_true_eq] at hlt
        have hi' : i < b.cs.length := by omega
        obtain ⟨p, off, cap, l, t, fq, hsl, hrop, hsub⟩ := hc.at Rc.len (by omega)
        cases hsl
        rw [List.drop_eq_getElem_cons hi'] at hr
        simp only [csH] at hr
        refine X.skip C.1 <| Xs C <| X.block C.1 <| Xr C rfl rfl <| Rf C 3 rfl rfl runUnderlying25 rfl sizeOf22 <| R.loadOne C rfl rfl rfl isAgg22 (by repeat (first | exact Mh | apply Mt)) rfl <| Rm C rfl rfl <| Rx C rfl rfl rfl runUnderlying22 sizeOf46 <| R.loadAggRo C rfl rfl rfl isAgg46 sizeOf46 hrop (hsub i hi') <| R.alloc C rfl rfl zeroValue46 rfl fun p4 => R.store C rfl rfl rfl rfl sizeOf46 rfl rfl rfl (by repeat (first | exact Uh | apply Ut)) (.here (.here .nil)) <| R.done C <| Xr C rfl rfl <| R.loadAgg C rfl rfl rfl isAgg46 sizeOf46 (by repeat (first | exact Mh | apply Mt)) Tk2 <| R.callP C rfl rfl rfl rfl (insideR_c hJ b.cs[i] _ _ _) <| R.not C rfl rfl rfl <| Rm C rfl rfl <| R.fix (t := 43) rfl (fun hg => ?_) (fun hg => ?_)
        · have hg := hg
          have hf : (b.cs[i]).fine = false := by simp at hg; simp [Rc.fine, hg]
          simp [hf] at hr
          refine R.pass C rfl rfl <| R.pass C rfl rfl <| R.pass C rfl rfl <| R.pass C rfl rfl <| R.pass C rfl rfl <| R.pass C rfl rfl <| R.pickT C rfl rfl rfl rfl <| R.done C <| X.cond C.1 rfl (fun _ => ?_) (fun h => nomatch h)
          refine Xr C rfl rfl <| Ad C rfl rfl <| Xt C func25 <| Hp hret ?_
          simp [checkChart, hch, Bk.compassesH, hn', retVal, ← hr]
        · have hg := hg
          have hbd := isReach_bd (x := b.cs[i]) (by simpa using hg)
          refine Rf C 1 rfl rfl runUnderlying46 rfl sizeOf3 <| R.loadOne C rfl rfl rfl isAgg3 (by repeat (first | exact Mh | apply Mt)) rfl <| Rf C 0 rfl rfl runUnderlying46 rfl sizeOf3 <| R.loadOne C rfl rfl rfl isAgg3 (by repeat (first | exact Mh | apply Mt)) rfl <| R.int C rfl rfl rfl rfl (b_sub (by omega) (by omega)) <| R.int C rfl rfl rfl rfl b_geq <| R.pickF C rfl rfl rfl rfl <| R.done C <| X.cond C.1 rfl (fun hd => ?_) (fun hd => ?_)
          · have hd := hd
            have hf : (b.cs[i]).fine = false := by simp at hd; simp [Rc.fine]; intro _; omega
            simp [hf] at hr
            refine Xr C rfl rfl <| Ad C rfl rfl <| Xt C func25 <| Hp hret ?_
            simp [checkChart, hch, Bk.compassesH, hn', retVal, ← hr]
          · have hd := hd
            refine X.skip C.1 <| X.inBlock C.1 <| X.region C rfl rfl <| Rm C rfl rfl <| R.int C rfl rfl rfl rfl (b_add (by omega) (by omega)) <| Ad C rfl rfl ?_
            have hf : (b.cs[i]).fine = true := by simp at hd hg; simp [Rc.fine, hg]; omega
            simp [hf] at hr
            refine X.weak C.1 (Weak.sub (List.sublist_cons_self _ _)) (X.weaken ?_ (hnext (i + 1) ⟨by omega, hr⟩ (by omega)))
            exact ⟨rfl, by simp [look], trivial⟩
      · have hlt := hlt
        simp only [decide_eq_false_iff_not] at hlt
        obtain rfl : i = b.cs.length := by omega
        have hcs : b.compassesH = 0 := by simp [csH] at hr; simp [Bk.compassesH, hn', ← hr]
        have hcc : checkChart b = b.witnessesH := by simp [checkChart, hch, hcs]
        refine X.exit C.1 rfl <| Xs C <| Xr C rfl rfl <| Rf C 4 rfl rfl runUnderlying25 rfl sizeOf23 <| R.loadOne C rfl rfl rfl isAgg23 (by repeat (first | exact Mh | apply Mt)) rfl <| R.lenSlice C rfl rfl rfl runUnderlying23 <| R.int C rfl rfl rfl rfl b_gtr <| R.done C <| X.cond C.1 rfl (fun h5 => ?_) (fun h5 => ?_)
        · have h5 := h5
          refine Xr C rfl rfl <| Ad C rfl rfl <| Xt C func25 <| Hp hret ?_
          simp at h5
          rw [hcc]
          simp [Bk.witnessesH, retVal]; omega
        · have h5 := h5
          simp at h5
          refine X.skip C.1 <| Xs C <| Xr C rfl rfl <| Ad C rfl rfl <| X.block C.1 <| X.loopI (ι := Nat) C.1 (fun i => i ≤ b.ws.length ∧ wtsH b.cs.length (b.ws.drop i) = wtsH b.cs.length b.ws) (fun i => [(1, .pointer (some ⟨p1, 0, none⟩)), (5, .int .i64 (i : Int))])
            (fun _ => ⟨ro, (p1, .cells [.int .i64 b.w, .int .i64 b.h, .int .i64 b.f, .slice b1 b.cs.length c1, .slice b2 b.ws.length c2].toArray 25 (0, 0)) :: tail⟩) (fun i => b.ws.length - i) 0 ⟨Nat.zero_le _, rfl⟩ rfl ⟨rfl, rfl, trivial⟩ fun i hi hnext2 => ?_
          obtain ⟨hi, hr⟩ := hi
          refine Xs C <| Xr C rfl rfl <| Rm C rfl rfl <| Rf C 4 rfl rfl runUnderlying25 rfl sizeOf23 <| R.loadOne C rfl rfl rfl isAgg23 (by repeat (first | exact Mh | apply Mt)) rfl <| R.lenSlice C rfl rfl rfl runUnderlying23 <| R.int C rfl rfl rfl rfl b_lss <| R.done C <| X.cond C.1 rfl (fun hlt2 => ?_) (fun hlt2 => ?_)
          · have hlt2 := hlt2
            simp only [decide_eq_true_eq] at hlt2
            have hi' : i < b.ws.length := by omega
            obtain ⟨p, off, cap, l, t, fq, hsl, hrop, hsub⟩ := hw.at Wt.len (by omega)
            cases hsl
            rw [List.drop_eq_getElem_cons hi'] at hr
            simp only [wtsH] at hr
            refine X.skip C.1 <| Xs C <| X.block C.1 <| Xr C rfl rfl <| Rf C 4 rfl rfl runUnderlying25 rfl sizeOf23 <| R.loadOne C rfl rfl rfl isAgg23 (by repeat (first | exact Mh | apply Mt)) rfl <| Rm C rfl rfl <| Rx C rfl rfl rfl runUnderlying23 sizeOf58 <| R.loadAggRo C rfl rfl rfl isAgg58 sizeOf58 hrop (hsub i hi') <| R.alloc C rfl rfl zeroValue58 rfl fun p6 => R.store C rfl rfl rfl rfl sizeOf58 rfl rfl rfl (by repeat (first | exact Uh | apply Ut)) (.here (.here (.here (.here (.here .nil))))) <| R.done C <| Xs C <| Xr C rfl rfl <| Rf C 0 rfl rfl runUnderlying58 rfl sizeOf27 <| R.loadAgg C rfl rfl rfl isAgg27 sizeOf27 (by repeat (first | exact Mh | apply Mt)) Tk2 <| R.callP C rfl rfl rfl rfl (nearR_c hJ (b.ws[i]).s _) <| R.not C rfl rfl rfl <| Rm C rfl rfl <| R.fix (t := 71) rfl (fun hg2 => ?_) (fun hg2 => ?_)
            · have hg2 := hg2
              refine R.pass C rfl rfl <| R.pass C rfl rfl <| R.pass C rfl rfl <| R.pass C rfl rfl <| R.pickT C rfl rfl rfl rfl <| R.done C <| X.cond C.1 rfl (fun _ => ?_) (fun h => nomatch h)
              refine Xr C rfl rfl <| Ad C rfl rfl <| Xt C func25 <| Hp hret ?_
              simp at hg2
              simp [hg2] at hr
              rw [hcc]
              simp [Bk.witnessesH, retVal, ← hr]; omega
            · have hg2 := hg2
              refine Rf C 2 rfl rfl runUnderlying58 rfl sizeOf3 <| R.loadOne C rfl rfl rfl isAgg3 (by repeat (first | exact Mh | apply Mt)) rfl <| R.callP C rfl rfl rfl rfl (betweenR_c hJ _ _ _ _) <| R.not C rfl rfl rfl <| R.pickF C rfl rfl rfl rfl <| R.done C <| X.cond C.1 rfl (fun hd => ?_) (fun hd => ?_)
              · have hd := hd
                refine Xr C rfl rfl <| Ad C rfl rfl <| Xt C func25 <| Hp hret ?_
                simp at hg2 hd
                simp [hg2, hd] at hr
                rw [hcc]
                simp [Bk.witnessesH, retVal, ← hr]; omega
              · have hd := hd
                refine X.skip C.1 <| Xr C rfl rfl <| R.loadAgg C rfl rfl rfl isAgg25 sizeOf25 (by repeat (first | exact Mh | apply Mt)) Tk5 <| Rf C 3 rfl rfl runUnderlying58 rfl sizeOf3 <| R.loadOne C rfl rfl rfl isAgg3 (by repeat (first | exact Mh | apply Mt)) rfl <| R.callP C rfl rfl rfl rfl (isCompassR_c hJ hvv hs0 _) <| R.not C rfl rfl rfl <| R.done C <| X.cond C.1 rfl (fun hk => ?_) (fun hk => ?_)
                · have hk := hk
                  refine Xr C rfl rfl <| Ad C rfl rfl <| Xt C func25 <| Hp hret ?_
                  simp at hg2 hd hk
                  simp [hg2, hd, there, hk] at hr
                  rw [hcc]
                  simp [Bk.witnessesH, retVal, ← hr]; omega
                · have hk := hk
                  refine X.skip C.1 <| X.inBlock C.1 <| X.region C rfl rfl <| Rm C rfl rfl <| R.int C rfl rfl rfl rfl (b_add (by omega) (by omega)) <| Ad C rfl rfl ?_
                  simp at hg2 hd hk
                  simp [hg2, hd, there, hk] at hr
                  refine X.weak C.1 (Weak.sub (List.sublist_cons_self _ _)) (X.weaken ?_ (hnext2 (i + 1) ⟨by omega, hr⟩ (by omega)))
                  exact ⟨rfl, by simp [look], trivial⟩
          · have hlt2 := hlt2
            simp only [decide_eq_false_iff_not] at hlt2
            obtain rfl : i = b.ws.length := by omega
            simp [wtsH] at hr
            refine X.exit C.1 rfl <| Xr C rfl rfl <| Ad C rfl rfl <| Xt C func25 <| Hp hret ?_
            rw [hcc]
            simp [Bk.witnessesH, retVal, ← hr]; omega
  · have hone : b.chart = 1 := by
      simp only [Bk.chart] at hch ⊢
      split at hch
      · rename_i h; rw [if_pos h]
      · exact absurd rfl hch
    have hcc : checkChart b = 1 := by rw [checkChart, if_pos hch, hone]
    have hany : (!between b.w 2 7 || !between b.h 2 7 || !between b.f 0 2) = true := by
      simp only [Bk.chart] at hch
      split at hch
      · assumption
      · exact absurd rfl hch
    by_cases g1 : between b.w 2 7 = true
    · by_cases g2 : between b.h 2 7 = true
      · have g3 : between b.f 0 2 = false := by simpa [g1, g2] using hany
        refine CallP.intro hJ (by kernel_rfl) fun c cs tail hret => enter_X (n := 82) func25 rfl rfl (Nl rfl) ?_
        have C : Ctx prog main J (bf 25 .normal) := ⟨hJ, by decide⟩
        refine Xr C rfl rfl <| R.box C rfl rfl rfl rfl fun p1 => Ad C rfl rfl <| Xs C <| Xr C rfl rfl <| Rf C 0 rfl rfl runUnderlying25 rfl sizeOf3 <| R.loadOne C rfl rfl rfl isAgg3 (by repeat (first | exact Mh | apply Mt)) rfl <| R.callP C rfl rfl rfl rfl (betweenR_c hJ _ _ _ _) <| R.not C rfl rfl rfl <| R.fixv (t := 10) (v' := .bool false) rfl (by (rw [g1]; rfl)) <| Rm C rfl rfl <| Rf C 1 rfl rfl runUnderlying25 rfl sizeOf3 <| R.loadOne C rfl rfl rfl isAgg3 (by repeat (first | exact Mh | apply Mt)) rfl <| R.callP C rfl rfl rfl rfl (betweenR_c hJ _ _ _ _) <| R.not C rfl rfl rfl <| R.fixv (t := 15) (v' := .bool false) rfl (by (rw [g2]; rfl)) <| R.pickF C rfl rfl rfl rfl <| Rm C rfl rfl <| Rf C 2 rfl rfl runUnderlying25 rfl sizeOf3 <| R.loadOne C rfl rfl rfl isAgg3 (by repeat (first | exact Mh | apply Mt)) rfl <| R.callP C rfl rfl rfl rfl (betweenR_c hJ _ _ _ _) <| R.not C rfl rfl rfl <| R.fixv (t := 21) (v' := .bool true) rfl (by (rw [g3]; rfl)) <| R.pickF C rfl rfl rfl rfl <| R.done C <| X.cond C.1 rfl (fun _ => ?_) (fun h => nomatch h)
        refine Xr C rfl rfl <| Ad C rfl rfl <| Xt C func25 <| Hp hret ?_
        rw [hcc]; rfl
      · have g2 : between b.h 2 7 = false := by simpa using g2
        refine CallP.intro hJ (by kernel_rfl) fun c cs tail hret => enter_X (n := 82) func25 rfl rfl (Nl rfl) ?_
        have C : Ctx prog main J (bf 25 .normal) := ⟨hJ, by decide⟩
        refine Xr C rfl rfl <| R.box C rfl rfl rfl rfl fun p1 => Ad C rfl rfl <| Xs C <| Xr C rfl rfl <| Rf C 0 rfl rfl runUnderlying25 rfl sizeOf3 <| R.loadOne C rfl rfl rfl isAgg3 (by repeat (first | exact Mh | apply Mt)) rfl <| R.callP C rfl rfl rfl rfl (betweenR_c hJ _ _ _ _) <| R.not C rfl rfl rfl <| R.fixv (t := 10) (v' := .bool false) rfl (by (rw [g1]; rfl)) <| Rm C rfl rfl <| Rf C 1 rfl rfl runUnderlying25 rfl sizeOf3 <| R.loadOne C rfl rfl rfl isAgg3 (by repeat (first | exact Mh | apply Mt)) rfl <| R.callP C rfl rfl rfl rfl (betweenR_c hJ _ _ _ _) <| R.not C rfl rfl rfl <| R.fixv (t := 15) (v' := .bool true) rfl (by (rw [g2]; rfl)) <| R.pickF C rfl rfl rfl rfl <| Rm C rfl rfl <| R.pass C rfl rfl <| R.pass C rfl rfl <| R.pass C rfl rfl <| R.pass C rfl rfl <| R.pickT C rfl rfl rfl rfl <| R.done C <| X.cond C.1 rfl (fun _ => ?_) (fun h => nomatch h)
        refine Xr C rfl rfl <| Ad C rfl rfl <| Xt C func25 <| Hp hret ?_
        rw [hcc]; rfl
    · have g1 : between b.w 2 7 = false := by simpa using g1
      refine CallP.intro hJ (by kernel_rfl) fun c cs tail hret => enter_X (n := 82) func25 rfl rfl (Nl rfl) ?_
      have C : Ctx prog main J (bf 25 .normal) := ⟨hJ, by decide⟩
      refine Xr C rfl rfl <| R.box C rfl rfl rfl rfl fun p1 => Ad C rfl rfl <| Xs C <| Xr C rfl rfl <| Rf C 0 rfl rfl runUnderlying25 rfl sizeOf3 <| R.loadOne C rfl rfl rfl isAgg3 (by repeat (first | exact Mh | apply Mt)) rfl <| R.callP C rfl rfl rfl rfl (betweenR_c hJ _ _ _ _) <| R.not C rfl rfl rfl <| R.fixv (t := 10) (v' := .bool true) rfl (by (rw [g1]; rfl)) <| Rm C rfl rfl <| R.pass C rfl rfl <| R.pass C rfl rfl <| R.pass C rfl rfl <| R.pass C rfl rfl <| R.pickT C rfl rfl rfl rfl <| Rm C rfl rfl <| R.pass C rfl rfl <| R.pass C rfl rfl <| R.pass C rfl rfl <| R.pass C rfl rfl <| R.pickT C rfl rfl rfl rfl <| R.done C <| X.cond C.1 rfl (fun _ => ?_) (fun h => nomatch h)
      refine Xr C rfl rfl <| Ad C rfl rfl <| Xt C func25 <| Hp hret ?_
      rw [hcc]; rfl
end
end Go.Lg.B
namespace Go.Lg.B
open Go Go.Conc Go.Lg Go.Proofs Go.Proofs.Tryz
theorem ic_at {l : List Int} {off : Nat} {ll : List Value} (hsub : ∀ i (hi : i < l.length), Sub (off + i * 1) 1 ll (ic l[i])) {i : Nat} (hi : i < l.length) : ll[off + i * 1]? = some (.int .i64 l[i]) := by
  have := (hsub i hi).get 0 (by decide)
  simpa [ic] using this
section
variable {main : Bool} {J : Goroutine → Mem → Prop} (hJ : Closed prog main J)
include hJ
theorem holdsR_c {v : Value} {ro : RO} {l : List Int} (hl : LsI ro v l) (hn : l.length ≤ 1000000) (n : Int) : CallP prog J (fnv 54) [v, .int .i64 n] ro (.bool (l.contains n)) := by
  obtain ⟨lb, lc, rfl⟩ := hl.form
  refine CallP.intro hJ (by kernel_rfl) fun c cs tail hret => enter_X (n := 18) func54 rfl rfl (Nl rfl) ?_
  have C : Ctx prog main J (bf 54 .normal) := ⟨hJ, by decide⟩
  refine Xr C rfl rfl <| Ad C rfl rfl <| Xs C <| Xr C rfl rfl <| Ad C rfl rfl <| X.block C.1 <| X.loopI (ι := Nat) C.1 (fun i => i ≤ l.length ∧ l.contains n = (l.drop i).contains n) (fun i => [(0, .slice lb l.length lc), (1, .int .i64 n), (5, .int .i64 (i : Int))])
    (fun _ => ⟨ro, tail⟩) (fun i => l.length - i) 0 ⟨Nat.zero_le _, rfl⟩ rfl ⟨rfl, rfl, rfl, trivial⟩ fun i hi hnext => ?_
  obtain ⟨hi, hr⟩ := hi
  refine Xs C <| Xr C rfl rfl <| Rm C rfl rfl <| Rm C rfl rfl <| R.lenSlice C rfl rfl rfl runUnderlying28 <| R.int C rfl rfl rfl rfl b_lss <| R.done C <| X.cond C.1 rfl (fun hlt => ?_) (fun hlt => ?_)
  · have hlt := hlt
    simp only [decide_eq_true_eq] at hlt
    have hi' : i < l.length := by omega
    obtain ⟨pp, off, cap, ll, t, fq, hsl, hrop, hsub⟩ := hl.at ic_len (by omega)
    cases hsl
    have hx := ic_at hsub hi'
    rw [List.drop_eq_getElem_cons hi', List.contains_cons] at hr
    refine X.skip C.1 <| Xs C <| X.block C.1 <| Xr C rfl rfl <| Rm C rfl rfl <| Rm C rfl rfl <| Rx C rfl rfl rfl runUnderlying28 sizeOf3 <| R.loadOneRo C rfl rfl rfl isAgg3 hrop hx <| Rm C rfl rfl <| R.int C rfl rfl rfl rfl b_eql <| R.done C <| X.cond C.1 rfl (fun he => ?_) (fun he => ?_)
    · have he := he
      have he2 : l[i] = n := by simpa using he
      rw [he2, beq_self_eq_true, Bool.true_or] at hr
      refine Xr C rfl rfl <| Ad C rfl rfl <| Xt C func54 <| Hp hret ?_
      rw [hr]; rfl
    · have he := he
      have he2 : l[i] ≠ n := by simpa using he
      rw [beq_eq_false_iff_ne.2 (Ne.symm he2), Bool.false_or] at hr
      refine X.skip C.1 <| X.inBlock C.1 <| X.region C rfl rfl <| Rm C rfl rfl <| R.int C rfl rfl rfl rfl (b_add (by omega) (by omega)) <| Ad C rfl rfl <| X.weaken ?_ (hnext (i + 1) ⟨hi', hr⟩ (by omega))
      exact ⟨rfl, rfl, by simp [look], trivial⟩
  · have hlt := hlt
    simp only [decide_eq_false_iff_not] at hlt
    obtain rfl : i = l.length := by omega
    rw [List.drop_length] at hr
    refine X.exit C.1 rfl <| Xr C rfl rfl <| Ad C rfl rfl <| Xt C func54 <| Hp hret ?_
    rw [hr]; rfl
end
end Go.Lg.B
namespace Go.Lg.B
open Go Go.Conc Go.Lg Go.Proofs Go.Proofs.Tryz
def ext (most : Int) (i : Nat) (l : List (List Int)) : List (List Int) := (l.filter fun x => decide ((x.length : Int) < most)).map fun x => x ++ [(i : Int)]
def sets (most : Int) : Nat → List (List Int)
  | 0 => [[]]
  | i + 1 => sets most i ++ ext most i (sets most i)
theorem ext_le (most : Int) (i : Nat) (l : List (List Int)) : (ext most i l).length ≤ l.length := by
  unfold ext; rw [List.length_map]; exact List.length_filter_le _ _
theorem sets_len (most : Int) : ∀ n, (sets most n).length ≤ 2 ^ n
  | 0 => by simp [sets]
  | n + 1 => by
    have h1 := sets_len most n
    have h2 := ext_le most n (sets most n)
    simp only [sets, List.length_append]
    have : 2 ^ (n + 1) = 2 ^ n + 2 ^ n := by rw [Nat.pow_succ]; omega
    omega
theorem sets_pos (most : Int) : ∀ n, 0 < (sets most n).length
  | 0 => by simp [sets]
  | n + 1 => by have := sets_pos most n; simp only [sets, List.length_append]; omega
theorem sets_each (most : Int) : ∀ n, ∀ l ∈ sets most n, l.length ≤ n
  | 0, l, h => by simp [sets] at h; simp [h]
  | n + 1, l, h => by
    rcases List.mem_append.1 h with h | h
    · have := sets_each most n l h; omega
    · obtain ⟨x, hx, rfl⟩ := List.mem_map.1 h
      have := sets_each most n x (List.mem_filter.1 hx).1
      simp; omega
theorem ext_take (most : Int) (i : Nat) (l : List (List Int)) {k : Nat} (h : k < l.length) : ext most i (l.take (k + 1)) = ext most i (l.take k) ++ (if (l[k].length : Int) < most then [l[k] ++ [(i : Int)]] else []) := by
  unfold ext
  rw [List.take_add_one, List.getElem?_eq_getElem h, List.filter_append, List.map_append]
  congr 1
  by_cases hm : (l[k].length : Int) < most <;> simp [hm]
abbrev LE := Value × List Int
def le (p : LE) : List Value := [p.1]
theorem le_len (p : LE) : (le p).length = 1 := rfl
def LL (ro : RO) (v : Value) (l : List (List Int)) : Prop := ∃ xs : List LE, Ls le 1 ro v xs ∧ xs.map (·.2) = l ∧ ∀ p ∈ xs, LsI ro p.1 p.2
theorem le_flat (xs : List LE) : (xs.flatMap le).length = xs.length := by rw [flatMap_len le_len, Nat.mul_one]
theorem le_get (xs : List LE) (sp : List Value) {k : Nat} (h : k < xs.length) : (xs.flatMap le ++ sp)[0 + k * 1]? = some xs[k].1 := by
  have hl := le_flat xs
  rw [Nat.zero_add, Nat.mul_one, List.getElem?_append_left (by omega)]
  clear hl
  induction xs generalizing k with
  | nil => simp at h
  | cons x xs ih =>
    cases k with
    | zero => rfl
    | succ k => exact ih (by simpa using h)
section
variable {main : Bool} {J : Goroutine → Mem → Prop} (hJ : Closed prog main J)
include hJ
theorem setsR_c {n : Nat} {most : Int} (hn : n ≤ 5) {ro : RO} : CallR prog J (fnv 133) [.int .i64 (n : Int), .int .i64 most] ro (fun x ro' => LL ro' x (sets most n)) := by
  refine CallR.intro hJ (by kernel_rfl) fun c cs tail hret => enter_X (n := 42) func133 rfl rfl (Nl rfl) ?_
  have C : Ctx prog main J (bf 133 .normal) := ⟨hJ, by decide⟩
  refine Xr C rfl rfl <| Ad C rfl rfl <| Xr C rfl rfl <| R.buildSlice C (vs := _) rfl rfl (show pvals _ _ = some (numbered 0 [_]) from rfl) rfl runUnderlying149 sizeOf28 zeroValue28 (by decide) (Cat.one rfl rfl) fun p9 => Ad C rfl rfl <| Xs C <| Xr C rfl rfl <| Ad C rfl rfl <| X.block C.1 <| X.loopI (ι := Nat × RO × Value × List LE × List (Nat × Obj)) C.1 (fun s => s.1 ≤ n ∧ ro.le s.2.1 ∧ Buf 28 1 tail s.2.2.1 (s.2.2.2.1.flatMap le) s.2.2.2.2 ∧ s.2.2.2.1.map (·.2) = sets most s.1 ∧ ∀ p ∈ s.2.2.2.1, LsI s.2.1 p.1 p.2) (fun s => [(0, .int .i64 (n : Int)), (1, .int .i64 most), (5, s.2.2.1), (6, .int .i64 (s.1 : Int))])
    (fun s => ⟨s.2.1, s.2.2.2.2⟩) (fun s => n - s.1) (0, ro, .slice (some ⟨p9, 0, none⟩) 1 1, [(.slice none 0 0, [])], (p9, .cells [.slice none 0 0].toArray 28 (0, 0)) :: tail) ⟨Nat.zero_le _, RO.le_refl _, Buf.blk (cells := [.slice none 0 0]) (spare := []) (len := 1) (cap := 1) rfl rfl (Nat.le_refl _), rfl, fun p hp => by simp at hp; subst hp; exact Ls.nil⟩ rfl ⟨rfl, rfl, rfl, rfl, trivial⟩ fun s hs hnext => ?_
  obtain ⟨i, ro1, v1, xs1, own1⟩ := s
  obtain ⟨hi, hle1, hb1, hxs1, hls1⟩ := hs
  simp only at hi hle1 hb1 hxs1 hls1 hnext ⊢
  have hlen1 : xs1.length = (sets most i).length := by rw [← hxs1, List.length_map]
  have hspos := sets_pos most i
  have hpow : (sets most i).length ≤ 2 ^ i := sets_len most i
  have hpow5 : 2 ^ i ≤ 2 ^ 5 := Nat.pow_le_pow_right (by decide) (by omega)
  have hff1 := le_flat xs1
  obtain ⟨b1, c1, hv1⟩ := hb1.form (by decide)
  rw [hff1, Nat.div_one] at hv1
  subst hv1
  refine Xs C <| Xr C rfl rfl <| Rm C rfl rfl <| Rm C rfl rfl <| R.int C rfl rfl rfl rfl b_lss <| R.done C <| X.cond C.1 rfl (fun hlt => ?_) (fun hlt => ?_)
  · have hlt := hlt
    simp only [decide_eq_true_eq] at hlt
    have hi' : i < n := by omega
    refine X.skip C.1 <| Xs C <| X.block C.1 <| Xr C rfl rfl <| Rm C rfl rfl <| R.lenSlice C rfl rfl rfl runUnderlying149 <| Ad C rfl rfl <| Xr C rfl rfl <| Ad C rfl rfl <| X.block C.1 <| X.loopI (ι := Nat × RO × Value × List LE × List (Nat × Obj)) C.1 (fun s => s.1 ≤ xs1.length ∧ ro1.le s.2.1 ∧ Buf 28 1 tail s.2.2.1 (s.2.2.2.1.flatMap le) s.2.2.2.2 ∧ s.2.2.2.1.map (·.2) = sets most i ++ ext most i ((sets most i).take s.1) ∧ ∀ p ∈ s.2.2.2.1, LsI s.2.1 p.1 p.2) (fun s => [(0, .int .i64 (n : Int)), (1, .int .i64 most), (5, s.2.2.1), (6, .int .i64 (i : Int)), (7, .int .i64 (xs1.length : Int)), (8, .int .i64 (s.1 : Int))])
      (fun s => ⟨s.2.1, s.2.2.2.2⟩) (fun s => xs1.length - s.1) (0, ro1, .slice b1 xs1.length c1, xs1, own1) ⟨Nat.zero_le _, RO.le_refl _, hb1, by simp [hxs1, ext], hls1⟩ rfl ⟨rfl, rfl, rfl, rfl, rfl, rfl, trivial⟩ fun s hs hnext2 => ?_
    obtain ⟨k, ro2, v2, xs2, own2⟩ := s
    obtain ⟨hk, hle2, hb2, hxs2, hls2⟩ := hs
    simp only at hk hle2 hb2 hxs2 hls2 hnext2 ⊢
    have hel := ext_le most i ((sets most i).take k)
    have htk : ((sets most i).take k).length ≤ (sets most i).length := by rw [List.length_take]; omega
    have hlen2 := congrArg List.length hxs2
    rw [List.length_map, List.length_append] at hlen2
    have hff2 := le_flat xs2
    obtain ⟨p2', len2, cap2, spare2, rfl, hc2, rfl, hset2⟩ := hb2.at (by omega)
    obtain rfl : len2 = xs2.length := by omega
    refine Xs C <| Xr C rfl rfl <| Rm C rfl rfl <| Rm C rfl rfl <| R.int C rfl rfl rfl rfl b_lss <| R.done C <| X.cond C.1 rfl (fun hlt2 => ?_) (fun hlt2 => ?_)
    · have hlt2 := hlt2
      simp only [decide_eq_true_eq] at hlt2
      have hk1 : k < (sets most i).length := by omega
      have hk2 : k < xs2.length := by omega
      have hxk : xs2[k].2 = (sets most i)[k] := by
        have h1 : (xs2.map (·.2))[k]? = some (sets most i)[k] := by rw [hxs2, List.getElem?_append_left hk1, List.getElem?_eq_getElem hk1]
        rw [List.getElem?_map, List.getElem?_eq_getElem hk2] at h1
        simpa using h1
      have hlk := hls2 _ (List.getElem_mem hk2)
      have hx := le_get xs2 spare2 hk2
      generalize hL : xs2[k].2 = l at hxk hlk
      generalize xs2[k].1 = vk at hx hlk
      have hll : l.length ≤ i := by rw [hxk]; exact sets_each most i _ (List.getElem_mem hk1)
      have hlk0 := hlk
      obtain ⟨bk, ck, rfl⟩ := hlk.form
      have hext := ext_take most i (sets most i) hk1
      rw [← hxk] at hext
      refine X.skip C.1 <| Xs C <| X.block C.1 <| Xr C rfl rfl <| Rm C rfl rfl <| Rm C rfl rfl <| Rx C rfl rfl rfl runUnderlying149 sizeOf28 <| R.loadOne C rfl rfl rfl isAgg28 (by repeat (first | exact Mh | apply Mt)) hx <| R.lenSlice C rfl rfl rfl runUnderlying28 <| Rm C rfl rfl <| R.int C rfl rfl rfl rfl b_lss <| R.done C <| X.cond C.1 rfl (fun hm => ?_) (fun hm => ?_)
      · have hm := hm
        simp only [decide_eq_true_eq] at hm
        rw [if_pos hm] at hext
        have hfl := flat_len l
        refine X.region C rfl rfl <| Rm C rfl rfl <| R.buildSlice C (vs := _) rfl rfl (show pvals _ _ = some (numbered 0 []) from rfl) rfl runUnderlying28 sizeOf3 zeroValue3 (by decide) (.nil) fun p30 => Rm C rfl rfl <| Rm C rfl rfl <| Rx C rfl rfl rfl runUnderlying149 sizeOf28 <| R.loadOne C rfl rfl rfl isAgg28 (by repeat (first | exact Mh | apply Mt)) hx <| R.append (kk := 1) C rfl rfl rfl rfl runUnderlying28 runUnderlying28 (fun _ => nofun) (show prog.info? 3 = some Tryz.t3 by kernel_rfl) rfl rfl rfl (by decide) (by decide) (Buf.blk (cells := []) (spare := []) (len := 0) (cap := 0) rfl rfl (Nat.le_refl _)) (hlk0.rd ic_len) (ones_ic l) (by simp only [List.length_nil]; omega) fun v' own' hb' => Rm C rfl rfl <| R.buildSlice C (vs := _) rfl rfl (show pvals _ _ = some (numbered 0 [_]) from rfl) rfl runUnderlying28 sizeOf3 zeroValue3 (by decide) (Cat.one rfl rfl) fun p37 => R.append1 (kk := 1) C rfl rfl rfl rfl runUnderlying28 runUnderlying28 (fun _ => nofun) (show prog.info? 3 = some Tryz.t3 by kernel_rfl) rfl rfl rfl (by decide) (by decide) hb' rfl rfl (by simp only [List.length_append, List.length_cons, List.length_nil]; omega) fun v' own' hb' => ?_
        have e3 : ([] ++ l.flatMap ic) ++ [Value.int .i64 (i : Int)] = (l ++ [(i : Int)]).flatMap ic := by simp [List.flatMap_append, ic]
        rw [e3] at hb'
        refine R.finish C.1 ic_len (by decide) hb' fun ro3 hl3 hls3 => ?_
        obtain ⟨b3, c3, rfl⟩ := hls3.form
        refine R.buildSlice C (vs := _) rfl rfl (show pvals _ _ = some (numbered 0 [_]) from rfl) rfl runUnderlying149 sizeOf28 zeroValue28 (by decide) (Cat.one rfl rfl) fun p39 => R.append1 (kk := 1) C rfl rfl rfl rfl runUnderlying149 runUnderlying149 (fun _ => nofun) (show prog.info? 28 = some Tryz.t28 by kernel_rfl) rfl rfl rfl (by decide) (by decide) hb2 rfl rfl (by simp only [List.length_append, List.length_cons, List.length_nil]; omega) fun v' own' hb' => Ad C rfl rfl <| X.inBlock C.1 <| X.region C rfl rfl <| Rm C rfl rfl <| R.int C rfl rfl rfl rfl (b_add (by omega) (by omega)) <| Ad C rfl rfl <| X.weaken ?_ (hnext2 (k + 1, ro3, _, xs2 ++ [(.slice b3 (l ++ [(i : Int)]).length c3, l ++ [(i : Int)])], _) ⟨by omega, RO.le_trans hle2 hl3, by simpa [List.flatMap_append, le] using hb', ?_, fun p hp => ?_⟩ (by omega))
        · exact ⟨rfl, rfl, rfl, rfl, rfl, by simp [look], trivial⟩
        · rw [List.map_append, hxs2, hext, List.append_assoc]; rfl
        · rcases List.mem_append.1 hp with hp | hp
          · exact (hls2 p hp).mono hl3
          · rw [List.mem_singleton.1 hp]; exact hls3
      · have hm := hm
        simp only [decide_eq_false_iff_not] at hm
        rw [if_neg hm, List.append_nil] at hext
        refine X.skip C.1 <| X.inBlock C.1 <| X.region C rfl rfl <| Rm C rfl rfl <| R.int C rfl rfl rfl rfl (b_add (by omega) (by omega)) <| Ad C rfl rfl <| X.weaken ?_ (hnext2 (k + 1, ro2, _, xs2, _) ⟨by omega, hle2, hb2, by rw [hxs2, hext], hls2⟩ (by omega))
        exact ⟨rfl, rfl, rfl, rfl, rfl, by simp [look], trivial⟩
    · have hlt2 := hlt2
      simp only [decide_eq_false_iff_not] at hlt2
      obtain rfl : k = xs1.length := by omega
      rw [List.take_of_length_le (by omega)] at hxs2
      refine X.exit C.1 rfl <| X.inBlock C.1 <| X.region C rfl rfl <| Rm C rfl rfl <| R.int C rfl rfl rfl rfl (b_add (by omega) (by omega)) <| Ad C rfl rfl <| X.weaken ?_ (hnext (i + 1, ro2, _, xs2, _) ⟨hi', RO.le_trans hle1 hle2, hb2, hxs2, hls2⟩ (by omega))
      exact ⟨rfl, rfl, rfl, by simp [look], trivial⟩
  · have hlt := hlt
    simp only [decide_eq_false_iff_not] at hlt
    obtain rfl : i = n := by omega
    refine X.exit C.1 rfl <| Xr C rfl rfl <| R.finish C.1 le_len (by decide) hb1 fun ro3 hl3 hls3 => Rm C rfl rfl <| Ad C rfl rfl <| Xt C func133 <| Hr hret (RO.le_trans hle1 hl3) ?_
    exact ⟨xs1, hls3, hxs1, fun p hp => (hls1 p hp).mono hl3⟩
end
end Go.Lg.B
namespace Go.Lg.B
open Go Go.Conc Go.Lg Go.Proofs Go.Proofs.Tryz
def sqAt (w : Int) (n : Nat) : Sq := ⟨(n : Int) % w, (n : Int) / w⟩
def squares (b : Bk) : List Sq := (List.range (b.w * b.h).toNat).map (sqAt b.w)
section
variable {main : Bool} {J : Goroutine → Mem → Prop} (hJ : Closed prog main J)
include hJ
theorem squaresR_c {b : Bk} {v : Value} {ro : RO} (hv : BkV ro v b) (hb : b.good) : CallR prog J (fnv 96) [v] ro (fun x ro' => LsS ro' x (squares b)) := by
  obtain ⟨vc, vw, rfl, hc, hw⟩ := hv
  have hw7 := hb.w
  have hh7 := hb.h
  have hmul : 4 ≤ b.w * b.h ∧ b.w * b.h ≤ 49 := by
    constructor
    · have : 2 * 2 ≤ b.w * b.h := Int.mul_le_mul hw7.1 hh7.1 (by decide) (by omega)
      omega
    · have : b.w * b.h ≤ 7 * 7 := Int.mul_le_mul hw7.2 hh7.2 (by omega) (by decide)
      omega
  obtain ⟨N, hN⟩ : ∃ N, N = b.w * b.h := ⟨_, rfl⟩
  rw [← hN] at hmul
  refine CallR.intro hJ (by kernel_rfl) fun c cs tail hret => enter_X (n := 27) func96 rfl rfl (Nl rfl) ?_
  have C : Ctx prog main J (bf 96 .normal) := ⟨hJ, by decide⟩
  refine Xr C rfl rfl <| R.box C rfl rfl rfl rfl fun p1 => Ad C rfl rfl <| Xr C rfl rfl <| Ad C rfl rfl <| Xs C <| Xr C rfl rfl <| Ad C rfl rfl <| X.block C.1 <| X.loopI (ι := Nat × Value × List (Nat × Obj)) C.1 (fun s => s.1 ≤ N.toNat ∧ Buf 27 2 [] s.2.1 (((List.range s.1).map (sqAt b.w)).flatMap Sq.cells) s.2.2) (fun s => [(1, .pointer (some ⟨p1, 0, none⟩)), (3, s.2.1), (4, .int .i64 (s.1 : Int))])
    (fun s => ⟨ro, s.2.2 ++ (p1, .cells [.int .i64 b.w, .int .i64 b.h, .int .i64 b.f, vc, vw].toArray 25 (0, 0)) :: tail⟩) (fun s => N.toNat - s.1) (0, .slice none 0 0, []) ⟨Nat.zero_le _, .nil⟩ rfl ⟨rfl, rfl, rfl, trivial⟩ fun s hs hnext => ?_
  obtain ⟨i, vb, own0⟩ := s
  obtain ⟨hi, hbuf⟩ := hs
  simp only at hi hbuf hnext ⊢
  have hfl : (((List.range i).map (sqAt b.w)).flatMap Sq.cells).length = i * 2 := by rw [flatMap_len Sq.len]; simp
  refine Xs C <| Xr C rfl rfl <| Rm C rfl rfl <| Rf C 0 rfl rfl runUnderlying25 rfl sizeOf3 <| R.loadOne C rfl rfl rfl isAgg3 (by repeat (first | exact Mh | apply Mt | apply List.mem_append_right)) rfl <| Rf C 1 rfl rfl runUnderlying25 rfl sizeOf3 <| R.loadOne C rfl rfl rfl isAgg3 (by repeat (first | exact Mh | apply Mt | apply List.mem_append_right)) rfl <| R.int C rfl rfl rfl rfl (b_mul (by omega) (by omega)) <| R.int C rfl rfl rfl rfl b_lss <| R.done C <| X.cond C.1 rfl (fun hlt => ?_) (fun hlt => ?_)
  · have hlt := hlt
    simp only [decide_eq_true_eq] at hlt
    refine X.skip C.1 <| Xs C <| X.block C.1 <| Xd C fun hok => Dm C 0 hok rfl rfl rfl <| Dm C 1 hok rfl rfl rfl <| Df (off' := 0) C 2 hok rfl rfl rfl runUnderlying25 rfl sizeOf3 rfl <| Dl 3 hok (fun _ _ A h => R.loadOne C rfl (A.w rfl rfl) (A.x rfl rfl) isAgg3 (by repeat (first | exact Mh | apply Mt | apply List.mem_append_right)) rfl h) <| Di C 4 hok rfl rfl rfl rfl rfl (b_remP (by omega) (by omega)) <| Dm C 5 hok rfl rfl rfl <| Df (off' := 0) C 6 hok rfl rfl rfl runUnderlying25 rfl sizeOf3 rfl <| Dl 7 hok (fun _ _ A h => R.loadOne C rfl (A.w rfl rfl) (A.x rfl rfl) isAgg3 (by repeat (first | exact Mh | apply Mt | apply List.mem_append_right)) rfl h) <| Di C 8 hok rfl rfl rfl rfl rfl (b_quoP (by omega) (by omega) (by omega)) <| Dp 9 hok (fun _ _ _ A h => R.build C rfl (A.w rfl rfl) (A.p rfl rfl) zeroValue27 rfl runUnderlying27 (by kernel_rfl) (Fills.part rfl rfl sizeOf3 rfl (.here .nil) (Fills.part rfl rfl sizeOf3 rfl (.skip (.here .nil)) .nil)) h) <| De 10 (some 24) [false, false] hok (fun σr rest A hk => ?_)
    refine R.buildSlice C (vs := _) rfl (A.w rfl rfl) (show pvals _ _ = some (numbered 0 [_]) from (A.p rfl rfl)) rfl runUnderlying41 sizeOf27 zeroValue27 (by decide) (Cat.one rfl rfl) fun p24 => hk _ _ ⟨QFs.nil, ?_⟩
    refine De 11 (some 25) [] hok (fun σr rest A hk => ?_)
    refine R.append1 (kk := 2) C rfl (A.w rfl rfl) (A.x rfl rfl) (A.x rfl rfl) runUnderlying41 runUnderlying41 (fun _ => nofun) (show prog.info? 27 = some Tryz.t27 by kernel_rfl) rfl rfl rfl (by decide) (by decide) (hbuf.app _) rfl rfl (by simp only [List.length_append, List.length_cons, List.length_nil]; omega) fun v' own' hb' => hk _ _ ⟨QFs.nil, ?_⟩
    refine Dp 12 hok (fun _ _ _ A h => R.asg C rfl (A.w rfl rfl) (A.x rfl rfl) h) <| D.done C hok (by kernel_rfl) <| X.inBlock C.1 <| X.region C rfl rfl <| Rm C rfl rfl <| R.int C rfl rfl rfl rfl (b_add (by omega) (by omega)) <| Ad C rfl rfl ?_
    obtain ⟨own2, rfl, hb2⟩ := Buf.unapp (tail := []) hb'
    refine X.weaken ?_ (hnext (i + 1, _, own2) ⟨by omega, by simpa [List.range_succ, List.flatMap_append, Sq.cells, sqAt] using hb2⟩ (by omega))
    exact ⟨rfl, rfl, by simp [look], trivial⟩
  · have hlt := hlt
    simp only [decide_eq_false_iff_not] at hlt
    obtain rfl : i = N.toNat := by omega
    refine X.exit C.1 rfl <| Xr C rfl rfl <| R.finish C.1 Sq.len (by decide) (hbuf.app _) fun ro3 hl3 hls3 => Rm C rfl rfl <| Ad C rfl rfl <| Xt C func96 <| Hr hret hl3 ?_
    rw [squares, ← hN]; exact hls3
end
end Go.Lg.B
namespace Go.Lg.B
open Go Go.Conc Go.Lg Go.Proofs Go.Proofs.Tryz
def wideRc (x : Rc) : Nat := (x.hi + 1 - x.lo).toNat
def offsStep (x : Rc) (l : List (List Int)) : List (List Int) := l.flatMap fun o => (rz x.lo (wideRc x)).map fun n => o ++ [n]
def offsAll (l : List Rc) : List (List Int) := l.foldl (fun a x => offsStep x a) [[]]
theorem offsStep_len (x : Rc) : ∀ l, (offsStep x l).length = l.length * wideRc x
  | [] => by simp [offsStep]
  | o :: l => by
    have := offsStep_len x l
    simp only [offsStep, List.flatMap_cons, List.length_append, List.length_map, rz_len, List.length_cons] at this ⊢
    rw [this, Nat.succ_mul, Nat.add_comm]
theorem offsAll_succ (l : List Rc) {i : Nat} (h : i < l.length) : offsAll (l.take (i + 1)) = offsStep l[i] (offsAll (l.take i)) := by
  unfold offsAll
  rw [List.take_add_one, List.getElem?_eq_getElem h, List.foldl_append]
  rfl
theorem offsAll_len {l : List Rc} (h : ∀ x ∈ l, x.fine = true) : ∀ i, i ≤ l.length → (offsAll (l.take i)).length ≤ 3 ^ i
  | 0, _ => by simp [offsAll]
  | i + 1, hi => by
    have ih := offsAll_len h i (by omega)
    rw [offsAll_succ l (by omega), offsStep_len]
    have hf := h _ (List.getElem_mem (show i < l.length by omega))
    simp only [Rc.fine, Bool.and_eq_true, decide_eq_true_eq] at hf
    have : wideRc l[i] ≤ 3 := by unfold wideRc; omega
    calc _ ≤ 3 ^ i * 3 := Nat.mul_le_mul ih this
      _ = 3 ^ (i + 1) := by rw [Nat.pow_succ]
theorem offsAll_each (l : List Rc) : ∀ i, i ≤ l.length → ∀ o ∈ offsAll (l.take i), o.length = i
  | 0, _, o, ho => by simp [offsAll] at ho; simp [ho]
  | i + 1, hi, o, ho => by
    rw [offsAll_succ l (by omega)] at ho
    obtain ⟨o', h1, h2⟩ := List.mem_flatMap.1 ho
    obtain ⟨n, _, rfl⟩ := List.mem_map.1 h2
    have := offsAll_each l i (by omega) o' h1
    simp [this]
theorem rz_take (lo : Int) : ∀ m, rz lo (m + 1) = rz lo m ++ [lo + m]
  | 0 => by simp [rz]
  | m + 1 => by
    have := rz_take (lo + 1) m
    rw [rz, this, rz]
    simp only [List.cons_append]
    congr 2
    rw [show lo + 1 + (m : Int) = lo + ((m + 1 : Nat) : Int) by omega]
theorem offsStep_take (x : Rc) (l : List (List Int)) {k : Nat} (h : k < l.length) : offsStep x (l.take (k + 1)) = offsStep x (l.take k) ++ (rz x.lo (wideRc x)).map fun n => l[k] ++ [n] := by
  unfold offsStep
  rw [List.take_add_one, List.getElem?_eq_getElem h, List.flatMap_append]
  simp
theorem le_at {xs : List LE} {off : Nat} {ll : List Value} (hsub : ∀ i (hi : i < xs.length), Sub (off + i * 1) 1 ll (le xs[i])) {i : Nat} (hi : i < xs.length) : ll[off + i * 1]? = some xs[i].1 := by
  have := (hsub i hi).get 0 (by decide)
  simpa [le] using this
section
variable {main : Bool} {J : Goroutine → Mem → Prop} (hJ : Closed prog main J)
include hJ
theorem offsR_c {b : Bk} {v : Value} {ro : RO} (hv : BkV ro v b) (hb : b.good) : CallR prog J (fnv 183) [v] ro (fun x ro' => LL ro' x (offsAll b.cs)) := by
  obtain ⟨vc, vw, rfl, hc, hw⟩ := hv
  have hnc := hb.nc
  have hfine := hb.cs
  obtain ⟨cb, cc, rfl⟩ := hc.form
  refine CallR.intro hJ (by kernel_rfl) fun c cs tail hret => enter_X (n := 52) func183 rfl rfl (Nl rfl) ?_
  have C : Ctx prog main J (bf 183 .normal) := ⟨hJ, by decide⟩
  refine Xr C rfl rfl <| R.box C rfl rfl rfl rfl fun p1 => Ad C rfl rfl <| Xr C rfl rfl <| R.buildSlice C (vs := _) rfl rfl (show pvals _ _ = some (numbered 0 [_]) from rfl) rfl runUnderlying149 sizeOf28 zeroValue28 (by decide) (Cat.one rfl rfl) fun p8 => Ad C rfl rfl <| Xs C <| Xr C rfl rfl <| Ad C rfl rfl <| X.block C.1 <| X.persist C.1 fun ro8 hl8 h8 => X.loopI (ι := Nat × RO × Value × List LE) C.1 (fun s => s.1 ≤ b.cs.length ∧ ro.le s.2.1 ∧ Ls le 1 s.2.1 s.2.2.1 s.2.2.2 ∧ s.2.2.2.map (·.2) = offsAll (b.cs.take s.1) ∧ ∀ p ∈ s.2.2.2, LsI s.2.1 p.1 p.2) (fun s => [(1, .pointer (some ⟨p1, 0, none⟩)), (3, s.2.2.1), (4, .int .i64 (s.1 : Int))])
    (fun s => ⟨s.2.1, (p1, .cells [.int .i64 b.w, .int .i64 b.h, .int .i64 b.f, .slice cb b.cs.length cc, vw].toArray 25 (0, 0)) :: tail⟩) (fun s => b.cs.length - s.1) (0, ro8, .slice (some ⟨p8, 0, none⟩) 1 1, [(.slice none 0 0, [])]) ⟨Nat.zero_le _, hl8, Ls.lit (xs := [((.slice none 0 0, []) : LE)]) le_len h8, rfl, fun p hp => by simp at hp; subst hp; exact Ls.nil⟩ rfl ⟨rfl, rfl, rfl, trivial⟩ fun s hs hnext => ?_
  obtain ⟨i, ro1, v1, xs1⟩ := s
  obtain ⟨hi, hle1, hL1, hxs1, hls1⟩ := hs
  simp only at hi hle1 hL1 hxs1 hls1 hnext ⊢
  have hL10 := hL1
  obtain ⟨b1, c1, rfl⟩ := hL1.form
  have hlen1 := congrArg List.length hxs1
  rw [List.length_map] at hlen1
  have hb3 := offsAll_len hfine i hi
  have hpow : 3 ^ i ≤ 3 ^ 3 := Nat.pow_le_pow_right (by decide) (by omega)
  have hc1 := hc.mono hle1
  refine Xs C <| Xr C rfl rfl <| Rm C rfl rfl <| Rf C 3 rfl rfl runUnderlying25 rfl sizeOf22 <| R.loadOne C rfl rfl rfl isAgg22 (by repeat (first | exact Mh | apply Mt)) rfl <| R.lenSlice C rfl rfl rfl runUnderlying22 <| R.int C rfl rfl rfl rfl b_lss <| R.done C <| X.cond C.1 rfl (fun hlt => ?_) (fun hlt => ?_)
  · have hlt := hlt
    simp only [decide_eq_true_eq] at hlt
    have hi' : i < b.cs.length := by omega
    obtain ⟨pc, offc, capc, llc, tc, fqc, hslc, hropc, hsubc⟩ := hc1.at Rc.len (by omega)
    cases hslc
    have hlo : llc[offc + i * 2 + 0]? = some (.int .i64 (b.cs[i]).lo) := by simpa [Rc.cells] using (hsubc i hi').get 0 (by decide)
    have hhi : llc[offc + i * 2 + 1]? = some (.int .i64 (b.cs[i]).hi) := by simpa [Rc.cells] using (hsubc i hi').get 1 (by decide)
    have hfx := hfine _ (List.getElem_mem hi')
    simp only [Rc.fine, isReach, Bool.and_eq_true, decide_eq_true_eq] at hfx
    have hsucc := offsAll_succ b.cs hi'
    generalize hX : b.cs[i] = x at hlo hhi hfx hsucc
    have hwd : wideRc x ≤ 3 := by unfold wideRc; omega
    have hwd2 : (wideRc x : Int) = x.hi + 1 - x.lo := by unfold wideRc; omega
    refine X.skip C.1 <| Xs C <| X.block C.1 <| Xr C rfl rfl <| Ad C rfl rfl <| Xs C <| Xr C rfl rfl <| Ad C rfl rfl <| X.block C.1 <| X.loopI (ι := Nat × RO × Value × List LE × List (Nat × Obj)) C.1 (fun s => s.1 ≤ xs1.length ∧ ro1.le s.2.1 ∧ Buf 28 1 [] s.2.2.1 (s.2.2.2.1.flatMap le) s.2.2.2.2 ∧ s.2.2.2.1.map (·.2) = offsStep x ((offsAll (b.cs.take i)).take s.1) ∧ ∀ p ∈ s.2.2.2.1, LsI s.2.1 p.1 p.2) (fun s => [(1, .pointer (some ⟨p1, 0, none⟩)), (3, .slice b1 xs1.length c1), (4, .int .i64 (i : Int)), (5, s.2.2.1), (6, .int .i64 (s.1 : Int))])
      (fun s => ⟨s.2.1, s.2.2.2.2 ++ (p1, .cells [.int .i64 b.w, .int .i64 b.h, .int .i64 b.f, .slice (some ⟨pc, offc, none⟩) b.cs.length cc, vw].toArray 25 (0, 0)) :: tail⟩) (fun s => xs1.length - s.1) (0, ro1, .slice none 0 0, [], []) ⟨Nat.zero_le _, RO.le_refl _, .nil, by simp [offsStep], fun p hp => nomatch hp⟩ rfl ⟨rfl, rfl, rfl, rfl, rfl, trivial⟩ fun s hs hnext2 => ?_
    obtain ⟨k, ro2, v2, xs2, own2⟩ := s
    obtain ⟨hk, hle2, hb2, hxs2, hls2⟩ := hs
    simp only at hk hle2 hb2 hxs2 hls2 hnext2 ⊢
    refine Xs C <| Xr C rfl rfl <| Rm C rfl rfl <| Rm C rfl rfl <| R.lenSlice C rfl rfl rfl runUnderlying149 <| R.int C rfl rfl rfl rfl b_lss <| R.done C <| X.cond C.1 rfl (fun hlt2 => ?_) (fun hlt2 => ?_)
    · have hlt2 := hlt2
      simp only [decide_eq_true_eq] at hlt2
      have hk' : k < xs1.length := by omega
      have hk1 : k < (offsAll (b.cs.take i)).length := by omega
      have hstep := offsStep_take x (offsAll (b.cs.take i)) hk1
      have hxk : xs1[k].2 = (offsAll (b.cs.take i))[k] := by
        have h1 : (xs1.map (·.2))[k]? = some (offsAll (b.cs.take i))[k] := by rw [hxs1, List.getElem?_eq_getElem hk1]
        rw [List.getElem?_map, List.getElem?_eq_getElem hk'] at h1
        simpa using h1
      have hlk := hls1 _ (List.getElem_mem hk')
      have hol := offsAll_each b.cs i hi _ (List.getElem_mem hk1)
      rw [← hxk] at hstep hol
      obtain ⟨pa, offa, capa, lla, ta, fqa, hsla, hropa, hsuba⟩ := hL10.at le_len (by omega)
      cases hsla
      have hx := le_at hsuba hk'
      generalize hL : xs1[k].2 = l at hlk hstep hol
      generalize xs1[k].1 = vk at hx hlk
      have hlk0 := hlk
      obtain ⟨bk, ck, rfl⟩ := hlk.form
      have hfl := flat_len l
      refine X.skip C.1 <| Xs C <| X.block C.1 <| Xr C rfl rfl <| Rf C 3 rfl rfl runUnderlying25 rfl sizeOf22 <| R.loadOne C rfl rfl rfl isAgg22 (by repeat (first | exact Mh | apply Mt | apply List.mem_append_right)) rfl <| Rm C rfl rfl <| Rx C rfl rfl rfl runUnderlying22 sizeOf46 <| R.fieldAddr C rfl rfl rfl runUnderlying46 rfl sizeOf3 rfl <| R.loadOneRo C rfl rfl rfl isAgg3 (hle2 _ _ hropc) hlo <| Ad C rfl rfl <| X.block C.1 <| X.loopI (ι := Nat × RO × Value × List LE × List (Nat × Obj)) C.1 (fun s => s.1 ≤ wideRc x ∧ ro2.le s.2.1 ∧ Buf 28 1 [] s.2.2.1 (s.2.2.2.1.flatMap le) s.2.2.2.2 ∧ s.2.2.2.1.map (·.2) = offsStep x ((offsAll (b.cs.take i)).take k) ++ (rz x.lo s.1).map (fun n => l ++ [n]) ∧ ∀ p ∈ s.2.2.2.1, LsI s.2.1 p.1 p.2) (fun s => [(1, .pointer (some ⟨p1, 0, none⟩)), (3, .slice (some ⟨pa, offa, none⟩) xs1.length c1), (4, .int .i64 (i : Int)), (5, s.2.2.1), (6, .int .i64 (k : Int)), (7, .int .i64 (x.lo + (s.1 : Int)))])
        (fun s => ⟨s.2.1, s.2.2.2.2 ++ (p1, .cells [.int .i64 b.w, .int .i64 b.h, .int .i64 b.f, .slice (some ⟨pc, offc, none⟩) b.cs.length cc, vw].toArray 25 (0, 0)) :: tail⟩) (fun s => wideRc x - s.1) (0, ro2, v2, xs2, own2) ⟨Nat.zero_le _, RO.le_refl _, hb2, by simp [hxs2, rz], hls2⟩ rfl ⟨rfl, rfl, rfl, rfl, rfl, by simp [look], trivial⟩ fun s hs hnext3 => ?_
      obtain ⟨m, ro3, v3, xs3, own3⟩ := s
      obtain ⟨hm, hle3, hb3', hxs3, hls3⟩ := hs
      simp only at hm hle3 hb3' hxs3 hls3 hnext3 ⊢
      have hlen3 := congrArg List.length hxs3
      rw [List.length_map, List.length_append, offsStep_len, List.length_map, rz_len, List.length_take] at hlen3
      have hff3 := le_flat xs3
      have hkw : min k (offsAll (b.cs.take i)).length * wideRc x ≤ 27 * 3 := Nat.mul_le_mul (by omega) hwd
      refine Xs C <| Xr C rfl rfl <| Rm C rfl rfl <| Rf C 3 rfl rfl runUnderlying25 rfl sizeOf22 <| R.loadOne C rfl rfl rfl isAgg22 (by repeat (first | exact Mh | apply Mt | apply List.mem_append_right)) rfl <| Rm C rfl rfl <| Rx C rfl rfl rfl runUnderlying22 sizeOf46 <| R.fieldAddr C rfl rfl rfl runUnderlying46 rfl sizeOf3 rfl <| R.loadOneRo C rfl rfl rfl isAgg3 (hle3 _ _ (hle2 _ _ hropc)) hhi <| R.int C rfl rfl rfl rfl b_leq <| R.done C <| X.cond C.1 rfl (fun hle => ?_) (fun hle => ?_)
      · have hle := hle
        simp only [decide_eq_true_eq] at hle
        refine X.skip C.1 <| Xs C <| X.block C.1 <| X.region C rfl rfl <| Rm C rfl rfl <| R.buildSlice C (vs := _) rfl rfl (show pvals _ _ = some (numbered 0 []) from rfl) rfl runUnderlying28 sizeOf3 zeroValue3 (by decide) (.nil) fun p39 => Rm C rfl rfl <| Rm C rfl rfl <| Rx C rfl rfl rfl runUnderlying149 sizeOf28 <| R.loadOneRo C rfl rfl rfl isAgg28 (hle3 _ _ (hle2 _ _ hropa)) hx <| R.append (kk := 1) C rfl rfl rfl rfl runUnderlying28 runUnderlying28 (fun _ => nofun) (show prog.info? 3 = some Tryz.t3 by kernel_rfl) rfl rfl rfl (by decide) (by decide) (Buf.blk (cells := []) (spare := []) (len := 0) (cap := 0) rfl rfl (Nat.le_refl _)) (((hlk0.mono hle2).mono hle3).rd ic_len) (ones_ic l) (by simp only [List.length_nil]; omega) fun v' own' hb' => Rm C rfl rfl <| R.buildSlice C (vs := _) rfl rfl (show pvals _ _ = some (numbered 0 [_]) from rfl) rfl runUnderlying28 sizeOf3 zeroValue3 (by decide) (Cat.one rfl rfl) fun p46 => R.append1 (kk := 1) C rfl rfl rfl rfl runUnderlying28 runUnderlying28 (fun _ => nofun) (show prog.info? 3 = some Tryz.t3 by kernel_rfl) rfl rfl rfl (by decide) (by decide) hb' rfl rfl (by simp only [List.length_append, List.length_cons, List.length_nil]; omega) fun v' own' hb' => ?_
        have e3 : ([] ++ l.flatMap ic) ++ [Value.int .i64 (x.lo + (m : Int))] = (l ++ [x.lo + (m : Int)]).flatMap ic := by simp [List.flatMap_append, ic]
        rw [e3] at hb'
        refine R.finish C.1 ic_len (by decide) hb' fun ro4 hl4 hls4 => ?_
        obtain ⟨b4, c4, rfl⟩ := hls4.form
        refine R.buildSlice C (vs := _) rfl rfl (show pvals _ _ = some (numbered 0 [_]) from rfl) rfl runUnderlying149 sizeOf28 zeroValue28 (by decide) (Cat.one rfl rfl) fun p48 => R.append1 (kk := 1) C rfl rfl rfl rfl runUnderlying149 runUnderlying149 (fun _ => nofun) (show prog.info? 28 = some Tryz.t28 by kernel_rfl) rfl rfl rfl (by decide) (by decide) (hb3'.app _) rfl rfl (by simp only [List.length_append, List.length_cons, List.length_nil]; omega) fun v' own' hb' => Ad C rfl rfl <| X.inBlock C.1 <| X.region C rfl rfl <| Rm C rfl rfl <| R.int C rfl rfl rfl rfl (b_add (by omega) (by omega)) <| Ad C rfl rfl ?_
        obtain ⟨own5, rfl, hb5⟩ := Buf.unapp (tail := []) hb'
        refine X.weaken ?_ (hnext3 (m + 1, ro4, _, xs3 ++ [(.slice b4 (l ++ [x.lo + (m : Int)]).length c4, l ++ [x.lo + (m : Int)])], own5) ⟨by omega, RO.le_trans hle3 hl4, by simpa [List.flatMap_append, le] using hb5, ?_, fun p hp => ?_⟩ (by omega))
        · exact ⟨rfl, rfl, rfl, rfl, rfl, by simp [look]; omega, trivial⟩
        · rw [List.map_append, hxs3, rz_take, List.map_append, List.append_assoc]; rfl
        · rcases List.mem_append.1 hp with hp | hp
          · exact (hls3 p hp).mono hl4
          · rw [List.mem_singleton.1 hp]; exact hls4
      · have hle := hle
        simp only [decide_eq_false_iff_not] at hle
        obtain rfl : m = wideRc x := by omega
        rw [← hstep] at hxs3
        refine X.exit C.1 rfl <| X.inBlock C.1 <| X.region C rfl rfl <| Rm C rfl rfl <| R.int C rfl rfl rfl rfl (b_add (by omega) (by omega)) <| Ad C rfl rfl <| X.weaken ?_ (hnext2 (k + 1, ro3, _, xs3, own3) ⟨by omega, RO.le_trans hle2 hle3, hb3', hxs3, hls3⟩ (by omega))
        exact ⟨rfl, rfl, rfl, rfl, by simp [look], trivial⟩
    · have hlt2 := hlt2
      simp only [decide_eq_false_iff_not] at hlt2
      obtain rfl : k = xs1.length := by omega
      rw [List.take_of_length_le (by omega), ← hsucc] at hxs2
      refine X.exit C.1 rfl <| X.region C rfl rfl <| R.finish C.1 le_len (by decide) (hb2.app _) fun ro4 hl4 hls4 => Rm C rfl rfl <| Ad C rfl rfl <| X.inBlock C.1 <| X.region C rfl rfl <| Rm C rfl rfl <| R.int C rfl rfl rfl rfl (b_add (by omega) (by omega)) <| Ad C rfl rfl <| X.weaken ?_ (hnext (i + 1, ro4, _, xs2) ⟨by omega, RO.le_trans hle1 (RO.le_trans hle2 hl4), hls4, hxs2, fun p hp => (hls2 p hp).mono hl4⟩ (by omega))
      exact ⟨rfl, rfl, by simp [look], trivial⟩
  · have hlt := hlt
    simp only [decide_eq_false_iff_not] at hlt
    obtain rfl : i = b.cs.length := by omega
    rw [List.take_length] at hxs1
    refine X.exit C.1 rfl <| Xr C rfl rfl <| Rm C rfl rfl <| Ad C rfl rfl <| Xt C func183 <| Hr hret hle1 ?_
    exact ⟨xs1, hL10, hxs1, hls1⟩
end
end Go.Lg.B
namespace Go.Lg.B
open Go Go.Conc Go.Lg Go.Proofs Go.Proofs.Tryz
section
variable {main : Bool} {J : Goroutine → Mem → Prop} (hJ : Closed prog main J)
include hJ
theorem rightOfR_c (w : Wt) (s : Sq) (o : Int) (hw : w.s.ok) (hs : s.ok) (ho : -3 ≤ o ∧ o ≤ 3) (ro : RO) : CallP prog J (fnv 155) [w.val, s.val, .int .i64 o] ro (.bool (decide (w.s = s) || ((bearing w.s s + o + 8) % 8 == w.b))) := by
  have hr := bearing_range w.s s
  unfold Sq.ok at hw hs
  refine CallP.intro hJ (by kernel_rfl) fun c cs tail hret => enter_X (n := 31) func155 rfl rfl (Nl rfl) ?_
  have C : Ctx prog main J (bf 155 .normal) := ⟨hJ, by decide⟩
  refine Xr C rfl rfl <| R.box C rfl rfl rfl rfl fun p3 => R.box C rfl rfl rfl rfl fun p4 => Ad C rfl rfl <| Xs C <| Xr C rfl rfl <| Rf C 0 rfl rfl runUnderlying58 rfl sizeOf27 <| R.loadAgg C rfl rfl rfl isAgg27 sizeOf27 (by repeat (first | exact Mh | apply Mt)) Tk2 <| R.loadAgg C rfl rfl rfl isAgg27 sizeOf27 (by repeat (first | exact Mh | apply Mt)) Tk2 <| R.eqAgg (p := [w.s.e, w.s.n]) (q := [s.e, s.n]) C rfl rfl rfl rfl eqT27 rfl rfl (by kernel_rfl) <| R.done C <| X.cond C.1 rfl (fun heq => ?_) (fun heq => ?_)
  · have heq := heq
    refine Xr C rfl rfl <| Ad C rfl rfl <| Xt C func155 <| Hp hret ?_
    obtain ⟨se, sn⟩ := s; obtain ⟨⟨we, wn⟩, wb, wk, wsu⟩ := w
    simp_all [retVal]
  · have heq := heq
    refine X.skip C.1 <| Xs C <| Xd C fun hok => Df (off' := 0) C 0 hok rfl rfl rfl runUnderlying27 rfl sizeOf3 rfl <| D1 C 1 hok rfl rfl isAgg3 (by repeat (first | exact Mh | apply Mt)) rfl <| Df (off' := 0) C 2 hok rfl rfl rfl runUnderlying58 rfl sizeOf27 rfl <| Df (off' := 0) C 3 hok rfl rfl rfl runUnderlying27 rfl sizeOf3 rfl <| D1 C 4 hok rfl rfl isAgg3 (by repeat (first | exact Mh | apply Mt)) rfl <| Di C 5 hok rfl rfl rfl rfl rfl (b_sub (by omega) (by omega)) <| Df (off' := 1) C 6 hok rfl rfl rfl runUnderlying27 rfl sizeOf3 rfl <| D1 C 7 hok rfl rfl isAgg3 (by repeat (first | exact Mh | apply Mt)) rfl <| Df (off' := 0) C 8 hok rfl rfl rfl runUnderlying58 rfl sizeOf27 rfl <| Df (off' := 1) C 9 hok rfl rfl rfl runUnderlying27 rfl sizeOf3 rfl <| D1 C 10 hok rfl rfl isAgg3 (by repeat (first | exact Mh | apply Mt)) rfl <| Di C 11 hok rfl rfl rfl rfl rfl (b_sub (by omega) (by omega)) <| Dm C 13 hok rfl rfl rfl <| Df (off' := 2) C 17 hok rfl rfl rfl runUnderlying58 rfl sizeOf3 rfl <| D1 C 18 hok rfl rfl isAgg3 (by repeat (first | exact Mh | apply Mt)) rfl <| De 12 (some 23) [true, false, false, false, false] hok (fun σr rest A hk => ?_)
    refine R.callP C rfl (A.w rfl rfl) (A.x rfl rfl) (A.s rfl rfl) (trueOfR_c hJ _ _ (by omega) (by omega) _) (hk _ _ ⟨(QFs.cons (QF.of rfl (fun _ _ A h => R.loadOne C rfl (A.w rfl rfl) (A.x rfl rfl) isAgg3 (by repeat (first | exact Mh | apply Mt)) rfl h)) QFs.nil), ?_⟩)
    refine D.fixv (t := 23) (v' := .int .i64 (bearing w.s s)) rfl (by (exact congrArg (Value.int .i64) (trueOf_bearing w.s s))) <| Di C 14 hok rfl rfl rfl rfl rfl (b_add (by omega) (by omega)) <| Di C 15 hok rfl rfl rfl rfl rfl (b_add (by omega) (by omega)) <| Di C 16 hok rfl rfl rfl rfl rfl (b_remP (by omega) (by omega)) <| Di C 19 hok rfl rfl rfl rfl rfl b_eql <| Dp 20 hok (fun _ _ _ A h => R.asg C rfl (A.w rfl rfl) (A.x rfl rfl) h) <| D.done C hok (by kernel_rfl) <| Xt C func155 <| Hp hret ?_
    obtain ⟨se, sn⟩ := s; obtain ⟨⟨we, wn⟩, wb, wk, wsu⟩ := w
    simp_all [retVal]
theorem sureOnesR_c {b : Bk} {v vl : Value} {ro : RO} {l : List Int} (hv : BkV ro v b) (hl : LsI ro vl l) (hn : l.length ≤ 1000000) (hr0 : ∀ k ∈ l, 0 ≤ k ∧ k < b.ws.length) : CallP prog J (fnv 88) [v, vl] ro (.bool (l.any fun k => (b.wt k.toNat).sure)) := by
  obtain ⟨vc, vw, rfl, hc, hw⟩ := hv
  obtain ⟨wb, wc, rfl⟩ := hw.form
  obtain ⟨lb, lc, rfl⟩ := hl.form
  refine CallP.intro hJ (by kernel_rfl) fun c cs tail hret => enter_X (n := 21) func88 rfl rfl (Nl rfl) ?_
  have C : Ctx prog main J (bf 88 .normal) := ⟨hJ, by decide⟩
  refine Xr C rfl rfl <| R.box C rfl rfl rfl rfl fun p2 => Ad C rfl rfl <| Xs C <| Xr C rfl rfl <| Ad C rfl rfl <| X.block C.1 <| X.loopI (ι := Nat) C.1 (fun i => i ≤ l.length ∧ (l.any fun k => (b.wt k.toNat).sure) = ((l.drop i).any fun k => (b.wt k.toNat).sure)) (fun i => [(1, .slice lb l.length lc), (2, .pointer (some ⟨p2, 0, none⟩)), (5, .int .i64 (i : Int))])
    (fun _ => ⟨ro, (p2, .cells [.int .i64 b.w, .int .i64 b.h, .int .i64 b.f, vc, .slice wb b.ws.length wc].toArray 25 (0, 0)) :: tail⟩) (fun i => l.length - i) 0 ⟨Nat.zero_le _, rfl⟩ rfl ⟨rfl, rfl, rfl, trivial⟩ fun i hi hnext => ?_
  obtain ⟨hi, hr⟩ := hi
  refine Xs C <| Xr C rfl rfl <| Rm C rfl rfl <| Rm C rfl rfl <| R.lenSlice C rfl rfl rfl runUnderlying28 <| R.int C rfl rfl rfl rfl b_lss <| R.done C <| X.cond C.1 rfl (fun hlt => ?_) (fun hlt => ?_)
  · have hlt := hlt
    simp only [decide_eq_true_eq] at hlt
    have hi' : i < l.length := by omega
    obtain ⟨pp, off, cap, ll, t, fq, hsl, hrop, hsub⟩ := hl.at ic_len (by omega)
    cases hsl
    have hx := ic_at hsub hi'
    rw [List.drop_eq_getElem_cons hi', List.any_cons] at hr
    obtain ⟨hk1, hk2⟩ := hr0 l[i] (List.getElem_mem hi')
    obtain ⟨pw, offw, capw, llw, tw, fqw, hslw, hropw, hsubw⟩ := hw.at Wt.len (by omega)
    cases hslw
    have hxw : llw[offw + (l[i]).toNat * 5 + 4]? = some (.bool (b.wt (l[i]).toNat).sure) := by
      have h1 : (l[i]).toNat < b.ws.length := by omega
      have := (hsubw _ h1).get 4 (by decide)
      rw [Bk.wt_get h1] at this
      simpa [Wt.cells] using this
    refine X.skip C.1 <| Xs C <| X.block C.1 <| Xs C <| Xd C fun hok => Df (off' := 4) C 0 hok rfl rfl rfl runUnderlying25 rfl sizeOf23 rfl <| D1 C 1 hok rfl rfl isAgg23 (by repeat (first | exact Mh | apply Mt)) rfl <| Dm C 2 hok rfl rfl rfl <| Dm C 3 hok rfl rfl rfl <| Dx C 4 hok rfl rfl rfl runUnderlying28 sizeOf3 <| Dl 5 hok (fun _ _ A h => R.loadOneRo C rfl (A.w rfl rfl) (A.x rfl rfl) isAgg3 hrop hx h) <| Dp 6 hok (fun _ _ _ A h => R.indexAddr C rfl (A.w rfl rfl) (A.x rfl rfl) (A.x rfl rfl) runUnderlying23 sizeOf58 hk1 hk2 h) <| Df C 7 hok rfl rfl rfl runUnderlying58 rfl sizeOf4 rfl <| Dl 8 hok (fun _ _ A h => R.loadOneRo C rfl (A.w rfl rfl) (A.x rfl rfl) isAgg4 hropw hxw h) <| D.done C hok (by kernel_rfl) <| X.cond C.1 rfl (fun hs => ?_) (fun hs => ?_)
    · have hs := hs
      rw [hs, Bool.true_or] at hr
      refine Xr C rfl rfl <| Ad C rfl rfl <| Xt C func88 <| Hp hret ?_
      rw [hr]; rfl
    · have hs := hs
      rw [hs, Bool.false_or] at hr
      refine X.skip C.1 <| X.inBlock C.1 <| X.region C rfl rfl <| Rm C rfl rfl <| R.int C rfl rfl rfl rfl (b_add (by omega) (by omega)) <| Ad C rfl rfl <| X.weaken ?_ (hnext (i + 1) ⟨hi', hr⟩ (by omega))
      exact ⟨rfl, rfl, by simp [look], trivial⟩
  · have hlt := hlt
    simp only [decide_eq_false_iff_not] at hlt
    obtain rfl : i = l.length := by omega
    rw [List.drop_length] at hr
    refine X.exit C.1 rfl <| Xr C rfl rfl <| Ad C rfl rfl <| Xt C func88 <| Hp hret ?_
    rw [hr]; rfl
end
end Go.Lg.B
namespace Go.Lg.B
open Go Go.Conc Go.Lg Go.Proofs Go.Proofs.Tryz
theorem all_range_succ (p : Nat → Bool) (n i : Nat) (h : i < n) : ((List.range n).drop i).all p = (p i && ((List.range n).drop (i + 1)).all p) := by
  rw [List.drop_eq_getElem_cons (by simpa using h), List.all_cons]
  simp
def rightIn (b : Bk) (c : Cs) (i : Nat) : Bool := c.f.contains (i : Int) || right (b.wt i) c.aim
section
variable {main : Bool} {J : Goroutine → Mem → Prop} (hJ : Closed prog main J)
include hJ
theorem allRightR_c {b : Bk} {c0 : Cs} {v vk : Value} {ro : RO} (hv : BkV ro v b) (hb : b.good) (hk : CsV ro vk c0) (hk2 : c0.short) (hs : c0.s.ok) (hlen : c0.o.length = b.cs.length) (hof : ∀ n ∈ c0.o, -3 ≤ n ∧ n ≤ 3) : CallP prog J (fnv 89) [v, vk] ro (.bool ((List.range b.ws.length).all fun i => c0.f.contains (i : Int) || right (b.wt i) c0.aim)) := by
  have hnc := hb.nc
  have hnw := hb.nw
  have hws := hb.ws
  obtain ⟨vc, vw, rfl, hc, hw⟩ := hv
  obtain ⟨wb, wc, rfl⟩ := hw.form
  obtain ⟨vo, vf, rfl, ho, hf⟩ := hk
  obtain ⟨ob, oc, rfl⟩ := ho.form
  obtain ⟨fb, fc, rfl⟩ := hf.form
  obtain ⟨hk1, hk2⟩ := hk2
  refine CallP.intro hJ (by kernel_rfl) fun c cs tail hret => enter_X (n := 37) func89 rfl rfl (Nl rfl) ?_
  have C : Ctx prog main J (bf 89 .normal) := ⟨hJ, by decide⟩
  refine Xr C rfl rfl <| R.box C rfl rfl rfl rfl fun p2 => R.box C rfl rfl rfl rfl fun p3 => Ad C rfl rfl <| Xs C <| Xr C rfl rfl <| Ad C rfl rfl <| X.block C.1 <| X.loopI (ι := Nat) C.1 (fun i => i ≤ b.ws.length ∧ (List.range b.ws.length).all (rightIn b c0) = ((List.range b.ws.length).drop i).all (rightIn b c0)) (fun i => [(2, .pointer (some ⟨p2, 0, none⟩)), (3, .pointer (some ⟨p3, 0, none⟩)), (5, .int .i64 (i : Int))])
    (fun _ => ⟨ro, (p3, .cells [.int .i64 c0.s.e, .int .i64 c0.s.n, .slice ob c0.o.length oc, .slice fb c0.f.length fc].toArray 30 (0, 0)) :: (p2, .cells [.int .i64 b.w, .int .i64 b.h, .int .i64 b.f, vc, .slice wb b.ws.length wc].toArray 25 (0, 0)) :: tail⟩) (fun i => b.ws.length - i) 0 ⟨Nat.zero_le _, rfl⟩ rfl ⟨rfl, rfl, rfl, trivial⟩ fun i hi hnext => ?_
  obtain ⟨hi, hr⟩ := hi
  refine Xs C <| Xr C rfl rfl <| Rm C rfl rfl <| Rf C 4 rfl rfl runUnderlying25 rfl sizeOf23 <| R.loadOne C rfl rfl rfl isAgg23 (by repeat (first | exact Mh | apply Mt)) rfl <| R.lenSlice C rfl rfl rfl runUnderlying23 <| R.int C rfl rfl rfl rfl b_lss <| R.done C <| X.cond C.1 rfl (fun hlt => ?_) (fun hlt => ?_)
  · have hlt := hlt
    simp only [decide_eq_true_eq] at hlt
    have hi' : i < b.ws.length := by omega
    rw [all_range_succ _ _ _ hi'] at hr
    obtain ⟨pw, offw, capw, llw, tw, fqw, hslw, hropw, hsubw⟩ := hw.at Wt.len (by omega)
    cases hslw
    have hwi := hsubw i hi'
    obtain ⟨hwok, _, hk0, hk3⟩ := Wt.fine.ok (hws _ (List.getElem_mem hi'))
    rw [Bk.wt_get hi'] at hwi hwok hk0 hk3
    generalize hW : b.wt i = W at hwi hwok hk0 hk3
    have hkl : W.k.toNat < c0.o.length := by omega
    obtain ⟨po, offo, capo, llo, to, fqo, hslo, hropo, hsubo⟩ := ho.at ic_len (by omega)
    cases hslo
    have hxo : llo[offo + W.k.toNat * 1]? = some (.int .i64 (c0.o[W.k.toNat])) := ic_at hsubo hkl
    have hoff : c0.aim.off W.k = c0.o[W.k.toNat] := by
      have h3 : W.k = 0 ∨ W.k = 1 ∨ W.k = 2 := by omega
      rcases h3 with h | h | h <;> simp only [h, Aim.off, Cs.aim] <;> simp [List.getD_eq_getElem?_getD] <;> (rw [h] at hkl; simp at hkl; simp [hkl])
    have hoff3 := hof _ (List.getElem_mem hkl)
    by_cases hh : c0.f.contains (i : Int) = true
    · have hri : rightIn b c0 i = true := by rw [rightIn, hh]; rfl
      refine X.skip C.1 <| Xs C <| X.block C.1 <| Xr C rfl rfl <| Rf C 4 rfl rfl runUnderlying25 rfl sizeOf23 <| R.loadOne C rfl rfl rfl isAgg23 (by repeat (first | exact Mh | apply Mt)) rfl <| Rm C rfl rfl <| Rx C rfl rfl rfl runUnderlying23 sizeOf58 <| R.loadAggRo C rfl rfl rfl isAgg58 sizeOf58 hropw hwi <| R.alloc C rfl rfl zeroValue58 rfl fun p6 => R.store C rfl rfl rfl rfl sizeOf58 rfl rfl rfl (by repeat (first | exact Uh | apply Ut)) (.here (.here (.here (.here (.here .nil))))) <| R.done C <| Xs C <| Xd C fun hok => Df (off' := 3) C 0 hok rfl rfl rfl runUnderlying30 rfl sizeOf28 rfl <| D1 C 1 hok rfl rfl isAgg28 (by repeat (first | exact Mh | apply Mt)) rfl <| Dm C 2 hok rfl rfl rfl <| De 3 (some 22) [false] hok (fun σr rest A hk => ?_)
      refine R.callP C rfl (A.w rfl rfl) (A.x rfl rfl) (A.s rfl rfl) (holdsR_c hJ hf (by omega) _) (hk _ _ ⟨QFs.nil, ?_⟩)
      refine Dp 4 hok (fun _ _ _ A h => R.not C rfl (A.w rfl rfl) (A.x rfl rfl) h) <| D.fixv (t := 23) (v' := .bool false) rfl (by (rw [hh]; rfl)) <| Dm C 5 hok rfl rfl rfl <| Du C 6 hok rfl <| Du C 7 hok rfl <| Du C 8 hok rfl <| Du C 9 hok rfl <| Du C 10 hok rfl <| Du C 11 hok rfl <| Du C 12 hok rfl <| Du C 13 hok rfl <| Du C 14 hok rfl <| Du C 15 hok rfl <| Du C 16 hok rfl <| Dp 17 hok (fun _ _ _ A h => R.pickF C rfl (A.w rfl rfl) (A.x rfl rfl) (A.x rfl rfl) h) <| D.done C hok (by kernel_rfl) <| X.cond C.1 rfl (fun h => nomatch h) (fun _ => ?_)
      refine X.skip C.1 <| X.inBlock C.1 <| X.region C rfl rfl <| Rm C rfl rfl <| R.int C rfl rfl rfl rfl (b_add (by omega) (by omega)) <| Ad C rfl rfl ?_
      rw [hri, Bool.true_and] at hr
      refine X.weak C.1 (Weak.sub (List.sublist_cons_self _ _)) (X.weaken ?_ (hnext (i + 1) ⟨hi', hr⟩ (by omega)))
      exact ⟨rfl, rfl, by simp [look], trivial⟩
    · have hh2 : c0.f.contains (i : Int) = false := by simpa using hh
      refine X.skip C.1 <| Xs C <| X.block C.1 <| Xr C rfl rfl <| Rf C 4 rfl rfl runUnderlying25 rfl sizeOf23 <| R.loadOne C rfl rfl rfl isAgg23 (by repeat (first | exact Mh | apply Mt)) rfl <| Rm C rfl rfl <| Rx C rfl rfl rfl runUnderlying23 sizeOf58 <| R.loadAggRo C rfl rfl rfl isAgg58 sizeOf58 hropw hwi <| R.alloc C rfl rfl zeroValue58 rfl fun p6 => R.store C rfl rfl rfl rfl sizeOf58 rfl rfl rfl (by repeat (first | exact Uh | apply Ut)) (.here (.here (.here (.here (.here .nil))))) <| R.done C <| Xs C <| Xd C fun hok => Df (off' := 3) C 0 hok rfl rfl rfl runUnderlying30 rfl sizeOf28 rfl <| D1 C 1 hok rfl rfl isAgg28 (by repeat (first | exact Mh | apply Mt)) rfl <| Dm C 2 hok rfl rfl rfl <| De 3 (some 22) [false] hok (fun σr rest A hk => ?_)
      refine R.callP C rfl (A.w rfl rfl) (A.x rfl rfl) (A.s rfl rfl) (holdsR_c hJ hf (by omega) _) (hk _ _ ⟨QFs.nil, ?_⟩)
      refine Dp 4 hok (fun _ _ _ A h => R.not C rfl (A.w rfl rfl) (A.x rfl rfl) h) <| D.fixv (t := 23) (v' := .bool true) rfl (by (rw [hh2]; rfl)) <| Dm C 5 hok rfl rfl rfl <| D5 C 6 hok rfl rfl isAgg58 sizeOf58 (by repeat (first | exact Mh | apply Mt)) Tk5 <| Df (off' := 0) C 7 hok rfl rfl rfl runUnderlying30 rfl sizeOf27 rfl <| D5 C 8 hok rfl rfl isAgg27 sizeOf27 (by repeat (first | exact Mh | apply Mt)) Tk2 <| Df (off' := 2) C 9 hok rfl rfl rfl runUnderlying30 rfl sizeOf28 rfl <| D1 C 10 hok rfl rfl isAgg28 (by repeat (first | exact Mh | apply Mt)) rfl <| Df (off' := 3) C 11 hok rfl rfl rfl runUnderlying58 rfl sizeOf3 rfl <| D1 C 12 hok rfl rfl isAgg3 (by repeat (first | exact Mh | apply Mt)) rfl <| Dp 13 hok (fun _ _ _ A h => R.indexAddr C rfl (A.w rfl rfl) (A.x rfl rfl) (A.x rfl rfl) runUnderlying28 sizeOf3 hk0 (by omega) h) <| Dl 14 hok (fun _ _ A h => R.loadOneRo C rfl (A.w rfl rfl) (A.x rfl rfl) isAgg3 hropo hxo h) <| De 15 (some 34) [false, false, false, false, false] hok (fun σr rest A hk => ?_)
      refine R.callP C rfl (A.w rfl rfl) (A.x rfl rfl) (A.s rfl rfl) (rightOfR_c hJ W c0.s _ hwok hs hoff3 _) (hk _ _ ⟨QFs.nil, ?_⟩)
      refine Dp 16 hok (fun _ _ _ A h => R.not C rfl (A.w rfl rfl) (A.x rfl rfl) h) <| Dp 17 hok (fun _ _ _ A h => R.pickT C rfl (A.w rfl rfl) (A.x rfl rfl) (A.x rfl rfl) h) <| D.done C hok (by kernel_rfl) ?_
      have hri : rightIn b c0 i = right W c0.aim := by rw [rightIn, hh2, hW]; rfl
      have hrr : right W c0.aim = (decide (W.s = c0.s) || ((bearing W.s c0.s + c0.o[W.k.toNat] + 8) % 8 == W.b)) := by rw [right, hoff]; rfl
      refine X.cond C.1 rfl (fun hq => ?_) (fun hq => ?_)
      · have hq := hq
        rw [← hrr] at hq
        simp only [Bool.not_eq_true'] at hq
        rw [hri, hq, Bool.false_and] at hr
        refine Xr C rfl rfl <| Ad C rfl rfl <| Xt C func89 <| Hp hret ?_
        exact congrArg Value.bool hr.symm
      · have hq := hq
        rw [← hrr] at hq
        simp only [Bool.not_eq_false'] at hq
        rw [hri, hq, Bool.true_and] at hr
        refine X.skip C.1 <| X.inBlock C.1 <| X.region C rfl rfl <| Rm C rfl rfl <| R.int C rfl rfl rfl rfl (b_add (by omega) (by omega)) <| Ad C rfl rfl <| X.weak C.1 (Weak.sub (List.sublist_cons_self _ _)) (X.weaken ?_ (hnext (i + 1) ⟨hi', hr⟩ (by omega)))
        exact ⟨rfl, rfl, by simp [look], trivial⟩
  · have hlt := hlt
    simp only [decide_eq_false_iff_not] at hlt
    obtain rfl : i = b.ws.length := by omega
    rw [List.drop_eq_nil_of_le (by simp)] at hr
    refine X.exit C.1 rfl <| Xr C rfl rfl <| Ad C rfl rfl <| Xt C func89 <| Hp hret ?_
    exact congrArg Value.bool hr.symm
end
end Go.Lg.B
namespace Go.Lg.B
open Go Go.Conc Go.Lg Go.Proofs Go.Proofs.Tryz
abbrev CE := (Value × Value) × Cs
def ce (p : CE) : List Value := [.int .i64 p.2.s.e, .int .i64 p.2.s.n, p.1.1, p.1.2]
theorem ce_len (p : CE) : (ce p).length = 4 := rfl
def LC (ro : RO) (v : Value) (l : List Cs) : Prop := ∃ xs : List CE, Ls ce 4 ro v xs ∧ xs.map (·.2) = l ∧ ∀ p ∈ xs, LsI ro p.1.1 p.2.o ∧ LsI ro p.1.2 p.2.f
def allR (b : Bk) (c : Cs) : Bool := (List.range b.ws.length).all fun i => c.f.contains (i : Int) || right (b.wt i) c.aim
def withAt (b : Bk) (l : List Int) (s : Sq) (os : List (List Int)) : List Cs := (os.filter fun o => allR b ⟨s, o, l⟩).map fun o => ⟨s, o, l⟩
def withFalse (b : Bk) (l : List Int) : List Cs := (squares b).flatMap fun s => withAt b l s (offsAll b.cs)
theorem withAt_take (b : Bk) (l : List Int) (s : Sq) (os : List (List Int)) {k : Nat} (h : k < os.length) : withAt b l s (os.take (k + 1)) = withAt b l s (os.take k) ++ (if allR b ⟨s, os[k], l⟩ = true then [⟨s, os[k], l⟩] else []) := by
  unfold withAt
  rw [List.take_add_one, List.getElem?_eq_getElem h, List.filter_append, List.map_append]
  congr 1
  by_cases hm : allR b ⟨s, os[k], l⟩ = true <;> simp [hm]
theorem withAt_len (b : Bk) (l : List Int) (s : Sq) (os : List (List Int)) : (withAt b l s os).length ≤ os.length := by
  unfold withAt; rw [List.length_map]; exact List.length_filter_le _ _
theorem flat_take {α β : Type} (f : α → List β) (l : List α) {i : Nat} (h : i < l.length) : (l.take (i + 1)).flatMap f = (l.take i).flatMap f ++ f l[i] := by
  rw [List.take_add_one, List.getElem?_eq_getElem h, List.flatMap_append]; simp
theorem flat_bound {α β : Type} (f : α → List β) (m : Nat) (h : ∀ x, (f x).length ≤ m) : ∀ l : List α, (l.flatMap f).length ≤ l.length * m
  | [] => by simp
  | x :: l => by
    have := flat_bound f m h l
    have := h x
    simp only [List.flatMap_cons, List.length_append, List.length_cons, Nat.succ_mul]; omega
theorem offsAll_in {l : List Rc} (hf : ∀ x ∈ l, x.fine = true) : ∀ i, i ≤ l.length → ∀ o ∈ offsAll (l.take i), ∀ n ∈ o, -3 ≤ n ∧ n ≤ 3
  | 0, _, o, ho => by simp [offsAll] at ho; simp [ho]
  | i + 1, hi, o, ho => by
    rw [offsAll_succ l (by omega)] at ho
    obtain ⟨o', h1, h2⟩ := List.mem_flatMap.1 ho
    obtain ⟨n, hn, rfl⟩ := List.mem_map.1 h2
    have hfx := hf _ (List.getElem_mem (show i < l.length by omega))
    simp only [Rc.fine, isReach, Bool.and_eq_true, decide_eq_true_eq] at hfx
    rw [rz_iff] at hn
    intro m hm
    rcases List.mem_append.1 hm with hm | hm
    · exact offsAll_in hf i (by omega) o' h1 m hm
    · rw [List.mem_singleton.1 hm]; unfold wideRc at hn; omega
theorem ce_flat (xs : List CE) : (xs.flatMap ce).length = xs.length * 4 := flatMap_len ce_len xs
theorem squares_ok {b : Bk} (hb : b.good) : ∀ s ∈ squares b, s.ok := by
  intro s hs
  obtain ⟨n, hn, rfl⟩ := List.mem_map.1 hs
  have hn := List.mem_range.1 hn
  have hw := hb.w
  have hh := hb.h
  have h49 : b.w * b.h ≤ 49 := by
    have : b.w * b.h ≤ 7 * 7 := Int.mul_le_mul hw.2 hh.2 (by omega) (by decide)
    omega
  have h1 := Int.emod_nonneg (n : Int) (show b.w ≠ 0 by omega)
  have h2 := Int.emod_lt_of_pos (n : Int) (show 0 < b.w by omega)
  have h3 : 0 ≤ (n : Int) / b.w := Int.ediv_nonneg (by omega) (by omega)
  have h4 : (n : Int) / b.w ≤ n := Int.ediv_le_self _ (by omega)
  unfold Sq.ok sqAt
  simp only
  omega
theorem squares_len {b : Bk} (hb : b.good) : (squares b).length ≤ 49 := by
  have hw := hb.w
  have hh := hb.h
  have h49 : b.w * b.h ≤ 49 := by
    have : b.w * b.h ≤ 7 * 7 := Int.mul_le_mul hw.2 hh.2 (by omega) (by decide)
    omega
  simp [squares]; omega
section
variable {main : Bool} {J : Goroutine → Mem → Prop} (hJ : Closed prog main J)
include hJ
theorem withFalseR_c {b : Bk} {v vl : Value} {ro : RO} {l : List Int} (hv : BkV ro v b) (hb : b.good) (hl : LsI ro vl l) (hn : l.length ≤ 1000) : CallR prog J (fnv 156) [v, vl] ro (fun x ro' => LC ro' x (withFalse b l)) := by
  have hvv := hv
  obtain ⟨vc, vw, rfl, hc, hw⟩ := hv
  have hnc := hb.nc
  have hfine := hb.cs
  have hsql := squares_len hb
  have hofl := offsAll_len hfine b.cs.length (Nat.le_refl _)
  have hofe := offsAll_each b.cs b.cs.length (Nat.le_refl _)
  have hofi := offsAll_in hfine b.cs.length (Nat.le_refl _)
  rw [List.take_length] at hofl hofe hofi
  have hpow : 3 ^ b.cs.length ≤ 3 ^ 3 := Nat.pow_le_pow_right (by decide) (by omega)
  obtain ⟨lb, lc, rfl⟩ := hl.form
  refine CallR.intro hJ (by kernel_rfl) fun c cs tail hret => enter_X (n := 45) func156 rfl rfl (Nl rfl) ?_
  have C : Ctx prog main J (bf 156 .normal) := ⟨hJ, by decide⟩
  refine Xr C rfl rfl <| R.box C rfl rfl rfl rfl fun p2 => Ad C rfl rfl <| Xs C <| Xd C fun hok => D5 C 0 hok rfl rfl isAgg25 sizeOf25 (by repeat (first | exact Mh | apply Mt)) Tk5 <| D5 C 2 hok rfl rfl isAgg25 sizeOf25 (by repeat (first | exact Mh | apply Mt)) Tk5 <| De 1 (some 12) [true, false] hok (fun σr rest A hk => ?_)
  refine R.callR C rfl (A.w rfl rfl) (A.x rfl rfl) (A.s rfl rfl) ((squaresR_c hJ hvv hb)) fun vS roS hlS hS => hk _ _ ⟨(QFs.cons (QF.of rfl (fun _ _ A h => R.loadAgg C rfl (A.w rfl rfl) (A.x rfl rfl) isAgg25 sizeOf25 (by repeat (first | exact Mh | apply Mt)) Tk5 h)) QFs.nil), ?_⟩
  refine De 3 (some 14) [false] hok (fun σr rest A hk => ?_)
  refine R.callR C rfl (A.w rfl rfl) (A.x rfl rfl) (A.s rfl rfl) ((offsR_c hJ (hvv.mono hlS) hb)) fun vO roO hlO hO => hk _ _ ⟨QFs.nil, ?_⟩
  refine Dp 4 hok (fun _ _ _ A h => R.asg C rfl (A.w rfl rfl) (A.x rfl rfl) h) <| Dp 5 hok (fun _ _ _ A h => R.asg C rfl (A.w rfl rfl) (A.x rfl rfl) h) <| D.done C hok (by kernel_rfl) <| Xr C rfl rfl <| Ad C rfl rfl <| Xs C <| Xr C rfl rfl <| Ad C rfl rfl <| X.block C.1 ?_
  obtain ⟨sb, sc, rfl⟩ := hS.form
  obtain ⟨xO, hOL, hxO, hlO2⟩ := hO
  have hOL0 := hOL
  obtain ⟨ob, oc, rfl⟩ := hOL.form
  have hxOl := congrArg List.length hxO
  rw [List.length_map] at hxOl
  have hvO := (hvv.mono hlS).mono hlO
  have hlOO := (hl.mono hlS).mono hlO
  refine X.loopI (ι := Nat × Value × List CE × List (Nat × Obj)) C.1 (fun s => s.1 ≤ (squares b).length ∧ Buf 30 4 [] s.2.1 (s.2.2.1.flatMap ce) s.2.2.2 ∧ s.2.2.1.map (·.2) = ((squares b).take s.1).flatMap (fun q => withAt b l q (offsAll b.cs)) ∧ ∀ p ∈ s.2.2.1, LsI roO p.1.1 p.2.o ∧ LsI roO p.1.2 p.2.f) (fun s => [(1, .slice lb l.length lc), (2, .pointer (some ⟨p2, 0, none⟩)), (5, .slice sb (squares b).length sc), (6, .slice ob xO.length oc), (7, s.2.1), (8, .int .i64 (s.1 : Int))])
    (fun s => ⟨roO, s.2.2.2 ++ (p2, .cells [.int .i64 b.w, .int .i64 b.h, .int .i64 b.f, vc, vw].toArray 25 (0, 0)) :: tail⟩) (fun s => (squares b).length - s.1) (0, .slice none 0 0, [], []) ⟨Nat.zero_le _, .nil, by simp, fun p hp => nomatch hp⟩ rfl ⟨rfl, rfl, rfl, rfl, rfl, rfl, trivial⟩ fun s hs hnext => ?_
  obtain ⟨i, v1, xs1, own1⟩ := s
  obtain ⟨hi, hb1, hxs1, hls1⟩ := hs
  simp only at hi hb1 hxs1 hls1 hnext ⊢
  refine Xs C <| Xr C rfl rfl <| Rm C rfl rfl <| Rm C rfl rfl <| R.lenSlice C rfl rfl rfl runUnderlying41 <| R.int C rfl rfl rfl rfl b_lss <| R.done C <| X.cond C.1 rfl (fun hlt => ?_) (fun hlt => ?_)
  · have hlt := hlt
    simp only [decide_eq_true_eq] at hlt
    have hi' : i < (squares b).length := by omega
    have hsok := squares_ok hb _ (List.getElem_mem hi')
    have hsucc := flat_take (fun q => withAt b l q (offsAll b.cs)) (squares b) hi'
    obtain ⟨ps, offs', caps, lls, ts, fqs, hsls, hrops, hsubs⟩ := (hS.mono hlO).at Sq.len (by omega)
    cases hsls
    have hsi := hsubs i hi'
    generalize hQ : (squares b)[i] = q at hsok hsucc hsi
    refine X.skip C.1 <| Xs C <| X.block C.1 <| Xr C rfl rfl <| Ad C rfl rfl <| X.block C.1 <| X.loopI (ι := Nat × Value × List CE × List (Nat × Obj)) C.1 (fun s => s.1 ≤ xO.length ∧ Buf 30 4 [] s.2.1 (s.2.2.1.flatMap ce) s.2.2.2 ∧ s.2.2.1.map (·.2) = ((squares b).take i).flatMap (fun q => withAt b l q (offsAll b.cs)) ++ withAt b l q ((offsAll b.cs).take s.1) ∧ ∀ p ∈ s.2.2.1, LsI roO p.1.1 p.2.o ∧ LsI roO p.1.2 p.2.f) (fun s => [(1, .slice lb l.length lc), (2, .pointer (some ⟨p2, 0, none⟩)), (5, .slice (some ⟨ps, offs', none⟩) (squares b).length sc), (6, .slice ob xO.length oc), (7, s.2.1), (8, .int .i64 (i : Int)), (9, .int .i64 (s.1 : Int))])
      (fun s => ⟨roO, s.2.2.2 ++ (p2, .cells [.int .i64 b.w, .int .i64 b.h, .int .i64 b.f, vc, vw].toArray 25 (0, 0)) :: tail⟩) (fun s => xO.length - s.1) (0, v1, xs1, own1) ⟨Nat.zero_le _, hb1, by simp [hxs1, withAt], hls1⟩ rfl ⟨rfl, rfl, rfl, rfl, rfl, rfl, rfl, trivial⟩ fun s hs hnext2 => ?_
    obtain ⟨k, v2, xs2, own2⟩ := s
    obtain ⟨hk, hb2, hxs2, hls2⟩ := hs
    simp only at hk hb2 hxs2 hls2 hnext2 ⊢
    have hlen2 := congrArg List.length hxs2
    rw [List.length_map, List.length_append] at hlen2
    have hbd1 := flat_bound (fun q => withAt b l q (offsAll b.cs)) 27 (fun q => Nat.le_trans (withAt_len b l q _) (by omega)) ((squares b).take i)
    have hbd2 := withAt_len b l q ((offsAll b.cs).take k)
    rw [List.length_take] at hbd1 hbd2
    have hff2 := ce_flat xs2
    refine Xs C <| Xr C rfl rfl <| Rm C rfl rfl <| Rm C rfl rfl <| R.lenSlice C rfl rfl rfl runUnderlying149 <| R.int C rfl rfl rfl rfl b_lss <| R.done C <| X.cond C.1 rfl (fun hlt2 => ?_) (fun hlt2 => ?_)
    · have hlt2 := hlt2
      simp only [decide_eq_true_eq] at hlt2
      have hk' : k < xO.length := by omega
      have hk1 : k < (offsAll b.cs).length := by omega
      have hstep := withAt_take b l q (offsAll b.cs) hk1
      have hxk : xO[k].2 = (offsAll b.cs)[k] := by
        have h1 : (xO.map (·.2))[k]? = some (offsAll b.cs)[k] := by rw [hxO, List.getElem?_eq_getElem hk1]
        rw [List.getElem?_map, List.getElem?_eq_getElem hk'] at h1
        simpa using h1
      have hlk := hlO2 _ (List.getElem_mem hk')
      have hol := hofe _ (List.getElem_mem hk1)
      have hoi := hofi _ (List.getElem_mem hk1)
      rw [← hxk] at hstep hol hoi
      obtain ⟨pa, offa, capa, lla, ta, fqa, hsla, hropa, hsuba⟩ := hOL0.at le_len (by omega)
      cases hsla
      have hx := le_at hsuba hk'
      generalize hL : xO[k].2 = o at hlk hstep hol hoi
      generalize xO[k].1 = vk at hx hlk
      have hlk0 := hlk
      obtain ⟨bk, ck, rfl⟩ := hlk.form
      refine X.skip C.1 <| Xs C <| X.block C.1 <| Xs C <| Xd C fun hok => Dm C 0 hok rfl rfl rfl <| Dm C 1 hok rfl rfl rfl <| Dx C 2 hok rfl rfl rfl runUnderlying41 sizeOf27 <| Dl 3 hok (fun _ _ A h => R.loadAggRo C rfl (A.w rfl rfl) (A.x rfl rfl) isAgg27 sizeOf27 hrops hsi h) <| Dm C 4 hok rfl rfl rfl <| Dm C 5 hok rfl rfl rfl <| Dx C 6 hok rfl rfl rfl runUnderlying149 sizeOf28 <| Dl 7 hok (fun _ _ A h => R.loadOneRo C rfl (A.w rfl rfl) (A.x rfl rfl) isAgg28 hropa hx h) <| Dm C 8 hok rfl rfl rfl <| Dp 9 hok (fun _ _ _ A h => R.build C rfl (A.w rfl rfl) (A.p rfl rfl) zeroValue30 rfl runUnderlying30 (by kernel_rfl) (Fills.part rfl rfl sizeOf27 rfl (.here (.here .nil)) (Fills.part rfl rfl sizeOf28 rfl (.skip (.skip (.here .nil))) (Fills.part rfl rfl sizeOf28 rfl (.skip (.skip (.skip (.here .nil)))) .nil))) h) <| De 10 (some 10) [true, true] hok (fun σr rest A hk => ?_)
      refine R.alloc C rfl (A.w rfl rfl) zeroValue30 rfl fun p10 => hk _ _ ⟨(QFs.cons (QF.of rfl (fun _ _ A h => R.loadOneRo C rfl (A.w rfl rfl) (A.x rfl rfl) isAgg28 hropa hx h)) (QFs.cons (QF.of rfl (fun _ _ A h => R.loadAggRo C rfl (A.w rfl rfl) (A.x rfl rfl) isAgg27 sizeOf27 hrops hsi h)) QFs.nil)), ?_⟩
      refine De 11 none [false, false] hok (fun σr rest A hk => ?_)
      refine R.store C rfl (A.w rfl rfl) (A.x rfl rfl) (A.x rfl rfl) sizeOf30 rfl rfl rfl (by repeat (first | exact Uh | apply Ut | apply Upd.app)) (.here (.here (.here (.here .nil)))) (hk undef _ ⟨QFs.nil, ?_⟩)
      refine D.done C hok (by kernel_rfl) <| Xr C rfl rfl <| R.loadAgg C rfl rfl rfl isAgg25 sizeOf25 (by repeat (first | exact Mh | apply Mt | apply List.mem_append_right)) Tk5 <| R.loadAgg C rfl rfl rfl isAgg30 sizeOf30 (by repeat (first | exact Mh | apply Mt | apply List.mem_append_right)) Tk4 ?_
      have hkc : CsV roO (.agg [.int .i64 q.e, .int .i64 q.n, .slice bk o.length ck, .slice lb l.length lc].toArray) ⟨q, o, l⟩ := ⟨_, _, rfl, hlk0, hlOO⟩
      refine R.callP C rfl rfl rfl rfl (allRightR_c hJ hvO hb hkc ⟨by simp only; omega, by simp only; omega⟩ hsok hol hoi) <| R.done C <| X.cond C.1 rfl (fun hr => ?_) (fun hr => ?_)
      · have hr := hr
        have hr2 : allR b ⟨q, o, l⟩ = true := hr
        rw [if_pos hr2] at hstep
        refine X.region C rfl rfl <| Rm C rfl rfl <| R.loadAgg C rfl rfl rfl isAgg30 sizeOf30 (by repeat (first | exact Mh | apply Mt | apply List.mem_append_right)) Tk4 <| R.buildSlice C (vs := _) rfl rfl (show pvals _ _ = some (numbered 0 [_]) from rfl) rfl runUnderlying122 sizeOf30 zeroValue30 (by decide) (Cat.one rfl rfl) fun p42 => R.append2 (kk := 4) C [(p10, .cells [.int .i64 q.e, .int .i64 q.n, .slice bk o.length ck, .slice lb l.length lc].toArray 30 (0, 0))] rfl rfl rfl rfl runUnderlying122 runUnderlying122 (fun _ => nofun) (show prog.info? 30 = some Tryz.t30 by kernel_rfl) rfl rfl rfl (by decide) (by decide) (hb2.app _) rfl rfl (by simp only [List.length_append, List.length_cons, List.length_nil]; omega) fun v' own' hb' => Ad C rfl rfl <| X.inBlock C.1 <| X.region C rfl rfl <| Rm C rfl rfl <| R.int C rfl rfl rfl rfl (b_add (by omega) (by omega)) <| Ad C rfl rfl ?_
        obtain ⟨own3, rfl, hb3⟩ := Buf.unapp (tail := []) hb'
        refine X.weak C.1 (Weak.sub (List.sublist_cons_self _ _)) (X.weaken ?_ (hnext2 (k + 1, _, xs2 ++ [((.slice bk o.length ck, .slice lb l.length lc), ⟨q, o, l⟩)], own3) ⟨by omega, by simpa [List.flatMap_append, ce] using hb3, by rw [List.map_append, hxs2, hstep, List.append_assoc]; rfl, fun p hp => ?_⟩ (by omega)))
        · exact ⟨rfl, rfl, rfl, rfl, rfl, rfl, by simp [look], trivial⟩
        · rcases List.mem_append.1 hp with hp | hp
          · exact hls2 p hp
          · rw [List.mem_singleton.1 hp]; exact ⟨hlk0, hlOO⟩
      · have hr := hr
        have hr2 : ¬ allR b ⟨q, o, l⟩ = true := by rw [show allR b ⟨q, o, l⟩ = false from hr]; simp
        rw [if_neg hr2, List.append_nil] at hstep
        refine X.skip C.1 <| X.inBlock C.1 <| X.region C rfl rfl <| Rm C rfl rfl <| R.int C rfl rfl rfl rfl (b_add (by omega) (by omega)) <| Ad C rfl rfl <| X.weak C.1 (Weak.sub (List.sublist_cons_self _ _)) (X.weaken ?_ (hnext2 (k + 1, v2, xs2, own2) ⟨by omega, hb2, by rw [hxs2, hstep], hls2⟩ (by omega)))
        exact ⟨rfl, rfl, rfl, rfl, rfl, rfl, by simp [look], trivial⟩
    · have hlt2 := hlt2
      simp only [decide_eq_false_iff_not] at hlt2
      obtain rfl : k = xO.length := by omega
      rw [List.take_of_length_le (show (offsAll b.cs).length ≤ xO.length by omega), ← hsucc] at hxs2
      refine X.exit C.1 rfl <| X.inBlock C.1 <| X.region C rfl rfl <| Rm C rfl rfl <| R.int C rfl rfl rfl rfl (b_add (by omega) (by omega)) <| Ad C rfl rfl <| X.weaken ?_ (hnext (i + 1, v2, xs2, own2) ⟨by omega, hb2, hxs2, hls2⟩ (by omega))
      exact ⟨rfl, rfl, rfl, rfl, rfl, by simp [look], trivial⟩
  · have hlt := hlt
    simp only [decide_eq_false_iff_not] at hlt
    obtain rfl : i = (squares b).length := by omega
    rw [List.take_length] at hxs1
    refine X.exit C.1 rfl <| Xr C rfl rfl <| R.finish C.1 ce_len (by decide) (hb1.app _) fun ro3 hl3 hls3 => Rm C rfl rfl <| Ad C rfl rfl <| Xt C func156 <| Hr hret (RO.le_trans hlS (RO.le_trans hlO hl3)) ?_
    exact ⟨xs1, hls3, hxs1, fun p hp => ⟨(hls1 p hp).1.mono hl3, (hls1 p hp).2.mono hl3⟩⟩
end
end Go.Lg.B
namespace Go.Lg.B
open Go Go.Conc Go.Lg Go.Proofs Go.Proofs.Tryz
theorem sets_range (most : Int) : ∀ n, ∀ l ∈ sets most n, ∀ k ∈ l, 0 ≤ k ∧ k < (n : Int)
  | 0, l, h => by simp [sets] at h; simp [h]
  | n + 1, l, h => by
    rcases List.mem_append.1 h with h | h
    · intro k hk
      have := sets_range most n l h k hk; omega
    · obtain ⟨x, hx, rfl⟩ := List.mem_map.1 h
      intro k hk
      rcases List.mem_append.1 hk with hk | hk
      · have := sets_range most n x (List.mem_filter.1 hx).1 k hk; omega
      · rw [List.mem_singleton.1 hk]; omega
def noSure (b : Bk) (l : List Int) : Bool := !(l.any fun k => (b.wt k.toNat).sure)
def casesL (b : Bk) : List Cs := ((sets b.f b.ws.length).filter (noSure b)).flatMap (withFalse b)
theorem filt_take {α β : Type} (p : α → Bool) (f : α → List β) (l : List α) {i : Nat} (h : i < l.length) : ((l.take (i + 1)).filter p).flatMap f = ((l.take i).filter p).flatMap f ++ (if p l[i] = true then f l[i] else []) := by
  rw [List.take_add_one, List.getElem?_eq_getElem h, List.filter_append, List.flatMap_append]
  congr 1
  by_cases hp : p l[i] = true <;> simp [hp]
theorem withFalse_len {b : Bk} (hb : b.good) (l : List Int) : (withFalse b l).length ≤ 49 * 27 := by
  have hofl := offsAll_len hb.cs b.cs.length (Nat.le_refl _)
  rw [List.take_length] at hofl
  have hpow : 3 ^ b.cs.length ≤ 3 ^ 3 := Nat.pow_le_pow_right (by decide) hb.nc.2
  have := flat_bound (fun q => withAt b l q (offsAll b.cs)) 27 (fun q => Nat.le_trans (withAt_len b l q _) (by omega)) (squares b)
  exact Nat.le_trans this (Nat.mul_le_mul_right _ (squares_len hb))
theorem ones_ce {ro : RO} : ∀ {xs : List CE}, (∀ p ∈ xs, LsI ro p.1.1 p.2.o ∧ LsI ro p.1.2 p.2.f) → ones (xs.flatMap ce) = true
  | [], _ => rfl
  | p :: xs, h => by
    have ih := ones_ce (xs := xs) fun q hq => h q (List.mem_cons_of_mem _ hq)
    obtain ⟨h1, h2⟩ := h p List.mem_cons_self
    obtain ⟨⟨v1, v2⟩, c⟩ := p
    simp only at h1 h2
    obtain ⟨b1, c1, rfl⟩ := h1.form
    obtain ⟨b2, c2, rfl⟩ := h2.form
    simp only [List.flatMap_cons, ce, List.cons_append, List.nil_append, ones, oneCell, ih, Bool.and_self, Bool.true_and]
theorem LC.mono {ro ro' : RO} {v : Value} {l : List Cs} (h : LC ro v l) (hl : ro.le ro') : LC ro' v l := by
  obtain ⟨xs, h1, h2, h3⟩ := h
  exact ⟨xs, h1.mono hl, h2, fun p hp => ⟨(h3 p hp).1.mono hl, (h3 p hp).2.mono hl⟩⟩
def knownH (b : Bk) (there : Bool) : Int := if checkChart b ≠ 0 then checkChart b else if there = false then 6 else if casesL b = [] then 9 else 0
def KnownV (ro : RO) (b : Bk) (there : Bool) (x : Value) : Prop := ∃ vl, x = .tuple [vl, .int .i64 (knownH b there)].toArray ∧ (knownH b there = 0 → LC ro vl (casesL b)) ∧ (knownH b there ≠ 0 → vl = .slice none 0 0)
section
variable {main : Bool} {J : Goroutine → Mem → Prop} (hJ : Closed prog main J)
include hJ
theorem casesOfR_c {b : Bk} {v : Value} {ro : RO} (hv : BkV ro v b) (hb : b.good) : CallR prog J (fnv 92) [v] ro (fun x ro' => LC ro' x (casesL b)) := by
  have hvv := hv
  obtain ⟨vc, vw, rfl, hc, hw⟩ := hv
  have hnw := hb.nw
  obtain ⟨wb, wc, rfl⟩ := hw.form
  have hsl := sets_len b.f b.ws.length
  have hse := sets_each b.f b.ws.length
  have hsr := sets_range b.f b.ws.length
  have hpow : 2 ^ b.ws.length ≤ 2 ^ 5 := Nat.pow_le_pow_right (by decide) hnw
  refine CallR.intro hJ (by kernel_rfl) fun c cs tail hret => enter_X (n := 34) func92 rfl rfl (Nl rfl) ?_
  have C : Ctx prog main J (bf 92 .normal) := ⟨hJ, by decide⟩
  refine Xr C rfl rfl <| R.box C rfl rfl rfl rfl fun p1 => Ad C rfl rfl <| Xr C rfl rfl <| Rf C 4 rfl rfl runUnderlying25 rfl sizeOf23 <| R.loadOne C rfl rfl rfl isAgg23 (by repeat (first | exact Mh | apply Mt)) rfl <| R.lenSlice C rfl rfl rfl runUnderlying23 <| Rf C 2 rfl rfl runUnderlying25 rfl sizeOf3 <| R.loadOne C rfl rfl rfl isAgg3 (by repeat (first | exact Mh | apply Mt)) rfl <| R.callR C rfl rfl rfl rfl ((setsR_c hJ (n := b.ws.length) (most := b.f) hnw)) fun vT roT hlT hT => Ad C rfl rfl <| Xr C rfl rfl <| Ad C rfl rfl <| Xs C <| Xr C rfl rfl <| Ad C rfl rfl <| X.block C.1 ?_
  obtain ⟨xT, hTL, hxT, hlT2⟩ := hT
  have hTL0 := hTL
  obtain ⟨tb, tc, rfl⟩ := hTL.form
  have hxTl := congrArg List.length hxT
  rw [List.length_map] at hxTl
  refine X.loopI (ι := Nat × RO × Value × List CE × List (Nat × Obj)) C.1 (fun s => s.1 ≤ xT.length ∧ roT.le s.2.1 ∧ Buf 30 4 [] s.2.2.1 (s.2.2.2.1.flatMap ce) s.2.2.2.2 ∧ s.2.2.2.1.map (·.2) = (((sets b.f b.ws.length).take s.1).filter (noSure b)).flatMap (withFalse b) ∧ ∀ p ∈ s.2.2.2.1, LsI s.2.1 p.1.1 p.2.o ∧ LsI s.2.1 p.1.2 p.2.f) (fun s => [(1, .pointer (some ⟨p1, 0, none⟩)), (3, .slice tb xT.length tc), (4, s.2.2.1), (5, .int .i64 (s.1 : Int))])
    (fun s => ⟨s.2.1, s.2.2.2.2 ++ (p1, .cells [.int .i64 b.w, .int .i64 b.h, .int .i64 b.f, vc, .slice wb b.ws.length wc].toArray 25 (0, 0)) :: tail⟩) (fun s => xT.length - s.1) (0, roT, .slice none 0 0, [], []) ⟨Nat.zero_le _, RO.le_refl _, .nil, by simp, fun p hp => nomatch hp⟩ rfl ⟨rfl, rfl, rfl, rfl, trivial⟩ fun s hs hnext => ?_
  obtain ⟨i, ro1, v1, xs1, own1⟩ := s
  obtain ⟨hi, hle1, hb1, hxs1, hls1⟩ := hs
  simp only at hi hle1 hb1 hxs1 hls1 hnext ⊢
  have hlen1 := congrArg List.length hxs1
  rw [List.length_map] at hlen1
  have hbd1 := flat_bound (withFalse b) (49 * 27) (withFalse_len hb) (((sets b.f b.ws.length).take i).filter (noSure b))
  have hbd2 : (((sets b.f b.ws.length).take i).filter (noSure b)).length ≤ 32 := by
    refine Nat.le_trans (List.length_filter_le _ _) ?_
    rw [List.length_take]; omega
  have hbd3 := Nat.mul_le_mul_right (49 * 27) hbd2
  have hff1 := ce_flat xs1
  refine Xs C <| Xr C rfl rfl <| Rm C rfl rfl <| Rm C rfl rfl <| R.lenSlice C rfl rfl rfl runUnderlying149 <| R.int C rfl rfl rfl rfl b_lss <| R.done C <| X.cond C.1 rfl (fun hlt => ?_) (fun hlt => ?_)
  · have hlt := hlt
    simp only [decide_eq_true_eq] at hlt
    have hi' : i < xT.length := by omega
    have hi1 : i < (sets b.f b.ws.length).length := by omega
    have hstep := filt_take (noSure b) (withFalse b) (sets b.f b.ws.length) hi1
    have hxi : xT[i].2 = (sets b.f b.ws.length)[i] := by
      have h1 : (xT.map (·.2))[i]? = some (sets b.f b.ws.length)[i] := by rw [hxT, List.getElem?_eq_getElem hi1]
      rw [List.getElem?_map, List.getElem?_eq_getElem hi'] at h1
      simpa using h1
    have hli := hlT2 _ (List.getElem_mem hi')
    have hle5 := hse _ (List.getElem_mem hi1)
    have hrng := hsr _ (List.getElem_mem hi1)
    rw [← hxi] at hstep hle5 hrng
    obtain ⟨pa, offa, capa, lla, ta, fqa, hsla, hropa, hsuba⟩ := hTL0.at le_len (by omega)
    cases hsla
    have hx := le_at hsuba hi'
    generalize hL : xT[i].2 = l at hli hstep hle5 hrng
    generalize xT[i].1 = vk at hx hli
    have hli1 := hli.mono hle1
    obtain ⟨bk, ck, rfl⟩ := hli.form
    have hv1 := (hvv.mono hlT).mono hle1
    refine X.skip C.1 <| Xs C <| X.block C.1 <| Xs C <| Xd C fun hok => Dl 0 hok (fun _ _ A h => R.loadAgg C rfl (A.w rfl rfl) (A.x rfl rfl) isAgg25 sizeOf25 (by repeat (first | exact Mh | apply Mt | apply List.mem_append_right)) Tk5 h) <| Dm C 1 hok rfl rfl rfl <| Dm C 2 hok rfl rfl rfl <| Dx C 3 hok rfl rfl rfl runUnderlying149 sizeOf28 <| Dl 4 hok (fun _ _ A h => R.loadOneRo C rfl (A.w rfl rfl) (A.x rfl rfl) isAgg28 (hle1 _ _ hropa) hx h) <| De 5 (some 23) [false, false] hok (fun σr rest A hk => ?_)
    refine R.callP C rfl (A.w rfl rfl) (A.x rfl rfl) (A.s rfl rfl) (sureOnesR_c hJ hv1 hli1 (by omega) hrng) (hk _ _ ⟨QFs.nil, ?_⟩)
    refine Dp 6 hok (fun _ _ _ A h => R.not C rfl (A.w rfl rfl) (A.x rfl rfl) h) <| D.done C hok (by kernel_rfl) <| X.cond C.1 rfl (fun hq => ?_) (fun hq => ?_)
    · have hq := hq
      have hq2 : noSure b l = true := hq
      rw [if_pos hq2] at hstep
      refine Xd C fun hok => Dm C 0 hok rfl rfl rfl <| Dl 1 hok (fun _ _ A h => R.loadAgg C rfl (A.w rfl rfl) (A.x rfl rfl) isAgg25 sizeOf25 (by repeat (first | exact Mh | apply Mt | apply List.mem_append_right)) Tk5 h) <| Dm C 2 hok rfl rfl rfl <| Dm C 3 hok rfl rfl rfl <| Dx C 4 hok rfl rfl rfl runUnderlying149 sizeOf28 <| Dl 5 hok (fun _ _ A h => R.loadOneRo C rfl (A.w rfl rfl) (A.x rfl rfl) isAgg28 (hle1 _ _ hropa) hx h) <| De 6 (some 31) [false, false] hok (fun σr rest A hk => ?_)
      refine R.callR C rfl (A.w rfl rfl) (A.x rfl rfl) (A.s rfl rfl) ((withFalseR_c hJ hv1 hb hli1 (by omega))) fun vW roW hlW hW => hk _ _ ⟨QFs.nil, ?_⟩
      refine De 7 (some 32) [] hok (fun σr rest A hk => ?_)
      obtain ⟨xW, hWL, hxW, hlW2⟩ := hW
      have hxWl := congrArg List.length hxW
      rw [List.length_map] at hxWl
      have hwl := withFalse_len hb l
      have hffW := ce_flat xW
      refine R.append (kk := 4) C rfl (A.w rfl rfl) (A.x rfl rfl) (A.x rfl rfl) runUnderlying122 runUnderlying122 (fun _ => nofun) (show prog.info? 30 = some Tryz.t30 by kernel_rfl) rfl rfl rfl (by decide) (by decide) (hb1.app _) (hWL.rd ce_len) (ones_ce hlW2) (by omega) fun v' own' hb' => hk _ _ ⟨QFs.nil, ?_⟩
      refine Dp 8 hok (fun _ _ _ A h => R.asg C rfl (A.w rfl rfl) (A.x rfl rfl) h) <| D.done C hok (by kernel_rfl) <| X.inBlock C.1 <| X.region C rfl rfl <| Rm C rfl rfl <| R.int C rfl rfl rfl rfl (b_add (by omega) (by omega)) <| Ad C rfl rfl ?_
      obtain ⟨own3, rfl, hb3⟩ := Buf.unapp (tail := []) hb'
      refine X.weaken ?_ (hnext (i + 1, roW, _, xs1 ++ xW, own3) ⟨by omega, RO.le_trans hle1 hlW, by simpa [List.flatMap_append] using hb3, by rw [List.map_append, hxs1, hxW, hstep], fun p hp => ?_⟩ (by omega))
      · exact ⟨rfl, rfl, rfl, by simp [look], trivial⟩
      · rcases List.mem_append.1 hp with hp | hp
        · exact ⟨(hls1 p hp).1.mono hlW, (hls1 p hp).2.mono hlW⟩
        · exact hlW2 p hp
    · have hq := hq
      have hq2 : ¬ noSure b l = true := by rw [show noSure b l = false from hq]; simp
      rw [if_neg hq2, List.append_nil] at hstep
      refine X.skip C.1 <| X.inBlock C.1 <| X.region C rfl rfl <| Rm C rfl rfl <| R.int C rfl rfl rfl rfl (b_add (by omega) (by omega)) <| Ad C rfl rfl <| X.weaken ?_ (hnext (i + 1, ro1, v1, xs1, own1) ⟨by omega, hle1, hb1, by rw [hxs1, hstep], hls1⟩ (by omega))
      exact ⟨rfl, rfl, rfl, by simp [look], trivial⟩
  · have hlt := hlt
    simp only [decide_eq_false_iff_not] at hlt
    obtain rfl : i = xT.length := by omega
    rw [List.take_of_length_le (by omega)] at hxs1
    refine X.exit C.1 rfl <| Xr C rfl rfl <| R.finish C.1 ce_len (by decide) (hb1.app _) fun ro3 hl3 hls3 => Rm C rfl rfl <| Ad C rfl rfl <| Xt C func92 <| Hr hret (RO.le_trans hlT (RO.le_trans hle1 hl3)) ?_
    exact ⟨xs1, hls3, hxs1, fun p hp => ⟨(hls1 p hp).1.mono hl3, (hls1 p hp).2.mono hl3⟩⟩
theorem knownR_c {b : Bk} {v : Value} {ro : RO} (hv : BkV ro v b) (hs : b.short) (th : Bool) : CallR prog J (fnv 95) [v, .bool th] ro (fun x ro' => KnownV ro' b th x) := by
  have hvv := hv
  obtain ⟨vc, vw, rfl, hc, hw⟩ := hv
  refine CallR.intro hJ (by kernel_rfl) fun c cs tail hret => enter_X (n := 21) func95 rfl rfl (Nl rfl) ?_
  have C : Ctx prog main J (bf 95 .normal) := ⟨hJ, by decide⟩
  refine Xr C rfl rfl <| R.box C rfl rfl rfl rfl fun p2 => R.asg C rfl rfl rfl <| Ad C rfl rfl <| Xs C <| Xr C rfl rfl <| R.loadAgg C rfl rfl rfl isAgg25 sizeOf25 (by repeat (first | exact Mh | apply Mt)) Tk5 <| R.callP C rfl rfl rfl rfl (checkChartR_c hJ hvv hs) <| Ad C rfl rfl <| Xr C rfl rfl <| Rm C rfl rfl <| R.int C rfl rfl rfl rfl b_neq <| R.done C <| X.cond C.1 rfl (fun hh => ?_) (fun hh => ?_)
  · have hh := hh
    simp at hh
    have hk : knownH b th = checkChart b := by rw [knownH, if_pos hh]
    refine Xr C rfl rfl <| Rm C rfl rfl <| R.asg C rfl rfl rfl <| Ad C rfl rfl <| X.ret C rfl rfl func95 rfl (by exact (.tmp rfl (.tmp rfl .nil))) <| Hr hret (RO.le_refl _) ?_
    exact ⟨_, by rw [hk]; rfl, fun h => absurd (hk ▸ h) hh, fun _ => rfl⟩
  · have hh := hh
    simp at hh
    have hg := good_iff.1 hh
    cases th
    · have hk : knownH b false = 6 := by rw [knownH, if_neg (by simp [hh]), if_pos rfl]
      refine X.skip C.1 <| Xs C <| Xr C rfl rfl <| Rm C rfl rfl <| R.not C rfl rfl rfl <| R.fixv (t := 14) (v' := .bool true) rfl (by rfl) <| R.done C <| X.cond C.1 rfl (fun _ => ?_) (fun h => nomatch h)
      refine Xr C rfl rfl <| R.asg C rfl rfl rfl <| Ad C rfl rfl <| X.ret C rfl rfl func95 rfl (by exact (.tmp rfl (.tmp rfl .nil))) <| Hr hret (RO.le_refl _) ?_
      exact ⟨_, by rw [hk]; rfl, fun h => (by rw [hk] at h; cases h), fun _ => rfl⟩
    · have hk : knownH b true = if casesL b = [] then 9 else 0 := by rw [knownH, if_neg (by simp [hh]), if_neg (by simp)]
      refine X.skip C.1 <| Xs C <| Xr C rfl rfl <| Rm C rfl rfl <| R.not C rfl rfl rfl <| R.fixv (t := 14) (v' := .bool false) rfl (by rfl) <| R.done C <| X.cond C.1 rfl (fun h => nomatch h) (fun _ => ?_)
      refine X.skip C.1 <| Xr C rfl rfl <| R.loadAgg C rfl rfl rfl isAgg25 sizeOf25 (by repeat (first | exact Mh | apply Mt)) Tk5 <| R.callR C rfl rfl rfl rfl ((casesOfR_c hJ hvv hg)) fun v1 ro2 hl2 hp => Ad C rfl rfl <| Xs C <| Xr C rfl rfl ?_
      have hp0 := hp
      obtain ⟨xs, hL, hx, hls⟩ := hp
      obtain ⟨lb, lc, rfl⟩ := hL.form
      have hxl := congrArg List.length hx
      rw [List.length_map] at hxl
      refine Rm C rfl rfl <| R.lenSlice C rfl rfl rfl runUnderlying122 <| R.int C rfl rfl rfl rfl b_eql <| R.done C <| X.cond C.1 rfl (fun hz => ?_) (fun hz => ?_)
      · have hz := hz
        have hz2 : casesL b = [] := List.eq_nil_of_length_eq_zero (by simp at hz; rw [← hxl]; simp [hz])
        rw [if_pos hz2] at hk
        refine Xr C rfl rfl <| R.asg C rfl rfl rfl <| Ad C rfl rfl <| X.ret C rfl rfl func95 rfl (by exact (.tmp rfl (.tmp rfl .nil))) <| Hr hret hl2 ?_
        exact ⟨_, by rw [hk]; rfl, fun h => (by rw [hk] at h; cases h), fun _ => rfl⟩
      · have hz := hz
        have hz2 : casesL b ≠ [] := fun h => by
          rw [h] at hxl
          have : xs = [] := List.eq_nil_of_length_eq_zero hxl
          simp [this] at hz
        rw [if_neg hz2] at hk
        refine X.skip C.1 <| Xr C rfl rfl <| Rm C rfl rfl <| R.asg C rfl rfl rfl <| Ad C rfl rfl <| X.ret C rfl rfl func95 rfl (by exact (.tmp rfl (.tmp rfl .nil))) <| Hr hret hl2 ?_
        exact ⟨_, by rw [hk]; rfl, fun _ => hp0, fun h => absurd hk h⟩
end
end Go.Lg.B
namespace Go.Lg.B
open Go Go.Conc Go.Lg Go.Proofs Go.Proofs.Tryz
theorem flatMap_two {α β : Type} (g h : α → List β) : ∀ l : List α, (l.flatMap g ++ l.flatMap h).Perm (l.flatMap fun x => g x ++ h x)
  | [] => .refl _
  | x :: l => by
    have ih := flatMap_two g h l
    simp only [List.flatMap_cons]
    have e1 : (g x ++ l.flatMap g ++ (h x ++ l.flatMap h)).Perm (g x ++ (h x ++ (l.flatMap g ++ l.flatMap h))) := by
      rw [List.append_assoc]
      refine List.Perm.append_left _ ?_
      rw [← List.append_assoc, ← List.append_assoc]
      exact List.Perm.append_right _ List.perm_append_comm
    refine e1.trans ?_
    rw [List.append_assoc (g x) (h x)]
    exact List.Perm.append_left _ (List.Perm.append_left _ ih)
theorem flatMap_swap {α β γ : Type} (f : α → β → List γ) (m : List β) : ∀ l : List α, (l.flatMap fun x => m.flatMap fun y => f x y).Perm (m.flatMap fun y => l.flatMap fun x => f x y)
  | [] => by
    have : (m.flatMap fun y => ([] : List α).flatMap fun x => f x y) = [] := by simp
    rw [this]; exact .refl _
  | x :: l => by
    simp only [List.flatMap_cons]
    exact (List.Perm.append_left _ (flatMap_swap f m l)).trans (flatMap_two _ _ m)
theorem filter_as_flat {α β : Type} (p : α → Bool) (f : α → β) : ∀ l : List α, (l.filter p).map f = l.flatMap fun x => if p x = true then [f x] else []
  | [] => rfl
  | x :: l => by
    have ih := filter_as_flat p f l
    by_cases h : p x = true
    · simp [h, ih]
    · simp [h, ih]
theorem flat_filter {α β : Type} (p : α → Bool) (f : α → List β) : ∀ l : List α, (l.filter p).flatMap f = l.flatMap fun x => if p x = true then f x else []
  | [] => rfl
  | x :: l => by
    have ih := flat_filter p f l
    by_cases h : p x = true
    · simp [h, ih]
    · simp [h, ih]
theorem flat_congr {α β : Type} {f g : α → List β} : ∀ {l : List α}, (∀ x ∈ l, f x = g x) → l.flatMap f = l.flatMap g
  | [], _ => rfl
  | x :: l, h => by simp only [List.flatMap_cons, h x List.mem_cons_self, flat_congr fun y hy => h y (List.mem_cons_of_mem _ hy)]
theorem perm_flat {α β : Type} (f : α → List β) {l m : List α} (h : l.Perm m) : (l.flatMap f).Perm (m.flatMap f) := by
  induction h with
  | nil => exact .refl _
  | cons x _ ih => simp only [List.flatMap_cons]; exact List.Perm.append_left _ ih
  | swap x y l =>
    simp only [List.flatMap_cons, ← List.append_assoc]
    exact List.Perm.append_right _ List.perm_append_comm
  | trans _ _ h1 h2 => exact h1.trans h2
theorem sets_iff {most : Int} (hm : 0 ≤ most) : ∀ (n : Nat) (l : List Int), l ∈ sets most n ↔ List.Pairwise (· < ·) l ∧ (∀ k ∈ l, 0 ≤ k ∧ k < (n : Int)) ∧ (l.length : Int) ≤ most
  | 0, l => by
    simp only [sets, List.mem_singleton]
    constructor
    · rintro rfl; simp [hm]
    · rintro ⟨_, h2, _⟩
      cases l with
      | nil => rfl
      | cons x l => have := h2 x List.mem_cons_self; omega
  | n + 1, l => by
    simp only [sets, List.mem_append, ext, List.mem_map, List.mem_filter, decide_eq_true_eq]
    constructor
    · rintro (h | ⟨x, ⟨hx, hlt⟩, rfl⟩)
      · obtain ⟨h1, h2, h3⟩ := (sets_iff hm n l).1 h
        exact ⟨h1, fun k hk => by have := h2 k hk; omega, h3⟩
      · obtain ⟨h1, h2, h3⟩ := (sets_iff hm n x).1 hx
        refine ⟨List.pairwise_append.2 ⟨h1, List.pairwise_singleton _ _, fun a ha c hc => ?_⟩, fun k hk => ?_, ?_⟩
        · rw [List.mem_singleton.1 hc]; exact (h2 a ha).2
        · rcases List.mem_append.1 hk with hk | hk
          · have := h2 k hk; omega
          · rw [List.mem_singleton.1 hk]; omega
        · simp; omega
    · rintro ⟨h1, h2, h3⟩
      rcases List.eq_nil_or_concat l with rfl | ⟨x, k, rfl⟩
      · exact .inl ((sets_iff hm n []).2 ⟨.nil, by simp, by simpa using hm⟩)
      · rw [List.concat_eq_append] at h1 h2 h3 ⊢
        obtain ⟨p1, _, p3⟩ := List.pairwise_append.1 h1
        have hk := h2 k (by simp)
        have hx : ∀ a ∈ x, a < k := fun a ha => p3 a ha k (by simp)
        simp only [List.length_append, List.length_cons, List.length_nil] at h3
        by_cases e : k = n
        · subst e
          exact .inr ⟨x, ⟨(sets_iff hm n x).2 ⟨p1, fun a ha => ⟨(h2 a (by simp [ha])).1, hx a ha⟩, by omega⟩, by omega⟩, rfl⟩
        · refine .inl ((sets_iff hm n _).2 ⟨h1, fun a ha => ⟨(h2 a ha).1, ?_⟩, by simp; omega⟩)
          rcases List.mem_append.1 ha with ha | ha
          · have := hx a ha; omega
          · rw [List.mem_singleton.1 ha]; omega
theorem sets_nodup {most : Int} (hm : 0 ≤ most) : ∀ n, (sets most n).Nodup
  | 0 => by simp [sets]
  | n + 1 => by
    have ih := sets_nodup hm n
    refine List.nodup_append.2 ⟨ih, ?_, fun a ha c hc => ?_⟩
    · unfold ext
      refine List.pairwise_map.2 ((ih.filter _).imp fun h e => h (List.append_cancel_right e))
    · obtain ⟨x, _, rfl⟩ := List.mem_map.1 hc
      rintro rfl
      have := ((sets_iff hm n _).1 ha).2.1 (n : Int) (by simp)
      omega
def maskL (n : Nat) (l : List Int) : Nat := maskOf (fun i => l.contains (i : Int)) n
theorem maskL_bit {n : Nat} {l : List Int} (h : ∀ k ∈ l, 0 ≤ k ∧ k < (n : Int)) (i : Nat) : (maskL n l).testBit i = l.contains (i : Int) := by
  rw [maskL, maskOf_bit]
  by_cases hi : i < n
  · simp [hi]
  · have : l.contains (i : Int) = false := by
      rw [Bool.eq_false_iff]; intro hc
      have := h _ (by simpa using hc); omega
    rw [this]; simp
def okM (b : Bk) (m : Nat) : Bool := m &&& sureM b == 0 && decide (((listOf m).length : Int) ≤ b.f)
theorem ups_nodup : ∀ (m n : Nat), (ups n m).Nodup
  | 0, _ => by simp [ups]
  | m + 1, n => by
    simp only [ups, List.nodup_cons]
    exact ⟨fun h => by rw [ups_iff] at h; omega, ups_nodup m (n + 1)⟩
theorem listOf_maskL {n : Nat} (hn : n ≤ 5) {l : List Int} (h1 : List.Pairwise (· < ·) l) (h2 : ∀ k ∈ l, 0 ≤ k ∧ k < (n : Int)) : listOf (maskL n l) = l :=
  listOf_eq h1 (fun k hk => by have := h2 k hk; omega) (maskL_bit h2)
theorem noSure_mask {b : Bk} {l : List Int} (h : ∀ k ∈ l, 0 ≤ k ∧ k < (b.ws.length : Int)) : (maskL b.ws.length l &&& sureM b == 0) = noSure b l := by
  rw [Bool.eq_iff_iff, and_zero]
  simp only [maskL_bit h, sureM, maskOf_bit, noSure, Bool.not_eq_true', List.any_eq_false, Bool.not_eq_true]
  constructor
  · intro hh k hk
    obtain ⟨g1, g2⟩ := h k hk
    have := hh k.toNat (by rw [show ((k.toNat : Nat) : Int) = k by omega]; simpa using hk)
    rwa [decide_eq_true (by omega), Bool.true_and] at this
  · intro hh i hi
    have hm : (i : Int) ∈ l := by simpa using hi
    have := hh _ hm
    rw [show ((i : Int)).toNat = i by omega] at this
    rw [this]; simp
theorem masks_perm {b : Bk} (hb : b.good) : ((ups 0 (2 ^ b.ws.length)).filter (okM b)).Perm (((sets b.f b.ws.length).filter (noSure b)).map (maskL b.ws.length)) := by
  have hf := hb.f
  have hn := hb.nw
  refine (List.perm_ext_iff_of_nodup ((ups_nodup _ _).filter _) ?_).2 fun m => ?_
  · refine List.pairwise_map.2 (List.Pairwise.imp_of_mem (fun {a c} ha hc hne e => hne ?_) ((sets_nodup hf.1 b.ws.length).filter (noSure b)))
    obtain ⟨a1, a2, _⟩ := (sets_iff hf.1 _ _).1 (List.mem_filter.1 ha).1
    obtain ⟨c1, c2, _⟩ := (sets_iff hf.1 _ _).1 (List.mem_filter.1 hc).1
    rw [← listOf_maskL hn a1 a2, e, listOf_maskL hn c1 c2]
  · simp only [List.mem_filter, List.mem_map, ups_iff, okM, Bool.and_eq_true, decide_eq_true_eq]
    constructor
    · rintro ⟨⟨_, h1⟩, h2, h3⟩
      have hr : ∀ k ∈ listOf m, 0 ≤ k ∧ k < (b.ws.length : Int) := fun k hk => by
        obtain ⟨i, _, hi, rfl⟩ := (bits_mem m k 5).1 hk
        refine ⟨by omega, ?_⟩
        by_cases hlt : i < b.ws.length
        · omega
        · have : m.testBit i = false := Nat.testBit_lt_two_pow (Nat.lt_of_lt_of_le (by simpa using h1) (Nat.pow_le_pow_right (by decide) (by omega)))
          rw [this] at hi; cases hi
      have hm : maskL b.ws.length (listOf m) = m := by
        refine Nat.eq_of_testBit_eq fun i => ?_
        rw [maskL_bit hr, Bool.eq_iff_iff]
        simp only [List.contains_eq_mem, decide_eq_true_eq]
        constructor
        · intro h
          obtain ⟨j, _, hj, e⟩ := (bits_mem m _ 5).1 h
          have : i = j := by omega
          rw [this]; exact hj
        · intro h
          refine (bits_mem m _ 5).2 ⟨i, ?_, h, rfl⟩
          by_cases hlt : i < 5
          · exact hlt
          · have : m.testBit i = false := Nat.testBit_lt_two_pow (Nat.lt_of_lt_of_le (by simpa using h1) (Nat.pow_le_pow_right (by decide) (by omega)))
            rw [this] at h; cases h
      refine ⟨listOf m, ⟨(sets_iff hf.1 _ _).2 ⟨bits_up m 5, hr, h3⟩, ?_⟩, hm⟩
      rw [← noSure_mask hr, hm]; exact h2
    · rintro ⟨l, ⟨h1, h2⟩, rfl⟩
      obtain ⟨a1, a2, a3⟩ := (sets_iff hf.1 _ _).1 h1
      refine ⟨⟨Nat.zero_le _, by simpa [maskL] using maskOf_lt _ _⟩, by rw [noSure_mask a2]; exact h2, by rw [listOf_maskL hn a1 a2]; exact a3⟩
theorem aims_eq {b : Bk} (hb : b.good) : aims b = (squares b).flatMap fun s => (offsAll b.cs).map fun o => Cs.aim ⟨s, o, []⟩ := by
  have hnc := hb.nc
  have hu : ∀ m, ups 0 m = List.range m := by
    have key : ∀ m n, ups n m = (List.range m).map (· + n) := by
      intro m
      induction m with
      | zero => intro n; rfl
      | succ m ih =>
        intro n
        rw [ups, ih, List.range_succ_eq_map, List.map_cons, List.map_map]
        simp only [Nat.zero_add, List.cons.injEq, true_and]
        refine List.map_congr_left fun x _ => ?_
        simp only [Function.comp]; omega
    intro m; rw [key]; simp
  obtain ⟨w, h, f, cs, ws⟩ := b
  unfold aims squares
  rw [hu, List.flatMap_map]
  refine flat_congr fun n _ => ?_
  have s0 : ∀ (a : Aim) (n : Int), a.set ((0 : Nat) : Int) n = { a with x := n } := fun _ _ => rfl
  have s1 : ∀ (a : Aim) (n : Int), a.set ((0 + 1 : Nat) : Int) n = { a with y := n } := fun _ _ => rfl
  have s2 : ∀ (a : Aim) (n : Int), a.set ((0 + 1 + 1 : Nat) : Int) n = { a with z := n } := fun _ _ => rfl
  simp only at hnc ⊢
  match cs, hnc with
  | [x], _ => simp [offs, offsAll, offsStep, s0, aimAt, Cs.aim, sqAt, wideRc, List.map_eq_flatMap, List.flatMap_assoc]; rfl
  | [x, y], _ => simp [offs, offsAll, offsStep, s0, s1, aimAt, Cs.aim, sqAt, wideRc, List.map_eq_flatMap, List.flatMap_assoc]; rfl
  | [x, y, z], _ => simp [offs, offsAll, offsStep, s0, s1, s2, aimAt, Cs.aim, sqAt, wideRc, List.map_eq_flatMap, List.flatMap_assoc]; rfl
def lotOf (b : Bk) (c : Cs) : Lot := ⟨c.aim, maskL b.ws.length c.f⟩
theorem okA_mask {b : Bk} {l : List Int} (h : ∀ k ∈ l, 0 ≤ k ∧ k < (b.ws.length : Int)) (s : Sq) (o : List Int) : (andNot (odd b (Cs.aim ⟨s, o, l⟩)) (maskL b.ws.length l) == 0) = allR b ⟨s, o, l⟩ := by
  rw [Bool.eq_iff_iff, andNot_zero]
  simp only [odd, maskOf_bit, maskL_bit h, Bool.and_eq_true, decide_eq_true_eq, allR, List.all_eq_true, List.mem_range, Bool.or_eq_true, Bool.not_eq_true']
  constructor
  · intro hh i hi
    cases hr : right (b.wt i) (Cs.aim ⟨s, o, l⟩)
    · exact .inl (hh i ⟨hi, hr⟩)
    · exact .inr rfl
  · rintro hh i ⟨hi, hr⟩
    rcases hh i hi with h1 | h1
    · exact h1
    · rw [hr] at h1; cases h1
theorem cases_perm {b : Bk} (hb : b.good) : ((casesL b).map (lotOf b)).Perm (cases b) := by
  have e1 : cases b = (aims b).flatMap fun a => (ups 0 (2 ^ b.ws.length)).flatMap fun m => if okMask b a m = true then [⟨a, m⟩] else [] := by
    unfold cases lots
    refine flat_congr fun a _ => ?_
    exact filter_as_flat _ _ _
  rw [e1]
  refine List.Perm.trans ?_ (flatMap_swap (fun a m => if okMask b a m = true then [(⟨a, m⟩ : Lot)] else []) (ups 0 (2 ^ b.ws.length)) (aims b)).symm
  have e2 : ((ups 0 (2 ^ b.ws.length)).flatMap fun m => (aims b).flatMap fun a => if okMask b a m = true then [(⟨a, m⟩ : Lot)] else []) = ((ups 0 (2 ^ b.ws.length)).filter (okM b)).flatMap fun m => (aims b).flatMap fun a => if (andNot (odd b a) m == 0) = true then [(⟨a, m⟩ : Lot)] else [] := by
    rw [flat_filter]
    refine flat_congr fun m _ => ?_
    by_cases h : okM b m = true
    · rw [if_pos h]
      refine flat_congr fun a _ => ?_
      have : okMask b a m = (andNot (odd b a) m == 0) := by
        have h' : (m &&& sureM b == 0 && decide (((listOf m).length : Int) ≤ b.f)) = true := h
        rw [okMask, h', Bool.and_true]
      rw [this]
    · rw [if_neg h]
      have : ∀ a, okMask b a m = false := fun a => by
        have h' : (m &&& sureM b == 0 && decide (((listOf m).length : Int) ≤ b.f)) = false := by simpa [okM] using h
        rw [okMask, h', Bool.and_false]
      simp [this]
  rw [e2]
  refine List.Perm.trans ?_ (perm_flat _ (masks_perm hb)).symm
  rw [List.flatMap_map, casesL, List.map_flatMap]
  refine List.Perm.of_eq (flat_congr fun l hl => ?_)
  obtain ⟨_, a2, _⟩ := (sets_iff hb.f.1 _ _).1 (List.mem_filter.1 hl).1
  rw [aims_eq hb, List.flatMap_assoc, withFalse, List.map_flatMap]
  refine flat_congr fun s _ => ?_
  rw [withAt, List.map_map, filter_as_flat, List.flatMap_map]
  refine flat_congr fun o _ => ?_
  have e3 : Cs.aim ⟨s, o, []⟩ = Cs.aim ⟨s, o, l⟩ := rfl
  rw [e3, okA_mask a2]
  rfl
end Go.Lg.B
namespace Go.Lg.B
open Go Go.Conc Go.Lg Go.Proofs Go.Proofs.Tryz
theorem casesL_len {b : Bk} (hb : b.good) : (casesL b).length ≤ 50000 := by
  have h1 := flat_bound (withFalse b) (49 * 27) (withFalse_len hb) ((sets b.f b.ws.length).filter (noSure b))
  have h2 : ((sets b.f b.ws.length).filter (noSure b)).length ≤ 32 := by
    refine Nat.le_trans (List.length_filter_le _ _) ?_
    have := sets_len b.f b.ws.length
    have hpow : 2 ^ b.ws.length ≤ 2 ^ 5 := Nat.pow_le_pow_right (by decide) hb.nw
    omega
  have h3 := Nat.mul_le_mul_right (49 * 27) h2
  unfold casesL; omega
theorem known_good {b : Bk} {th : Bool} (h : knownH b th = 0) : b.good ∧ th = true ∧ casesL b ≠ [] := by
  unfold knownH at h
  by_cases h1 : checkChart b ≠ 0
  · rw [if_pos h1] at h; exact absurd h h1
  · rw [if_neg h1] at h
    by_cases h2 : th = false
    · rw [if_pos h2] at h; cases h
    · rw [if_neg h2] at h
      by_cases h3 : casesL b = []
      · rw [if_pos h3] at h; cases h
      · exact ⟨good_iff.1 (by simpa using h1), by simpa using h2, h3⟩
section
variable {main : Bool} {J : Goroutine → Mem → Prop} (hJ : Closed prog main J)
include hJ
theorem falseInR_c {v : Value} {ro : RO} {l : List Cs} (hL : LC ro v l) (hn : l.length ≤ 1000000) (hf : ∀ c ∈ l, c.f.length ≤ 1000) (k : Int) : CallP prog J (fnv 113) [v, .int .i64 k] ro (.int .i64 (l.countP fun c => c.f.contains k : Nat)) := by
  obtain ⟨xs, hls, rfl, hel⟩ := hL
  rw [List.length_map] at hn
  have hls0 := hls
  obtain ⟨lb, lc, rfl⟩ := hls.form
  refine CallP.intro hJ (by kernel_rfl) fun c cs tail hret => enter_X (n := 23) func113 rfl rfl (Nl rfl) ?_
  have C : Ctx prog main J (bf 113 .normal) := ⟨hJ, by decide⟩
  refine Xr C rfl rfl <| Ad C rfl rfl <| Xr C rfl rfl <| Ad C rfl rfl <| Xs C <| Xr C rfl rfl <| Ad C rfl rfl <| X.block C.1 <| X.loopI (ι := Nat) C.1 (fun i => i ≤ xs.length) (fun i => [(0, .slice lb xs.length lc), (1, .int .i64 k), (5, .int .i64 (((xs.take i).map (·.2)).countP fun c => c.f.contains k : Nat)), (6, .int .i64 (i : Int))])
    (fun _ => ⟨ro, tail⟩) (fun i => xs.length - i) 0 (Nat.zero_le _) rfl ⟨rfl, rfl, rfl, rfl, trivial⟩ fun i hi hnext => ?_
  have hcb : ((xs.take i).map (·.2)).countP (fun c => c.f.contains k) ≤ xs.length := by
    refine Nat.le_trans List.countP_le_length ?_
    rw [List.length_map, List.length_take]; omega
  refine Xs C <| Xr C rfl rfl <| Rm C rfl rfl <| Rm C rfl rfl <| R.lenSlice C rfl rfl rfl runUnderlying122 <| R.int C rfl rfl rfl rfl b_lss <| R.done C <| X.cond C.1 rfl (fun hlt => ?_) (fun hlt => ?_)
  · have hlt := hlt
    simp only [decide_eq_true_eq] at hlt
    have hi' : i < xs.length := by omega
    obtain ⟨pp, off, cap, ll, t, fq, hsl, hrop, hsub⟩ := hls0.at ce_len (by omega)
    cases hsl
    have hq : ll[off + i * 4 + 3]? = some xs[i].1.2 := by simpa [ce] using (hsub i hi').get 3 (by decide)
    have hfi := hf _ (List.mem_map_of_mem (List.getElem_mem hi'))
    have hstep : ((xs.take (i + 1)).map (·.2)).countP (fun c => c.f.contains k) = ((xs.take i).map (·.2)).countP (fun c => c.f.contains k) + (if xs[i].2.f.contains k = true then 1 else 0) := by
      rw [List.take_add_one, List.getElem?_eq_getElem hi', List.map_append, List.countP_append]
      congr 1
      by_cases hm : xs[i].2.f.contains k = true <;> simp [hm]
    refine X.skip C.1 <| Xs C <| X.block C.1 <| Xr C rfl rfl <| Rm C rfl rfl <| Rm C rfl rfl <| Rx C rfl rfl rfl runUnderlying122 sizeOf30 <| R.fieldAddr C rfl rfl rfl runUnderlying30 rfl sizeOf28 rfl <| R.loadOneRo C rfl rfl rfl isAgg28 hrop hq <| Rm C rfl rfl <| R.callP C rfl rfl rfl rfl (holdsR_c hJ (hel _ (List.getElem_mem hi')).2 (by omega) k) <| R.done C <| X.cond C.1 rfl (fun he => ?_) (fun he => ?_)
    · have he := he
      rw [if_pos he] at hstep
      refine X.region C rfl rfl <| Rm C rfl rfl <| R.int C rfl rfl rfl rfl (b_add (by omega) (by omega)) <| Ad C rfl rfl <| X.inBlock C.1 <| X.region C rfl rfl <| Rm C rfl rfl <| R.int C rfl rfl rfl rfl (b_add (by omega) (by omega)) <| Ad C rfl rfl <| X.weaken ?_ (hnext (i + 1) hi' (by omega))
      exact ⟨rfl, rfl, by simp only [hstep]; simp [look], by simp [look], trivial⟩
    · have he := he
      rw [if_neg (by rw [he]; simp), Nat.add_zero] at hstep
      refine X.skip C.1 <| X.inBlock C.1 <| X.region C rfl rfl <| Rm C rfl rfl <| R.int C rfl rfl rfl rfl (b_add (by omega) (by omega)) <| Ad C rfl rfl <| X.weaken ?_ (hnext (i + 1) hi' (by omega))
      exact ⟨rfl, rfl, by simp only [hstep]; simp [look], by simp [look], trivial⟩
  · have hlt := hlt
    simp only [decide_eq_false_iff_not] at hlt
    obtain rfl : i = xs.length := by omega
    refine X.exit C.1 rfl <| Xr C rfl rfl <| Rm C rfl rfl <| Ad C rfl rfl <| Xt C func113 <| Hp hret ?_
    rw [List.take_length]; rfl
end
theorem casesL_f {b : Bk} (hb : b.good) : ∀ c ∈ casesL b, c.f.length ≤ 5 := by
  intro c hc
  obtain ⟨l, hl, h2⟩ := List.mem_flatMap.1 hc
  obtain ⟨s, _, h3⟩ := List.mem_flatMap.1 h2
  obtain ⟨o, _, rfl⟩ := List.mem_map.1 h3
  have := sets_each b.f b.ws.length l (List.mem_filter.1 hl).1
  have := hb.nw
  simp only; omega
section
variable {main : Bool} {J : Goroutine → Mem → Prop} (hJ : Closed prog main J)
include hJ
end
end Go.Lg.B
namespace Go.Lg.B
open Go Go.Conc Go.Lg Go.Proofs Go.Proofs.Tryz
theorem cases_len_eq {b : Bk} (hb : b.good) : (casesL b).length = (cases b).length := by
  have := (cases_perm hb).length_eq
  rwa [List.length_map] at this
theorem cases_nil_iff {b : Bk} (hb : b.good) : casesL b = [] ↔ cases b = [] := by
  have := cases_len_eq hb
  constructor
  · intro h; rw [h] at this; exact List.eq_nil_of_length_eq_zero this.symm
  · intro h; rw [h] at this; exact List.eq_nil_of_length_eq_zero this
theorem known_open (b : Bk) (th : Bool) : knownH b th = openH b (there th) := by
  unfold knownH openH
  by_cases h1 : checkChart b ≠ 0
  · rw [if_pos h1, if_pos h1]
  · rw [if_neg h1, if_neg h1]
    have hg := good_iff.1 (show checkChart b = 0 by simpa using h1)
    cases th
    · rfl
    · simp only [there, if_true]
      by_cases h : cases b = []
      · simp [h, (cases_nil_iff hg).2 h]
      · simp [h, mt (cases_nil_iff hg).1 h]
theorem known_open0 (b : Bk) : knownH b true = openH b 0 := known_open b true
theorem casesL_range {b : Bk} (hb : b.good) : ∀ c ∈ casesL b, ∀ k ∈ c.f, 0 ≤ k ∧ k < (b.ws.length : Int) := by
  intro c hc
  obtain ⟨l, hl, h2⟩ := List.mem_flatMap.1 hc
  obtain ⟨s, _, h3⟩ := List.mem_flatMap.1 h2
  obtain ⟨o, _, rfl⟩ := List.mem_map.1 h3
  exact sets_range b.f b.ws.length l (List.mem_filter.1 hl).1
end Go.Lg.B
namespace Go.Lg.B
open Go Go.Conc Go.Lg Go.Proofs Go.Proofs.Tryz
def soundP (b : Bk) (l : List Int) : Bool := !(withFalse b l).isEmpty
theorem andNot_bit (a c i : Nat) : (andNot a c).testBit i = (a.testBit i && !c.testBit i) := by
  simp only [andNot, Nat.testBit_xor, Nat.testBit_and]
  cases a.testBit i <;> cases c.testBit i <;> rfl
theorem everybody_bit (b : Bk) (i : Nat) : (everybody b).testBit i = decide (i < b.ws.length) := by
  rw [everybody, Nat.testBit_two_pow_sub_one]
theorem soundP_iff {b : Bk} {l : List Int} : soundP b l = true ↔ ∃ s ∈ squares b, ∃ o ∈ offsAll b.cs, ∀ i, i < b.ws.length → l.contains (i : Int) = false → right (b.wt i) (Cs.aim ⟨s, o, []⟩) = true := by
  unfold soundP withFalse withAt
  rw [Bool.not_eq_true', List.isEmpty_eq_false_iff_exists_mem]
  simp only [List.mem_flatMap, List.mem_map, List.mem_filter]
  have e : ∀ s o, allR b ⟨s, o, l⟩ = true ↔ ∀ i, i < b.ws.length → l.contains (i : Int) = false → right (b.wt i) (Cs.aim ⟨s, o, []⟩) = true := fun s o => by
    simp only [allR, List.all_eq_true, List.mem_range, Bool.or_eq_true]
    constructor
    · intro h i hi hc
      rcases h i hi with g | g
      · rw [hc] at g; cases g
      · exact g
    · intro h i hi
      cases hc : l.contains (i : Int)
      · exact .inr (h i hi hc)
      · exact .inl rfl
  constructor
  · rintro ⟨c, s, hs, o, ⟨ho, ha⟩, rfl⟩; exact ⟨s, hs, o, ho, (e s o).1 ha⟩
  · rintro ⟨s, hs, o, ho, ha⟩; exact ⟨_, s, hs, o, ⟨ho, (e s o).2 ha⟩, rfl⟩
theorem together_iff {b : Bk} (hb : b.good) (m : Nat) : together b m = true ↔ ∃ s ∈ squares b, ∃ o ∈ offsAll b.cs, ∀ i, i < b.ws.length → m.testBit i = true → right (b.wt i) (Cs.aim ⟨s, o, []⟩) = true := by
  unfold together
  rw [List.any_eq_true, aims_eq hb]
  simp only [List.mem_flatMap, List.mem_map]
  have e : ∀ a, (odd b a &&& m == 0) = true ↔ ∀ i, i < b.ws.length → m.testBit i = true → right (b.wt i) a = true := fun a => by
    rw [and_zero]
    simp only [odd, maskOf_bit, Bool.and_eq_true, decide_eq_true_eq, Bool.not_eq_true']
    constructor
    · intro h i hi hm
      cases hr : right (b.wt i) a
      · rw [h i ⟨hi, hr⟩] at hm; cases hm
      · rfl
    · rintro h i ⟨hi, hr⟩
      cases hm : m.testBit i
      · rfl
      · rw [h i hi hm] at hr; cases hr
  constructor
  · rintro ⟨a, ⟨s, hs, o, ho, rfl⟩, h⟩; exact ⟨s, hs, o, ho, (e _).1 h⟩
  · rintro ⟨s, hs, o, ho, h⟩; exact ⟨_, ⟨s, hs, o, ho, rfl⟩, (e _).2 h⟩
def othersL (l : List Int) (n : Nat) : List Int := (rz 0 n).filter fun k => !l.contains k
theorem others_in {l : List Int} {n i : Nat} (hi : i < n) : (othersL l n).contains (i : Int) = !l.contains (i : Int) := by
  rw [Bool.eq_iff_iff]
  simp only [othersL, List.contains_eq_mem, decide_eq_true_eq, List.mem_filter, rz_iff]
  constructor
  · exact fun h => h.2
  · exact fun h => ⟨⟨by omega, by omega⟩, h⟩
theorem fewP_mask {b : Bk} (hb : b.good) {l : List Int} (h : ∀ k ∈ l, 0 ≤ k ∧ k < (b.ws.length : Int)) : fewP b (maskL b.ws.length l) = soundP b l := by
  rw [Bool.eq_iff_iff, fewP, together_iff hb, soundP_iff]
  simp only [andNot_bit, everybody_bit, maskL_bit h, Bool.and_eq_true, decide_eq_true_eq, Bool.not_eq_true']
  constructor
  · rintro ⟨s, hs, o, ho, hh⟩; exact ⟨s, hs, o, ho, fun i hi hc => hh i hi ⟨hi, hc⟩⟩
  · rintro ⟨s, hs, o, ho, hh⟩; exact ⟨s, hs, o, ho, fun i hi hc => hh i hi hc.2⟩
theorem clashP_mask {b : Bk} (hb : b.good) {l : List Int} (h : ∀ k ∈ l, 0 ≤ k ∧ k < (b.ws.length : Int)) : clashP b (maskL b.ws.length l) = !soundP b (othersL l b.ws.length) := by
  rw [clashP]
  congr 1
  rw [Bool.eq_iff_iff, together_iff hb, soundP_iff]
  simp only [maskL_bit h]
  constructor
  · rintro ⟨s, hs, o, ho, hh⟩; exact ⟨s, hs, o, ho, fun i hi hc => hh i hi (by rw [others_in hi] at hc; simpa using hc)⟩
  · rintro ⟨s, hs, o, ho, hh⟩; exact ⟨s, hs, o, ho, fun i hi hc => hh i hi (by rw [others_in hi, hc]; rfl)⟩
theorem sound_nil {b : Bk} (hb : b.good) : soundP b [] = together b (everybody b) := by
  rw [Bool.eq_iff_iff, together_iff hb, soundP_iff]
  simp only [everybody_bit, decide_eq_true_eq]
  constructor
  · rintro ⟨s, hs, o, ho, hh⟩; exact ⟨s, hs, o, ho, fun i hi _ => hh i hi rfl⟩
  · rintro ⟨s, hs, o, ho, hh⟩; exact ⟨s, hs, o, ho, fun i hi _ => hh i hi hi⟩
theorem others_all (n : Nat) : othersL (rz 0 n) n = [] := by
  rw [othersL, List.filter_eq_nil_iff]
  intro k hk
  simp [hk]
theorem sound_all {b : Bk} (hb : b.good) : soundP b (rz 0 b.ws.length) = true := by
  have := together_zero hb
  rw [together_iff hb] at this
  rw [soundP_iff]
  obtain ⟨s, hs, o, ho, _⟩ := this
  refine ⟨s, hs, o, ho, fun i hi hc => ?_⟩
  have : (rz 0 b.ws.length).contains (i : Int) = true := by simp [rz_iff]; omega
  rw [this] at hc; cases hc
def pickIf (p : List Int → Bool) (o y : List Int) : List Int := if smaller y o = true ∧ p y = true then y else o
def bestIf (p : List Int → Bool) (o : List Int) (L : List (List Int)) : List Int := L.foldl (pickIf p) o
theorem bestIf_eq (p : List Int → Bool) : ∀ (L : List (List Int)) (o : List Int), bestIf p o L = bestFrom o (L.filter p)
  | [], _ => rfl
  | y :: L, o => by
    have ih := bestIf_eq p L
    show bestIf p (pickIf p o y) L = _
    rw [ih]
    by_cases h : p y = true
    · rw [List.filter_cons_of_pos h]
      show _ = bestFrom (pick o y) _
      simp only [pickIf, pick, h, and_true]
    · rw [List.filter_cons_of_neg h]
      simp only [pickIf, h, and_false, if_false, Bool.false_eq_true]
theorem bestIf_take {p : List Int → Bool} {o : List Int} {L : List (List Int)} {i : Nat} (h : i < L.length) : bestIf p o (L.take (i + 1)) = pickIf p (bestIf p o (L.take i)) L[i] := by
  unfold bestIf
  rw [List.take_succ_eq_append_getElem h, List.foldl_append]; rfl
theorem up_len : ∀ (l : List Int) (a : Int) (n : Nat), List.Pairwise (· < ·) l → (∀ k ∈ l, a ≤ k ∧ k < a + n) → l.length ≤ n
  | [], _, _, _, _ => Nat.zero_le _
  | x :: l, a, n, h, hr => by
    obtain ⟨h1, h2⟩ := List.pairwise_cons.1 h
    have hx := hr x List.mem_cons_self
    have := up_len l (x + 1) (a + n - (x + 1)).toNat h2 fun k hk => by
      have := h1 k hk
      have := hr k (List.mem_cons_of_mem _ hk)
      omega
    rw [List.length_cons]; omega
theorem rz_up : ∀ (m : Nat) (n : Int), List.Pairwise (· < ·) (rz n m)
  | 0, _ => .nil
  | m + 1, n => by
    rw [rz]
    exact List.pairwise_cons.2 ⟨fun k hk => by rw [rz_iff] at hk; omega, rz_up m (n + 1)⟩
theorem sets_all {n : Nat} {l : List Int} : l ∈ sets (n : Int) n ↔ List.Pairwise (· < ·) l ∧ ∀ k ∈ l, 0 ≤ k ∧ k < (n : Int) := by
  rw [sets_iff (by omega)]
  constructor
  · exact fun h => ⟨h.1, h.2.1⟩
  · exact fun h => ⟨h.1, h.2, by have := up_len l 0 n h.1 fun k hk => by have := h.2 k hk; omega
                                 omega⟩
theorem listOf_range {n m : Nat} (h : m < 2 ^ n) : ∀ k ∈ listOf m, 0 ≤ k ∧ k < (n : Int) := fun k hk => by
  obtain ⟨i, _, hi, rfl⟩ := (bits_mem m k 5).1 hk
  refine ⟨by omega, ?_⟩
  by_cases hlt : i < n
  · omega
  · have : m.testBit i = false := Nat.testBit_lt_two_pow (Nat.lt_of_lt_of_le h (Nat.pow_le_pow_right (by decide) (by omega)))
    rw [this] at hi; cases hi
theorem maskL_listOf {n m : Nat} (hn : n ≤ 5) (h : m < 2 ^ n) : maskL n (listOf m) = m := by
  refine Nat.eq_of_testBit_eq fun i => ?_
  rw [maskL_bit (listOf_range h), Bool.eq_iff_iff]
  simp only [List.contains_eq_mem, decide_eq_true_eq]
  constructor
  · intro h
    obtain ⟨j, _, hj, e⟩ := (bits_mem m _ 5).1 h
    have : i = j := by omega
    rw [this]; exact hj
  · intro hi
    refine (bits_mem m _ 5).2 ⟨i, ?_, hi, rfl⟩
    by_cases hlt : i < 5
    · exact hlt
    · have : m.testBit i = false := Nat.testBit_lt_two_pow (Nat.lt_of_lt_of_le h (Nat.pow_le_pow_right (by decide) (by omega)))
      rw [this] at hi; cases hi
theorem lists_mem {b : Bk} (hb : b.good) {P : Nat → Bool} {p : List Int → Bool} (hP : ∀ l, (∀ k ∈ l, 0 ≤ k ∧ k < (b.ws.length : Int)) → P (maskL b.ws.length l) = p l) (x : List Int) : x ∈ listsOf b P ↔ x ∈ sets (b.ws.length : Int) b.ws.length ∧ p x = true := by
  have hn := hb.nw
  rw [sets_all]
  simp only [listsOf, List.mem_map, List.mem_filter, List.mem_range]
  constructor
  · rintro ⟨m, ⟨hm, hp⟩, rfl⟩
    exact ⟨⟨bits_up m 5, listOf_range hm⟩, by rw [← hP _ (listOf_range hm), maskL_listOf hn hm]; exact hp⟩
  · rintro ⟨⟨h1, h2⟩, h3⟩
    exact ⟨maskL b.ws.length x, ⟨maskOf_lt _ _, by rw [hP _ h2]; exact h3⟩, listOf_maskL hn h1 h2⟩
theorem best_law {b : Bk} (hb : b.good) {P : Nat → Bool} {p : List Int → Bool} (hP : ∀ l, (∀ k ∈ l, 0 ≤ k ∧ k < (b.ws.length : Int)) → P (maskL b.ws.length l) = p l) (hu : p (rz 0 b.ws.length) = true) : bestOf (listsOf b P) = bestIf p (rz 0 b.ws.length) (sets (b.ws.length : Int) b.ws.length) := by
  rw [bestIf_eq]
  have ⟨h1, h2⟩ := bestFrom_least ((sets (b.ws.length : Int) b.ws.length).filter p) (rz 0 b.ws.length)
  have hall : rz 0 b.ws.length ∈ sets (b.ws.length : Int) b.ws.length := sets_all.2 ⟨rz_up _ _, fun k hk => by rw [rz_iff] at hk; omega⟩
  refine bestOf_unique ((lists_mem hb hP _).2 ?_) fun x hx => h2 x (List.mem_cons_of_mem _ (List.mem_filter.2 ((lists_mem hb hP x).1 hx)))
  rcases List.mem_cons.1 h1 with h | h
  · rw [h]; exact ⟨hall, hu⟩
  · exact List.mem_filter.1 h
theorem fewest_law {b : Bk} (hb : b.good) : bestOf (listsOf b (fewP b)) = bestIf (soundP b) (rz 0 b.ws.length) (sets (b.ws.length : Int) b.ws.length) :=
  best_law hb (fun _ h => fewP_mask hb h) (sound_all hb)
theorem clash_law {b : Bk} (hb : b.good) (hs : soundP b [] = false) : bestOf (listsOf b (clashP b)) = bestIf (fun l => !soundP b (othersL l b.ws.length)) (rz 0 b.ws.length) (sets (b.ws.length : Int) b.ws.length) :=
  best_law hb (fun _ h => clashP_mask hb h) (by rw [others_all, hs]; rfl)
theorem together_less {b : Bk} (hb : b.good) {m : Nat} (hs : together b (everybody b) = true) : together b m = true := by
  rw [together_iff hb] at hs ⊢
  obtain ⟨s, h1, o, h2, h3⟩ := hs
  exact ⟨s, h1, o, h2, fun i hi _ => h3 i hi (by rw [everybody_bit]; simpa using hi)⟩
theorem clash_none {b : Bk} (hb : b.good) (hs : soundP b [] = true) : bestOf (listsOf b (clashP b)) = [] := by
  have : listsOf b (clashP b) = [] := by
    unfold listsOf
    rw [List.map_eq_nil_iff, List.filter_eq_nil_iff]
    intro m _
    rw [clashP, together_less hb (by rw [← sound_nil hb]; exact hs)]; simp
  rw [this]; rfl
theorem cnt_law {b : Bk} (hb : b.good) (i : Nat) : cnt (cases b) i = (casesL b).countP fun c => c.f.contains (i : Int) := by
  rw [cnt, ← (cases_perm hb).countP_eq, List.countP_map]
  refine List.countP_congr fun c hc => ?_
  show (maskL b.ws.length c.f).testBit i = true ↔ _
  rw [maskL_bit (casesL_range hb c hc)]
end Go.Lg.B
namespace Go.Lg.B
open Go Go.Conc Go.Lg Go.Proofs Go.Proofs.Tryz
theorem others_succ (l : List Int) (i : Nat) : othersL l (i + 1) = othersL l i ++ (if l.contains (i : Int) = false then [(i : Int)] else []) := by
  unfold othersL
  rw [rz_take, List.filter_append, Int.zero_add]
  congr 1
  by_cases h : l.contains (i : Int) = false
  · rw [if_pos h, List.filter_cons_of_pos (by rw [h]; rfl), List.filter_nil]
  · rw [if_neg h, List.filter_cons_of_neg (by simpa using h), List.filter_nil]
theorem others_len (l : List Int) (n : Nat) : (othersL l n).length ≤ n := by
  have := List.length_filter_le (fun k => !l.contains k) (rz 0 n)
  rwa [rz_len] at this
section
variable {main : Bool} {J : Goroutine → Mem → Prop} (hJ : Closed prog main J)
include hJ
theorem uptoR_c {n : Nat} (hn : n ≤ 1000) {ro : RO} : CallR prog J (fnv 132) [.int .i64 (n : Int)] ro (fun w ro' => LsI ro' w (rz 0 n)) := by
  refine CallR.intro hJ (by kernel_rfl) fun c cs tail hret => enter_X (n := 15) func132 rfl rfl (Nl rfl) ?_
  have C : Ctx prog main J (bf 132 .normal) := ⟨hJ, by decide⟩
  refine Xr C rfl rfl <| Ad C rfl rfl <| Xr C rfl rfl <| Ad C rfl rfl <| Xs C <| Xr C rfl rfl <| Ad C rfl rfl <| X.block C.1 <| X.loopI (ι := Nat × Value × List (Nat × Obj)) C.1 (fun s => s.1 ≤ n ∧ Buf 3 1 [] s.2.1 ((rz 0 s.1).flatMap ic) s.2.2) (fun s => [(0, .int .i64 (n : Int)), (3, s.2.1), (4, .int .i64 (s.1 : Int))])
    (fun s => ⟨ro, s.2.2 ++ tail⟩) (fun s => n - s.1) (0, .slice none 0 0, []) ⟨Nat.zero_le _, .nil⟩ rfl ⟨rfl, rfl, rfl, trivial⟩ fun s hs hnext => ?_
  obtain ⟨i, v2, own2⟩ := s
  obtain ⟨hi, hb2⟩ := hs
  simp only at hi hb2 hnext ⊢
  have hfl : ((rz 0 i).flatMap ic).length = i := by rw [flat_len, rz_len]
  have hcat : (rz 0 i).flatMap ic ++ [Value.int .i64 (i : Int)] = (rz 0 (i + 1)).flatMap ic := by rw [rz_take, List.flatMap_append, Int.zero_add]; rfl
  refine Xs C <| Xr C rfl rfl <| Rm C rfl rfl <| Rm C rfl rfl <| R.int C rfl rfl rfl rfl b_lss <| R.done C <| X.cond C.1 rfl (fun hlt => ?_) (fun hlt => ?_)
  · have hlt := hlt
    simp only [decide_eq_true_eq] at hlt
    have hi' : i < n := by omega
    refine X.skip C.1 <| Xs C <| X.block C.1 <| X.region C rfl rfl <| Rm C rfl rfl <| Rm C rfl rfl <| R.buildSlice C (vs := _) rfl rfl (show pvals _ _ = some (numbered 0 [_]) from rfl) rfl runUnderlying28 sizeOf3 zeroValue3 (by decide) (Cat.one rfl rfl) fun p12 => R.append1 (kk := 1) C rfl rfl rfl rfl runUnderlying28 runUnderlying28 (fun _ => nofun) (show prog.info? 3 = some Tryz.t3 by kernel_rfl) rfl rfl rfl (by decide) (by decide) (hb2.app _) rfl rfl (by simp only [List.length_append, List.length_cons, List.length_nil]; omega) fun v' own' hb' => Ad C rfl rfl <| X.inBlock C.1 <| X.region C rfl rfl <| Rm C rfl rfl <| R.int C rfl rfl rfl rfl (b_add (by omega) (by omega)) <| Ad C rfl rfl ?_
    obtain ⟨own3, rfl, hb3⟩ := Buf.unapp (tail := []) hb'
    rw [hcat] at hb3
    refine X.weaken ?_ (hnext (i + 1, _, own3) ⟨hi', hb3⟩ (by omega))
    exact ⟨rfl, rfl, by simp [look], trivial⟩
  · have hlt := hlt
    simp only [decide_eq_false_iff_not] at hlt
    obtain rfl : i = n := by omega
    refine X.exit C.1 rfl <| Xr C rfl rfl <| R.finish C.1 ic_len (by decide) (hb2.app _) fun ro4 hl4 hls4 => Rm C rfl rfl <| Ad C rfl rfl <| Xt C func132 <| Hr hret hl4 ?_
    exact hls4
theorem othersR_c {l : List Int} {v : Value} {ro : RO} (hl : LsI ro v l) (hn1 : l.length ≤ 1000000) {n : Nat} (hn : n ≤ 1000) : CallR prog J (fnv 71) [v, .int .i64 (n : Int)] ro (fun w ro' => LsI ro' w (othersL l n)) := by
  have hl0 := hl
  obtain ⟨lb, lc, rfl⟩ := hl.form
  refine CallR.intro hJ (by kernel_rfl) fun c cs tail hret => enter_X (n := 21) func71 rfl rfl (Nl rfl) ?_
  have C : Ctx prog main J (bf 71 .normal) := ⟨hJ, by decide⟩
  refine Xr C rfl rfl <| Ad C rfl rfl <| Xr C rfl rfl <| Ad C rfl rfl <| Xs C <| Xr C rfl rfl <| Ad C rfl rfl <| X.block C.1 <| X.loopI (ι := Nat × Value × List (Nat × Obj)) C.1 (fun s => s.1 ≤ n ∧ Buf 3 1 [] s.2.1 ((othersL l s.1).flatMap ic) s.2.2) (fun s => [(0, .slice lb l.length lc), (1, .int .i64 (n : Int)), (5, s.2.1), (6, .int .i64 (s.1 : Int))])
    (fun s => ⟨ro, s.2.2 ++ tail⟩) (fun s => n - s.1) (0, .slice none 0 0, []) ⟨Nat.zero_le _, .nil⟩ rfl ⟨rfl, rfl, rfl, rfl, trivial⟩ fun s hs hnext => ?_
  obtain ⟨i, v2, own2⟩ := s
  obtain ⟨hi, hb2⟩ := hs
  simp only at hi hb2 hnext ⊢
  have hol := others_len l i
  have hfl : ((othersL l i).flatMap ic).length ≤ i := by rw [flat_len]; exact hol
  have hstep := others_succ l i
  refine Xs C <| Xr C rfl rfl <| Rm C rfl rfl <| Rm C rfl rfl <| R.int C rfl rfl rfl rfl b_lss <| R.done C <| X.cond C.1 rfl (fun hlt => ?_) (fun hlt => ?_)
  · have hlt := hlt
    simp only [decide_eq_true_eq] at hlt
    have hi' : i < n := by omega
    refine X.skip C.1 <| Xs C <| X.block C.1 <| Xr C rfl rfl <| Rm C rfl rfl <| Rm C rfl rfl <| R.callP C rfl rfl rfl rfl (holdsR_c hJ hl0 hn1 _) <| R.not C rfl rfl rfl <| R.done C <| X.cond C.1 rfl (fun hq => ?_) (fun hq => ?_)
    · have hq := hq
      simp only [Bool.not_eq_true'] at hq
      rw [if_pos hq] at hstep
      refine X.region C rfl rfl <| Rm C rfl rfl <| Rm C rfl rfl <| R.buildSlice C (vs := _) rfl rfl (show pvals _ _ = some (numbered 0 [_]) from rfl) rfl runUnderlying28 sizeOf3 zeroValue3 (by decide) (Cat.one rfl rfl) fun p18 => R.append1 (kk := 1) C rfl rfl rfl rfl runUnderlying28 runUnderlying28 (fun _ => nofun) (show prog.info? 3 = some Tryz.t3 by kernel_rfl) rfl rfl rfl (by decide) (by decide) (hb2.app _) rfl rfl (by simp only [List.length_append, List.length_cons, List.length_nil]; omega) fun v' own' hb' => Ad C rfl rfl <| X.inBlock C.1 <| X.region C rfl rfl <| Rm C rfl rfl <| R.int C rfl rfl rfl rfl (b_add (by omega) (by omega)) <| Ad C rfl rfl ?_
      obtain ⟨own3, rfl, hb3⟩ := Buf.unapp (tail := []) hb'
      have hcat : (othersL l i).flatMap ic ++ [Value.int .i64 (i : Int)] = (othersL l (i + 1)).flatMap ic := by rw [hstep, List.flatMap_append]; rfl
      rw [hcat] at hb3
      refine X.weaken ?_ (hnext (i + 1, _, own3) ⟨hi', hb3⟩ (by omega))
      exact ⟨rfl, rfl, rfl, by simp [look], trivial⟩
    · have hq := hq
      simp only [Bool.not_eq_false'] at hq
      rw [if_neg (by rw [hq]; decide), List.append_nil] at hstep
      refine X.skip C.1 <| X.inBlock C.1 <| X.region C rfl rfl <| Rm C rfl rfl <| R.int C rfl rfl rfl rfl (b_add (by omega) (by omega)) <| Ad C rfl rfl <| X.weaken ?_ (hnext (i + 1, v2, own2) ⟨hi', by rw [hstep]; exact hb2⟩ (by omega))
      exact ⟨rfl, rfl, rfl, by simp [look], trivial⟩
  · have hlt := hlt
    simp only [decide_eq_false_iff_not] at hlt
    obtain rfl : i = n := by omega
    refine X.exit C.1 rfl <| Xr C rfl rfl <| R.finish C.1 ic_len (by decide) (hb2.app _) fun ro4 hl4 hls4 => Rm C rfl rfl <| Ad C rfl rfl <| Xt C func71 <| Hr hret hl4 ?_
    exact hls4
theorem smallerR_c {va vb : Value} {ro : RO} {a d : List Int} (ha : LsI ro va a) (hc : LsI ro vb d) (h1 : a.length ≤ 1000000) (h2 : d.length ≤ 1000000) : CallP prog J (fnv 73) [va, vb] ro (.bool (smaller a d)) := by
  have ha0 := ha
  have hc0 := hc
  obtain ⟨ab, ac, rfl⟩ := ha.form
  obtain ⟨db, dc, rfl⟩ := hc.form
  have hsm : smaller a d = (decide ((a.length : Int) < d.length) || (((a.length : Int) == d.length) && earlier a d)) := by
    unfold smaller earlier
    congr 1
    · rw [decide_eq_decide]; omega
    · congr 1
      rw [Bool.eq_iff_iff]; simp
      omega
  rw [hsm]
  refine CallP.intro hJ (by kernel_rfl) fun c cs tail hret => enter_X (n := 22) func73 rfl rfl (Nl rfl) ?_
  have C : Ctx prog main J (bf 73 .normal) := ⟨hJ, by decide⟩
  refine Xr C rfl rfl <| Ad C rfl rfl <| Xr C rfl rfl <| Rm C rfl rfl <| R.lenSlice C rfl rfl rfl runUnderlying28 <| Rm C rfl rfl <| R.lenSlice C rfl rfl rfl runUnderlying28 <| R.int C rfl rfl rfl rfl b_lss <| Rm C rfl rfl <| R.fix (t := 10) rfl (fun q1 => ?_) (fun q1 => ?_)
  · have q1 := q1
    refine R.pass C rfl rfl <| R.pass C rfl rfl <| R.pass C rfl rfl <| R.pass C rfl rfl <| R.pass C rfl rfl <| R.pass C rfl rfl <| R.pass C rfl rfl <| R.pass C rfl rfl <| R.pass C rfl rfl <| R.pass C rfl rfl <| R.pickT C rfl rfl rfl rfl <| Ad C rfl rfl <| Xt C func73 <| Hp hret ?_
    first | (simp_all [retVal]; done)
  · have q1 := q1
    refine Rm C rfl rfl <| R.lenSlice C rfl rfl rfl runUnderlying28 <| Rm C rfl rfl <| R.lenSlice C rfl rfl rfl runUnderlying28 <| R.int C rfl rfl rfl rfl b_eql <| Rm C rfl rfl <| R.fix (t := 16) rfl (fun q2 => ?_) (fun q2 => ?_)
    · have q2 := q2
      refine Rm C rfl rfl <| Rm C rfl rfl <| R.callP C rfl rfl rfl rfl (earlier_c hJ ha0 hc0 h1 h2) <| R.pickT C rfl rfl rfl rfl <| R.pickF C rfl rfl rfl rfl <| Ad C rfl rfl <| Xt C func73 <| Hp hret ?_
      first | (simp_all [retVal]; done)
    · have q2 := q2
      refine R.pass C rfl rfl <| R.pass C rfl rfl <| R.pass C rfl rfl <| R.pickF C rfl rfl rfl rfl <| R.pickF C rfl rfl rfl rfl <| Ad C rfl rfl <| Xt C func73 <| Hp hret ?_
      first | (simp_all [retVal]; done)
theorem soundOfR_c {b : Bk} {v vl : Value} {ro : RO} {l : List Int} (hv : BkV ro v b) (hb : b.good) (hl : LsI ro vl l) (hn : l.length ≤ 1000) : CallR prog J (fnv 131) [v, vl] ro (fun w _ => w = .bool (soundP b l)) := by
  have hvv := hv
  obtain ⟨vc, vw, rfl, hc, hw⟩ := hv
  have hl0 := hl
  obtain ⟨lb, lc, rfl⟩ := hl.form
  refine CallR.intro hJ (by kernel_rfl) fun c cs tail hret => enter_X (n := 10) func131 rfl rfl (Nl rfl) ?_
  have C : Ctx prog main J (bf 131 .normal) := ⟨hJ, by decide⟩
  refine Xr C rfl rfl <| R.box C rfl rfl rfl rfl fun p2 => Ad C rfl rfl <| Xr C rfl rfl <| R.loadAgg C rfl rfl rfl isAgg25 sizeOf25 (by repeat (first | exact Mh | apply Mt)) Tk5 <| Rm C rfl rfl <| R.callR C rfl rfl rfl rfl ((withFalseR_c hJ hvv hb hl0 hn)) fun vW roW hlW hW => ?_
  obtain ⟨xW, hWL, hxW, _⟩ := hW
  have hxl := congrArg List.length hxW
  rw [List.length_map] at hxl
  have hwl := withFalse_len hb l
  obtain ⟨wb, wc, rfl⟩ := hWL.form
  have e : soundP b l = decide ((xW.length : Int) > 0) := by
    rw [soundP, hxl]
    cases withFalse b l <;> simp
  refine R.lenSlice C rfl rfl rfl runUnderlying122 <| R.int C rfl rfl rfl rfl b_gtr <| Ad C rfl rfl <| Xt C func131 <| Hr hret hlW ?_
  rw [e]; rfl
theorem soundR_c {b : Bk} {v : Value} {ro : RO} (hv : BkV ro v b) (hs : b.short) : CallR prog J (fnv 65) [v] ro (fun w _ => w = .tuple [.bool (sound b).1, .int .i64 (sound b).2].toArray) := by
  have hvv := hv
  obtain ⟨vc, vw, rfl, hc, hw⟩ := hv
  refine CallR.intro hJ (by kernel_rfl) fun c cs tail hret => enter_X (n := 12) func65 rfl rfl (Nl rfl) ?_
  have C : Ctx prog main J (bf 65 .normal) := ⟨hJ, by decide⟩
  refine Xr C rfl rfl <| R.box C rfl rfl rfl rfl fun p1 => R.asg C rfl rfl rfl <| Ad C rfl rfl <| Xs C <| Xr C rfl rfl <| R.loadAgg C rfl rfl rfl isAgg25 sizeOf25 (by repeat (first | exact Mh | apply Mt)) Tk5 <| R.callP C rfl rfl rfl rfl (checkChartR_c hJ (by assumption) (by assumption)) <| Ad C rfl rfl <| Xr C rfl rfl <| Rm C rfl rfl <| R.int C rfl rfl rfl rfl b_neq <| R.done C <| X.cond C.1 rfl (fun hh => ?_) (fun hh => ?_)
  · have hh := hh
    simp at hh
    refine Xr C rfl rfl <| Rm C rfl rfl <| R.asg C rfl rfl rfl <| Ad C rfl rfl <| X.ret C rfl rfl func65 rfl (by exact (.tmp rfl (.tmp rfl .nil))) <| Hr hret (RO.le_refl _) ?_
    rw [sound, if_pos hh]; rfl
  · have hh := hh
    simp at hh
    have hb := good_iff.1 hh
    refine X.skip C.1 <| Xr C rfl rfl <| R.loadAgg C rfl rfl rfl isAgg25 sizeOf25 (by repeat (first | exact Mh | apply Mt)) Tk5 <| R.callR C rfl rfl rfl rfl ((soundOfR_c hJ hvv hb Ls.nil (Nat.zero_le _))) fun v1 ro1 hl1 hp1 => R.asg C rfl rfl rfl <| Ad C rfl rfl ?_
    subst hp1
    refine X.ret C rfl rfl func65 rfl (by exact (.tmp rfl (.tmp rfl .nil))) <| Hr hret hl1 ?_
    rw [sound, if_neg (by simp [hh]), ← sound_nil hb]; rfl
end
end Go.Lg.B
namespace Go.Lg.B
open Go Go.Conc Go.Lg Go.Proofs Go.Proofs.Tryz
theorem bestIf_len {p : List Int → Bool} {n : Nat} {L : List (List Int)} (hL : ∀ x ∈ L, x.length ≤ n) : (bestIf p (rz 0 n) L).length ≤ n := by
  rw [bestIf_eq]
  rcases List.mem_cons.1 (bestFrom_least (L.filter p) (rz 0 n)).1 with h | h
  · rw [h, rz_len]; exact Nat.le_refl _
  · exact hL _ (List.mem_filter.1 h).1
section
variable {main : Bool} {J : Goroutine → Mem → Prop} (hJ : Closed prog main J)
include hJ
theorem fewestR_c {b : Bk} {v : Value} {ro : RO} (hv : BkV ro v b) (hs : b.short) : CallR prog J (fnv 66) [v] ro (fun w ro' => ∃ vl, LsI ro' vl (fewest b).1 ∧ w = .tuple [vl, .int .i64 (fewest b).2].toArray) := by
  have hvv := hv
  obtain ⟨vc, vw, rfl, hc, hw⟩ := hv
  obtain ⟨cb, cc, rfl⟩ := hc.form
  obtain ⟨wb, wc, rfl⟩ := hw.form
  refine CallR.intro hJ (by kernel_rfl) fun c cs tail hret => enter_X (n := 47) func66 rfl rfl (Nl rfl) ?_
  have C : Ctx prog main J (bf 66 .normal) := ⟨hJ, by decide⟩
  refine Xr C rfl rfl <| R.box C rfl rfl rfl rfl fun p1 => R.asg C rfl rfl rfl <| Ad C rfl rfl <| Xs C <| Xr C rfl rfl <| R.loadAgg C rfl rfl rfl isAgg25 sizeOf25 (by repeat (first | exact Mh | apply Mt)) Tk5 <| R.callP C rfl rfl rfl rfl (checkChartR_c hJ (by assumption) (by assumption)) <| Ad C rfl rfl <| Xr C rfl rfl <| Rm C rfl rfl <| R.int C rfl rfl rfl rfl b_neq <| R.done C <| X.cond C.1 rfl (fun hh => ?_) (fun hh => ?_)
  · have hh := hh
    simp at hh
    refine Xr C rfl rfl <| Rm C rfl rfl <| R.asg C rfl rfl rfl <| Ad C rfl rfl <| X.ret C rfl rfl func66 rfl (by exact (.tmp rfl (.tmp rfl .nil))) <| Hr hret (RO.le_refl _) ?_
    exact ⟨_, by rw [fewest, if_pos hh]; exact Ls.nil, by rw [fewest, if_pos hh]; rfl⟩
  · have hh := hh
    simp at hh
    have hb := good_iff.1 hh
    have hnw := hb.nw
    have hfin : fewest b = (bestOf (listsOf b (fewP b)), 0) := by rw [fewest, if_neg (by simp [hh])]
    rw [hfin] at hret
    have hse := sets_each (b.ws.length : Int) b.ws.length
    refine X.skip C.1 <| Xr C rfl rfl <| Rf C 4 rfl rfl runUnderlying25 rfl sizeOf23 <| R.loadOne C rfl rfl rfl isAgg23 (by repeat (first | exact Mh | apply Mt)) rfl <| R.lenSlice C rfl rfl rfl runUnderlying23 <| Ad C rfl rfl <| Xr C rfl rfl <| Rm C rfl rfl <| R.callR C rfl rfl rfl rfl ((uptoR_c hJ (n := b.ws.length) (by omega))) fun vU roU hlU hU => Rm C rfl rfl <| Rm C rfl rfl <| R.callR C rfl rfl rfl rfl ((setsR_c hJ (n := b.ws.length) (most := (b.ws.length : Int)) hnw)) fun vT roT hlT hT => R.asg C rfl rfl rfl <| Ad C rfl rfl <| Xs C <| Xr C rfl rfl <| Ad C rfl rfl <| X.block C.1 ?_
    obtain ⟨xT, hTL, hxT, hlT2⟩ := hT
    have hTL0 := hTL
    obtain ⟨tb, tc, rfl⟩ := hTL.form
    have hxTl := congrArg List.length hxT
    rw [List.length_map] at hxTl
    have hsl := sets_len (b.ws.length : Int) b.ws.length
    have hpow : 2 ^ b.ws.length ≤ 2 ^ 5 := Nat.pow_le_pow_right (by decide) hnw
    have hv0 := (hvv.mono hlU).mono hlT
    have hUT := hU.mono hlT
    obtain ⟨ub, uc, rfl⟩ := hU.form
    refine X.loopI (ι := Nat × RO × Value) C.1 (fun s => s.1 ≤ xT.length ∧ roT.le s.2.1 ∧ LsI s.2.1 s.2.2 (bestIf (soundP b) (rz 0 b.ws.length) ((sets (b.ws.length : Int) b.ws.length).take s.1))) (fun s => [(1, .pointer (some ⟨p1, 0, none⟩)), (6, s.2.2), (7, .slice tb xT.length tc), (8, .int .i64 (s.1 : Int))])
      (fun s => ⟨s.2.1, (p1, .cells [.int .i64 b.w, .int .i64 b.h, .int .i64 b.f, .slice cb b.cs.length cc, .slice wb b.ws.length wc].toArray 25 (0, 0)) :: tail⟩) (fun s => xT.length - s.1) (0, roT, _) ⟨Nat.zero_le _, RO.le_refl _, hUT⟩ rfl ⟨rfl, rfl, rfl, rfl, trivial⟩ fun s hs hnext => ?_
    obtain ⟨i, ro1, v1⟩ := s
    obtain ⟨hi, hle1, hL1⟩ := hs
    simp only at hi hle1 hL1 hnext ⊢
    have hL10 := hL1
    have hbl := bestIf_len (p := soundP b) (n := b.ws.length) (L := (sets (b.ws.length : Int) b.ws.length).take i) fun x hx => hse x (List.mem_of_mem_take hx)
    obtain ⟨b1, c1, rfl⟩ := hL1.form
    refine Xs C <| Xr C rfl rfl <| Rm C rfl rfl <| Rm C rfl rfl <| R.lenSlice C rfl rfl rfl runUnderlying149 <| R.int C rfl rfl rfl rfl b_lss <| R.done C <| X.cond C.1 rfl (fun hlt => ?_) (fun hlt => ?_)
    · have hlt := hlt
      simp only [decide_eq_true_eq] at hlt
      have hi' : i < xT.length := by omega
      have hi1 : i < (sets (b.ws.length : Int) b.ws.length).length := by omega
      have hstep := bestIf_take (p := soundP b) (o := rz 0 b.ws.length) hi1
      have hxi : xT[i].2 = (sets (b.ws.length : Int) b.ws.length)[i] := by
        have h1 : (xT.map (·.2))[i]? = some (sets (b.ws.length : Int) b.ws.length)[i] := by rw [hxT, List.getElem?_eq_getElem hi1]
        rw [List.getElem?_map, List.getElem?_eq_getElem hi'] at h1
        simpa using h1
      have hli := hlT2 _ (List.getElem_mem hi')
      have hle5 := hse _ (List.getElem_mem hi1)
      rw [← hxi] at hstep hle5
      obtain ⟨pa, offa, capa, lla, ta, fqa, hsla, hropa, hsuba⟩ := hTL0.at le_len (by omega)
      cases hsla
      have hx := le_at hsuba hi'
      generalize hL : xT[i].2 = l at hli hstep hle5
      generalize xT[i].1 = vk at hx hli
      have hli1 := hli.mono hle1
      have hli10 := hli1
      obtain ⟨bk, ck, rfl⟩ := hli1.form
      have hv1 := hv0.mono hle1
      generalize hBB : bestIf (soundP b) (rz 0 b.ws.length) ((sets (b.ws.length : Int) b.ws.length).take i) = B at hstep hL10 hbl
      refine X.skip C.1 <| Xs C <| X.block C.1 <| Xs C <| Xd C fun hok => Dm C 0 hok rfl rfl rfl <| Dm C 1 hok rfl rfl rfl <| Dx C 2 hok rfl rfl rfl runUnderlying149 sizeOf28 <| Dl 3 hok (fun _ _ A h => R.loadOneRo C rfl (A.w rfl rfl) (A.x rfl rfl) isAgg28 (hle1 _ _ hropa) hx h) <| Dm C 4 hok rfl rfl rfl <| De 5 (some 33) [false] hok (fun σr rest A hk => ?_)
      refine R.callP C rfl (A.w rfl rfl) (A.x rfl rfl) (A.s rfl rfl) (smallerR_c hJ hli10 hL10 (by omega) (by omega)) (hk _ _ ⟨QFs.nil, ?_⟩)
      refine Dm C 6 hok rfl rfl rfl <| D.fix (t := 34) rfl (fun hg => ?_) (fun hg => ?_)
      · have hg := hg
        refine D5 C 7 hok rfl rfl isAgg25 sizeOf25 (by repeat (first | exact Mh | apply Mt)) Tk5 <| Dm C 8 hok rfl rfl rfl <| Dm C 9 hok rfl rfl rfl <| Dx C 10 hok rfl rfl rfl runUnderlying149 sizeOf28 <| Dl 11 hok (fun _ _ A h => R.loadOneRo C rfl (A.w rfl rfl) (A.x rfl rfl) isAgg28 (hle1 _ _ hropa) hx h) <| De 12 (some 40) [false, false] hok (fun σr rest A hk => ?_)
        refine R.callR C rfl (A.w rfl rfl) (A.x rfl rfl) (A.s rfl rfl) ((soundOfR_c hJ hv1 hb hli10 (by omega))) fun v3 ro3 hl3 hp3 => hk _ _ ⟨QFs.nil, ?_⟩
        refine Dp 13 hok (fun _ _ _ A h => R.pickT C rfl (A.w rfl rfl) (A.x rfl rfl) (A.x rfl rfl) h) <| D.done C hok (by kernel_rfl) ?_
        subst hp3
        refine X.cond C.1 rfl (fun hq => ?_) (fun hq => ?_)
        · have hq := hq
          have hstep2 : pickIf (soundP b) B l = l := by rw [pickIf, if_pos ⟨hg, hq⟩]
          refine X.region C rfl rfl <| Rm C rfl rfl <| Rm C rfl rfl <| Rx C rfl rfl rfl runUnderlying149 sizeOf28 <| R.loadOneRo C rfl rfl rfl isAgg28 (hl3 _ _ (hle1 _ _ hropa)) hx <| Ad C rfl rfl <| X.inBlock C.1 <| X.region C rfl rfl <| Rm C rfl rfl <| R.int C rfl rfl rfl rfl (b_add (by omega) (by omega)) <| Ad C rfl rfl <| X.weaken ?_ (hnext (i + 1, ro3, _) ⟨by omega, RO.le_trans hle1 hl3, by rw [hstep, hstep2]; exact hli10.mono hl3⟩ (by omega))
          exact ⟨rfl, rfl, rfl, by simp [look], trivial⟩
        · have hq := hq
          have hstep2 : pickIf (soundP b) B l = B := by rw [pickIf, if_neg (by simp only [hq]; simp)]
          refine X.skip C.1 <| X.inBlock C.1 <| X.region C rfl rfl <| Rm C rfl rfl <| R.int C rfl rfl rfl rfl (b_add (by omega) (by omega)) <| Ad C rfl rfl <| X.weaken ?_ (hnext (i + 1, ro3, _) ⟨by omega, RO.le_trans hle1 hl3, by rw [hstep, hstep2]; exact hL10.mono hl3⟩ (by omega))
          exact ⟨rfl, rfl, rfl, by simp [look], trivial⟩
      · have hg := hg
        have hstep2 : pickIf (soundP b) B l = B := by rw [pickIf, if_neg (by rw [hg]; simp)]
        refine Du C 7 hok rfl <| Du C 8 hok rfl <| Du C 9 hok rfl <| Du C 10 hok rfl <| Du C 11 hok rfl <| Du C 12 hok rfl <| Dp 13 hok (fun _ _ _ A h => R.pickF C rfl (A.w rfl rfl) (A.x rfl rfl) (A.x rfl rfl) h) <| D.done C hok (by kernel_rfl) <| X.cond C.1 rfl (fun h => nomatch h) (fun _ => ?_)
        refine X.skip C.1 <| X.inBlock C.1 <| X.region C rfl rfl <| Rm C rfl rfl <| R.int C rfl rfl rfl rfl (b_add (by omega) (by omega)) <| Ad C rfl rfl <| X.weaken ?_ (hnext (i + 1, ro1, _) ⟨by omega, hle1, by rw [hstep, hstep2]; exact hL10⟩ (by omega))
        exact ⟨rfl, rfl, rfl, by simp [look], trivial⟩
    · have hlt := hlt
      simp only [decide_eq_false_iff_not] at hlt
      obtain rfl : i = xT.length := by omega
      have hE : bestIf (soundP b) (rz 0 b.ws.length) ((sets (b.ws.length : Int) b.ws.length).take xT.length) = bestIf (soundP b) (rz 0 b.ws.length) (sets (b.ws.length : Int) b.ws.length) := by rw [List.take_of_length_le (by omega)]
      refine X.exit C.1 rfl <| Xr C rfl rfl <| Rm C rfl rfl <| R.asg C rfl rfl rfl <| Ad C rfl rfl <| X.ret C rfl rfl func66 rfl (by exact (.tmp rfl (.tmp rfl .nil))) <| Hr hret (RO.le_trans hlU (RO.le_trans hlT hle1)) ?_
      exact ⟨_, by show LsI _ _ (bestOf (listsOf b (fewP b))); rw [fewest_law hb, ← hE]; exact hL10, rfl⟩
theorem clashR_c {b : Bk} {v : Value} {ro : RO} (hv : BkV ro v b) (hs : b.short) : CallR prog J (fnv 67) [v] ro (fun w ro' => ∃ vl, LsI ro' vl (clash b).1 ∧ w = .tuple [vl, .int .i64 (clash b).2].toArray) := by
  have hvv := hv
  obtain ⟨vc, vw, rfl, hc, hw⟩ := hv
  obtain ⟨cb, cc, rfl⟩ := hc.form
  obtain ⟨wb, wc, rfl⟩ := hw.form
  refine CallR.intro hJ (by kernel_rfl) fun c cs tail hret => enter_X (n := 52) func67 rfl rfl (Nl rfl) ?_
  have C : Ctx prog main J (bf 67 .normal) := ⟨hJ, by decide⟩
  refine Xr C rfl rfl <| R.box C rfl rfl rfl rfl fun p1 => R.asg C rfl rfl rfl <| Ad C rfl rfl <| Xs C <| Xr C rfl rfl <| R.loadAgg C rfl rfl rfl isAgg25 sizeOf25 (by repeat (first | exact Mh | apply Mt)) Tk5 <| R.callP C rfl rfl rfl rfl (checkChartR_c hJ (by assumption) (by assumption)) <| Ad C rfl rfl <| Xr C rfl rfl <| Rm C rfl rfl <| R.int C rfl rfl rfl rfl b_neq <| R.done C <| X.cond C.1 rfl (fun hh => ?_) (fun hh => ?_)
  · have hh := hh
    simp at hh
    refine Xr C rfl rfl <| Rm C rfl rfl <| R.asg C rfl rfl rfl <| Ad C rfl rfl <| X.ret C rfl rfl func67 rfl (by exact (.tmp rfl (.tmp rfl .nil))) <| Hr hret (RO.le_refl _) ?_
    exact ⟨_, by rw [clash, if_pos hh]; exact Ls.nil, by rw [clash, if_pos hh]; rfl⟩
  · have hh := hh
    simp at hh
    have hb := good_iff.1 hh
    have hnw := hb.nw
    have hfin : clash b = (bestOf (listsOf b (clashP b)), 0) := by rw [clash, if_neg (by simp [hh])]
    rw [hfin] at hret
    refine X.skip C.1 <| Xs C <| Xr C rfl rfl <| R.loadAgg C rfl rfl rfl isAgg25 sizeOf25 (by repeat (first | exact Mh | apply Mt)) Tk5 <| R.callR C rfl rfl rfl rfl ((soundOfR_c hJ hvv hb Ls.nil (Nat.zero_le _))) fun v0 ro0 hl0 hp0 => R.done C ?_
    subst hp0
    refine X.cond C.1 rfl (fun hso => ?_) (fun hso => ?_)
    · have hso := hso
      refine Xr C rfl rfl <| R.asg C rfl rfl rfl <| Ad C rfl rfl <| X.ret C rfl rfl func67 rfl (by exact (.tmp rfl (.tmp rfl .nil))) <| Hr hret hl0 ?_
      exact ⟨_, by show LsI _ _ (bestOf (listsOf b (clashP b))); rw [clash_none hb hso]; exact Ls.nil, rfl⟩
    · have hso := hso
      have hse := sets_each (b.ws.length : Int) b.ws.length
      refine X.skip C.1 <| Xr C rfl rfl <| Rf C 4 rfl rfl runUnderlying25 rfl sizeOf23 <| R.loadOne C rfl rfl rfl isAgg23 (by repeat (first | exact Mh | apply Mt)) rfl <| R.lenSlice C rfl rfl rfl runUnderlying23 <| Ad C rfl rfl <| Xr C rfl rfl <| Rm C rfl rfl <| R.callR C rfl rfl rfl rfl ((uptoR_c hJ (n := b.ws.length) (by omega))) fun vU roU hlU hU => Rm C rfl rfl <| Rm C rfl rfl <| R.callR C rfl rfl rfl rfl ((setsR_c hJ (n := b.ws.length) (most := (b.ws.length : Int)) hnw)) fun vT roT hlT hT => R.asg C rfl rfl rfl <| Ad C rfl rfl <| Xs C <| Xr C rfl rfl <| Ad C rfl rfl <| X.block C.1 ?_
      obtain ⟨xT, hTL, hxT, hlT2⟩ := hT
      have hTL0 := hTL
      obtain ⟨tb, tc, rfl⟩ := hTL.form
      have hxTl := congrArg List.length hxT
      rw [List.length_map] at hxTl
      have hsl := sets_len (b.ws.length : Int) b.ws.length
      have hpow : 2 ^ b.ws.length ≤ 2 ^ 5 := Nat.pow_le_pow_right (by decide) hnw
      have hv0 := ((hvv.mono hl0).mono hlU).mono hlT
      have hUT := hU.mono hlT
      obtain ⟨ub, uc, rfl⟩ := hU.form
      refine X.loopI (ι := Nat × RO × Value) C.1 (fun s => s.1 ≤ xT.length ∧ roT.le s.2.1 ∧ LsI s.2.1 s.2.2 (bestIf (fun l => !soundP b (othersL l b.ws.length)) (rz 0 b.ws.length) ((sets (b.ws.length : Int) b.ws.length).take s.1))) (fun s => [(1, .pointer (some ⟨p1, 0, none⟩)), (5, .int .i64 (b.ws.length : Int)), (6, s.2.2), (7, .slice tb xT.length tc), (8, .int .i64 (s.1 : Int))])
        (fun s => ⟨s.2.1, (p1, .cells [.int .i64 b.w, .int .i64 b.h, .int .i64 b.f, .slice cb b.cs.length cc, .slice wb b.ws.length wc].toArray 25 (0, 0)) :: tail⟩) (fun s => xT.length - s.1) (0, roT, _) ⟨Nat.zero_le _, RO.le_refl _, hUT⟩ rfl ⟨rfl, rfl, rfl, rfl, rfl, trivial⟩ fun s hs hnext => ?_
      obtain ⟨i, ro1, v1⟩ := s
      obtain ⟨hi, hle1, hL1⟩ := hs
      simp only at hi hle1 hL1 hnext ⊢
      have hL10 := hL1
      have hbl := bestIf_len (p := fun l => !soundP b (othersL l b.ws.length)) (n := b.ws.length) (L := (sets (b.ws.length : Int) b.ws.length).take i) fun x hx => hse x (List.mem_of_mem_take hx)
      obtain ⟨b1, c1, rfl⟩ := hL1.form
      refine Xs C <| Xr C rfl rfl <| Rm C rfl rfl <| Rm C rfl rfl <| R.lenSlice C rfl rfl rfl runUnderlying149 <| R.int C rfl rfl rfl rfl b_lss <| R.done C <| X.cond C.1 rfl (fun hlt => ?_) (fun hlt => ?_)
      · have hlt := hlt
        simp only [decide_eq_true_eq] at hlt
        have hi' : i < xT.length := by omega
        have hi1 : i < (sets (b.ws.length : Int) b.ws.length).length := by omega
        have hstep := bestIf_take (p := fun l => !soundP b (othersL l b.ws.length)) (o := rz 0 b.ws.length) hi1
        have hxi : xT[i].2 = (sets (b.ws.length : Int) b.ws.length)[i] := by
          have h1 : (xT.map (·.2))[i]? = some (sets (b.ws.length : Int) b.ws.length)[i] := by rw [hxT, List.getElem?_eq_getElem hi1]
          rw [List.getElem?_map, List.getElem?_eq_getElem hi'] at h1
          simpa using h1
        have hli := hlT2 _ (List.getElem_mem hi')
        have hle5 := hse _ (List.getElem_mem hi1)
        rw [← hxi] at hstep hle5
        obtain ⟨pa, offa, capa, lla, ta, fqa, hsla, hropa, hsuba⟩ := hTL0.at le_len (by omega)
        cases hsla
        have hx := le_at hsuba hi'
        generalize hL : xT[i].2 = l at hli hstep hle5
        generalize xT[i].1 = vk at hx hli
        have hli1 := hli.mono hle1
        have hli10 := hli1
        obtain ⟨bk, ck, rfl⟩ := hli1.form
        have hv1 := hv0.mono hle1
        generalize hBB : bestIf (fun l => !soundP b (othersL l b.ws.length)) (rz 0 b.ws.length) ((sets (b.ws.length : Int) b.ws.length).take i) = B at hstep hL10 hbl
        refine X.skip C.1 <| Xs C <| X.block C.1 <| Xs C <| Xd C fun hok => Dm C 0 hok rfl rfl rfl <| Dm C 1 hok rfl rfl rfl <| Dx C 2 hok rfl rfl rfl runUnderlying149 sizeOf28 <| Dl 3 hok (fun _ _ A h => R.loadOneRo C rfl (A.w rfl rfl) (A.x rfl rfl) isAgg28 (hle1 _ _ hropa) hx h) <| Dm C 4 hok rfl rfl rfl <| De 5 (some 35) [false] hok (fun σr rest A hk => ?_)
        refine R.callP C rfl (A.w rfl rfl) (A.x rfl rfl) (A.s rfl rfl) (smallerR_c hJ hli10 hL10 (by omega) (by omega)) (hk _ _ ⟨QFs.nil, ?_⟩)
        refine Dm C 6 hok rfl rfl rfl <| D.fix (t := 36) rfl (fun hg => ?_) (fun hg => ?_)
        · have hg := hg
          refine D5 C 7 hok rfl rfl isAgg25 sizeOf25 (by repeat (first | exact Mh | apply Mt)) Tk5 <| Dm C 8 hok rfl rfl rfl <| Dm C 9 hok rfl rfl rfl <| Dx C 10 hok rfl rfl rfl runUnderlying149 sizeOf28 <| Dl 11 hok (fun _ _ A h => R.loadOneRo C rfl (A.w rfl rfl) (A.x rfl rfl) isAgg28 (hle1 _ _ hropa) hx h) <| Dm C 12 hok rfl rfl rfl <| De 13 (some 43) [false, true] hok (fun σr rest A hk => ?_)
          refine R.callR C rfl (A.w rfl rfl) (A.x rfl rfl) (A.s rfl rfl) ((othersR_c hJ hli10 (by omega) (n := b.ws.length) (by omega))) fun v3 ro3 hl3 hp3 => hk _ _ ⟨(QFs.cons (QF.of rfl (fun _ _ A h => R.loadAgg C rfl (A.w rfl rfl) (A.x rfl rfl) isAgg25 sizeOf25 (by repeat (first | exact Mh | apply Mt)) Tk5 h)) QFs.nil), ?_⟩
          refine De 14 (some 44) [false] hok (fun σr rest A hk => ?_)
          refine R.callR C rfl (A.w rfl rfl) (A.x rfl rfl) (A.s rfl rfl) ((soundOfR_c hJ (hv1.mono hl3) hb hp3 (by have := others_len l b.ws.length; omega))) fun v4 ro4 hl4 hp4 => hk _ _ ⟨QFs.nil, ?_⟩
          subst hp4
          refine Dp 15 hok (fun _ _ _ A h => R.not C rfl (A.w rfl rfl) (A.x rfl rfl) h) <| Dp 16 hok (fun _ _ _ A h => R.pickT C rfl (A.w rfl rfl) (A.x rfl rfl) (A.x rfl rfl) h) <| D.done C hok (by kernel_rfl) <| X.cond C.1 rfl (fun hq => ?_) (fun hq => ?_)
          · have hq := hq
            have hstep2 : pickIf (fun l => !soundP b (othersL l b.ws.length)) B l = l := by rw [pickIf, if_pos ⟨hg, by simpa using hq⟩]
            refine X.region C rfl rfl <| Rm C rfl rfl <| Rm C rfl rfl <| Rx C rfl rfl rfl runUnderlying149 sizeOf28 <| R.loadOneRo C rfl rfl rfl isAgg28 ((RO.le_trans hl3 hl4) _ _ (hle1 _ _ hropa)) hx <| Ad C rfl rfl <| X.inBlock C.1 <| X.region C rfl rfl <| Rm C rfl rfl <| R.int C rfl rfl rfl rfl (b_add (by omega) (by omega)) <| Ad C rfl rfl <| X.weaken ?_ (hnext (i + 1, ro4, _) ⟨by omega, RO.le_trans hle1 (RO.le_trans hl3 hl4), by rw [hstep, hstep2]; exact hli10.mono (RO.le_trans hl3 hl4)⟩ (by omega))
            exact ⟨rfl, rfl, rfl, rfl, by simp [look], trivial⟩
          · have hq := hq
            have hstep2 : pickIf (fun l => !soundP b (othersL l b.ws.length)) B l = B := by rw [pickIf, if_neg (by simp only [hq]; simp)]
            refine X.skip C.1 <| X.inBlock C.1 <| X.region C rfl rfl <| Rm C rfl rfl <| R.int C rfl rfl rfl rfl (b_add (by omega) (by omega)) <| Ad C rfl rfl <| X.weaken ?_ (hnext (i + 1, ro4, _) ⟨by omega, RO.le_trans hle1 (RO.le_trans hl3 hl4), by rw [hstep, hstep2]; exact hL10.mono (RO.le_trans hl3 hl4)⟩ (by omega))
            exact ⟨rfl, rfl, rfl, rfl, by simp [look], trivial⟩
        · have hg := hg
          have hstep2 : pickIf (fun l => !soundP b (othersL l b.ws.length)) B l = B := by rw [pickIf, if_neg (by rw [hg]; simp)]
          refine Du C 7 hok rfl <| Du C 8 hok rfl <| Du C 9 hok rfl <| Du C 10 hok rfl <| Du C 11 hok rfl <| Du C 12 hok rfl <| Du C 13 hok rfl <| Du C 14 hok rfl <| Du C 15 hok rfl <| Dp 16 hok (fun _ _ _ A h => R.pickF C rfl (A.w rfl rfl) (A.x rfl rfl) (A.x rfl rfl) h) <| D.done C hok (by kernel_rfl) <| X.cond C.1 rfl (fun h => nomatch h) (fun _ => ?_)
          refine X.skip C.1 <| X.inBlock C.1 <| X.region C rfl rfl <| Rm C rfl rfl <| R.int C rfl rfl rfl rfl (b_add (by omega) (by omega)) <| Ad C rfl rfl <| X.weaken ?_ (hnext (i + 1, ro1, _) ⟨by omega, hle1, by rw [hstep, hstep2]; exact hL10⟩ (by omega))
          exact ⟨rfl, rfl, rfl, rfl, by simp [look], trivial⟩
      · have hlt := hlt
        simp only [decide_eq_false_iff_not] at hlt
        obtain rfl : i = xT.length := by omega
        have hE : bestIf (fun l => !soundP b (othersL l b.ws.length)) (rz 0 b.ws.length) ((sets (b.ws.length : Int) b.ws.length).take xT.length) = bestIf (fun l => !soundP b (othersL l b.ws.length)) (rz 0 b.ws.length) (sets (b.ws.length : Int) b.ws.length) := by rw [List.take_of_length_le (by omega)]
        refine X.exit C.1 rfl <| Xr C rfl rfl <| Rm C rfl rfl <| R.asg C rfl rfl rfl <| Ad C rfl rfl <| X.ret C rfl rfl func67 rfl (by exact (.tmp rfl (.tmp rfl .nil))) <| Hr hret (RO.le_trans hl0 (RO.le_trans hlU (RO.le_trans hlT hle1))) ?_
        exact ⟨_, by show LsI _ _ (bestOf (listsOf b (clashP b))); rw [clash_law hb (by simpa using hso), ← hE]; exact hL10, rfl⟩
theorem askR_c {b : Bk} {v : Value} {ro : RO} (hv : BkV ro v b) (hs : b.short) : CallR prog J (fnv 68) [v] ro (fun w _ => w = .tuple [.int .i64 (ask b).1, .int .i64 (ask b).2.1, .int .i64 (ask b).2.2].toArray) := by
  have hvv := hv
  obtain ⟨vc, vw, rfl, hc, hw⟩ := hv
  obtain ⟨cb, cc, rfl⟩ := hc.form
  obtain ⟨wb, wc, rfl⟩ := hw.form
  refine CallR.intro hJ (by kernel_rfl) fun c cs tail hret => enter_X (n := 45) func68 rfl rfl (Nl rfl) ?_
  have C : Ctx prog main J (bf 68 .normal) := ⟨hJ, by decide⟩
  refine Xr C rfl rfl <| R.box C rfl rfl rfl rfl fun p1 => R.asg C rfl rfl rfl <| R.asg C rfl rfl rfl <| Ad C rfl rfl <| Xr C rfl rfl <| R.loadAgg C rfl rfl rfl isAgg25 sizeOf25 (by repeat (first | exact Mh | apply Mt)) Tk5 <| R.callR C rfl rfl rfl rfl ((knownR_c hJ hvv hs true)) fun v1 ro1 hl1 hp1 => ?_
  obtain ⟨vl, rfl, hk0, hk1⟩ := hp1
  refine Rm C rfl rfl <| R.ext C rfl rfl rfl rfl <| R.ext C rfl rfl rfl rfl <| R.asg C rfl rfl rfl <| Ad C rfl rfl <| Xs C <| Xr C rfl rfl <| Rm C rfl rfl <| R.int C rfl rfl rfl rfl b_neq <| R.done C <| X.cond C.1 rfl (fun hh => ?_) (fun hh => ?_)
  · have hh := hh
    simp at hh
    refine Xr C rfl rfl <| Rm C rfl rfl <| R.asg C rfl rfl rfl <| R.asg C rfl rfl rfl <| Ad C rfl rfl <| X.ret C rfl rfl func68 rfl (by exact (.tmp rfl (.tmp rfl (.tmp rfl .nil)))) <| Hr hret hl1 ?_
    rw [ask, ← known_open0, if_pos hh]; rfl
  · have hh := hh
    simp at hh
    have hfin : ask b = ((askUpto (cases b) b.ws.length).1, (askUpto (cases b) b.ws.length).2, 0) := by rw [ask, ← known_open0, if_neg (by simp [hh])]
    rw [hfin] at hret
    have hLC := hk0 hh
    obtain ⟨hb, _, _⟩ := known_good hh
    have hnw := hb.nw
    have hcl := casesL_len hb
    have hce := cases_len_eq hb
    have hcf := casesL_f hb
    have hLC0 := hLC
    obtain ⟨xs, hls, hxs, hel⟩ := hLC
    have hxl := congrArg List.length hxs
    rw [List.length_map] at hxl
    obtain ⟨lb, lc, rfl⟩ := hls.form
    refine X.skip C.1 <| Xr C rfl rfl <| Rm C rfl rfl <| R.lenSlice C rfl rfl rfl runUnderlying122 <| R.asg C rfl rfl rfl <| Ad C rfl rfl <| Xs C <| Xr C rfl rfl <| Ad C rfl rfl <| X.block C.1 <| X.loopI (ι := Nat) C.1 (fun i => i ≤ b.ws.length) (fun i => [(1, .pointer (some ⟨p1, 0, none⟩)), (5, .slice lb xs.length lc), (7, .int .i64 (askUpto (cases b) i).1), (8, .int .i64 (askUpto (cases b) i).2), (9, .int .i64 (i : Int))])
      (fun _ => ⟨ro1, (p1, .cells [.int .i64 b.w, .int .i64 b.h, .int .i64 b.f, .slice cb b.cs.length cc, .slice wb b.ws.length wc].toArray 25 (0, 0)) :: tail⟩) (fun i => b.ws.length - i) 0 (Nat.zero_le _) rfl ⟨rfl, rfl, rfl, by simp only [askUpto, ← hce, ← hxl]; rfl, rfl, trivial⟩ fun i hi hnext => ?_
    refine Xs C <| Xr C rfl rfl <| Rm C rfl rfl <| Rf C 4 rfl rfl runUnderlying25 rfl sizeOf23 <| R.loadOne C rfl rfl rfl isAgg23 (by repeat (first | exact Mh | apply Mt)) rfl <| R.lenSlice C rfl rfl rfl runUnderlying23 <| R.int C rfl rfl rfl rfl b_lss <| R.done C <| X.cond C.1 rfl (fun hlt => ?_) (fun hlt => ?_)
    · have hlt := hlt
      simp only [decide_eq_true_eq] at hlt
      have hi' : i < b.ws.length := by omega
      have hcnt := cnt_law hb i
      have hcb := List.countP_le_length (p := fun c : Cs => c.f.contains (i : Int)) (l := casesL b)
      refine X.skip C.1 <| Xs C <| X.block C.1 <| Xr C rfl rfl <| Rm C rfl rfl <| Rm C rfl rfl <| R.callP C rfl rfl rfl rfl (falseInR_c hJ hLC0 (by omega) (fun c hcm => Nat.le_trans (hcf c hcm) (by decide)) (i : Int)) <| Ad C rfl rfl <| Xr C rfl rfl <| Rm C rfl rfl <| Rm C rfl rfl <| R.lenSlice C rfl rfl rfl runUnderlying122 <| Rm C rfl rfl <| R.int C rfl rfl rfl rfl (b_sub (by omega) (by omega)) <| R.max2 C rfl rfl rfl rfl <| Ad C rfl rfl <| Xr C rfl rfl <| Rm C rfl rfl <| Rm C rfl rfl <| R.int C rfl rfl rfl rfl b_lss <| R.done C <| X.cond C.1 rfl (fun hq => ?_) (fun hq => ?_)
      · have hq := hq
        simp only [decide_eq_true_eq] at hq
        have hstep : askUpto (cases b) (i + 1) = ((i : Int), max (cnt (cases b) i : Int) ((cases b).length - cnt (cases b) i)) := by
          rw [askUpto, if_pos (by rw [hcnt, ← hce, ← hxl]; omega)]
        refine X.region C rfl rfl <| Rm C rfl rfl <| Rm C rfl rfl <| R.asg C rfl rfl rfl <| Ad C rfl rfl <| X.inBlock C.1 <| X.region C rfl rfl <| Rm C rfl rfl <| R.int C rfl rfl rfl rfl (b_add (by omega) (by omega)) <| Ad C rfl rfl <| X.weaken ?_ (hnext (i + 1) hi' (by omega))
        exact ⟨rfl, rfl, by simp only [hstep]; rfl, by simp only [hstep, hcnt, ← hce, ← hxl]; rfl, by simp [look], trivial⟩
      · have hq := hq
        simp only [decide_eq_false_iff_not] at hq
        have hstep : askUpto (cases b) (i + 1) = askUpto (cases b) i := by
          rw [askUpto, if_neg (by rw [hcnt, ← hce, ← hxl]; omega)]
        refine X.skip C.1 <| X.inBlock C.1 <| X.region C rfl rfl <| Rm C rfl rfl <| R.int C rfl rfl rfl rfl (b_add (by omega) (by omega)) <| Ad C rfl rfl <| X.weaken ?_ (hnext (i + 1) hi' (by omega))
        exact ⟨rfl, rfl, by simp only [hstep]; rfl, by simp only [hstep]; rfl, by simp [look], trivial⟩
    · have hlt := hlt
      simp only [decide_eq_false_iff_not] at hlt
      obtain rfl : i = b.ws.length := by omega
      refine X.exit C.1 rfl <| Xr C rfl rfl <| Rm C rfl rfl <| Rm C rfl rfl <| R.asg C rfl rfl rfl <| R.asg C rfl rfl rfl <| Ad C rfl rfl <| X.ret C rfl rfl func68 rfl (by exact (.tmp rfl (.tmp rfl (.tmp rfl .nil)))) <| Hr hret hl1 ?_
      rfl
end
end Go.Lg.B
namespace Go.Lg.B
open Go Go.Conc Go.Lg Go.Proofs Go.Proofs.Tryz
theorem fewest_small (b : Bk) : (fewest b).1.length ≤ 1000000 := by
  rw [fewest]
  by_cases h : checkChart b = 0
  · rw [if_neg (by simp [h])]
    have hb := good_iff.1 h
    obtain ⟨h1, _⟩ := bestOf_least (listsOf_few hb)
    obtain ⟨m, _, e⟩ := List.mem_map.1 h1
    have := listOf_len m
    simp only; rw [← e]; omega
  · rw [if_pos h]; exact Nat.zero_le _
theorem clash_small (b : Bk) : (clash b).1.length ≤ 1000000 := by
  rw [clash]
  by_cases h : checkChart b = 0
  · rw [if_neg (by simp [h])]
    by_cases hn : listsOf b (clashP b) = []
    · simp only [hn]; exact Nat.zero_le _
    · obtain ⟨h1, _⟩ := bestOf_least hn
      obtain ⟨m, _, e⟩ := List.mem_map.1 h1
      have := listOf_len m
      simp only; rw [← e]; omega
  · rw [if_pos h]; exact Nat.zero_le _
theorem witnesses_root {b : Bk} {vb : Value} {ro : RO} (he : Env ro) (hv : BkV ro vb b) : Root prog 13 [vb] ro (fun w _ => w = .bool true) := by
  intro Post hret
  have hJ : Closed prog true (JM prog (Go.Conc.Good prog Post)) := JM.closed
  have hvv := hv
  obtain ⟨vc, vw, rfl, hc, hw⟩ := hv
  obtain ⟨cb, cc, rfl⟩ := hc.form
  obtain ⟨wb, wc, rfl⟩ := hw.form
  let main := true
  let J := JM prog (Go.Conc.Good prog Post)
  refine enter_X (n := 105) func13 rfl rfl (Nl rfl) ?_
  have C : Ctx prog main J (bf 13 .normal) := ⟨hJ, by decide⟩
  refine Xr C rfl rfl <| R.box C rfl rfl rfl rfl fun p1 => Ad C rfl rfl <| Xs C <| Xr C rfl rfl <| R.loadAgg C rfl rfl rfl isAgg25 sizeOf25 (by repeat (first | exact Mh | apply Mt)) Tk5 <| R.callP C rfl rfl rfl rfl (greatR_c hJ (by assumption)) <| R.done C <| X.cond C.1 rfl (fun hfit => ?_) (fun hfit => ?_)
  · have hfit := hfit
    refine Xr C rfl rfl <| R.callR C rfl rfl rfl rfl ((found_c _ he)) fun v9 ro9 hl9 hq9 => Ad C rfl rfl <| X.ret0 C (by kernel_rfl) rfl rfl func13 rfl (by exact (.tmp rfl .nil)) fun w9 hs9 => hret _ _ _ hl9 ?_ w9 hs9
    exact hq9
  · have hfit := hfit
    simp at hfit
    have hsh : b.short := ⟨by omega, by omega⟩
    have hfw := fewest_small b
    have hcw := clash_small b
    refine X.skip C.1 <| Xr C rfl rfl <| R.loadAgg C rfl rfl rfl isAgg25 sizeOf25 (by repeat (first | exact Mh | apply Mt)) Tk5 <| R.callR C rfl rfl rfl rfl ((sound_c hJ he hvv hsh)) fun w1 ro1 hl1 hp1 => ?_
    subst hp1
    have hL := hl1
    refine Rm C rfl rfl <| R.ext C rfl rfl rfl rfl <| R.ext C rfl rfl rfl rfl <| R.asg C rfl rfl rfl <| Ad C rfl rfl <| Xr C rfl rfl <| R.loadAgg C rfl rfl rfl isAgg25 sizeOf25 (by repeat (first | exact Mh | apply Mt)) Tk5 <| R.callR C rfl rfl rfl rfl ((soundR_c hJ (hvv.mono hL) hsh)) fun w2 ro2 hl2 hp2 => ?_
    subst hp2
    generalize sound b = S at *
    replace hL := RO.le_trans hL hl2
    refine Rm C rfl rfl <| R.ext C rfl rfl rfl rfl <| R.ext C rfl rfl rfl rfl <| R.asg C rfl rfl rfl <| Ad C rfl rfl <| Xr C rfl rfl <| R.loadAgg C rfl rfl rfl isAgg25 sizeOf25 (by repeat (first | exact Mh | apply Mt)) Tk5 <| R.callR C rfl rfl rfl rfl ((fewest_c (he.mono hL) (hvv.mono hL) hsh)) fun w3 ro3 hl3 hp3 => ?_
    obtain ⟨vl3, hs3, rfl⟩ := hp3
    replace hL := RO.le_trans hL hl3
    refine Rm C rfl rfl <| R.ext C rfl rfl rfl rfl <| R.ext C rfl rfl rfl rfl <| R.asg C rfl rfl rfl <| Ad C rfl rfl <| Xr C rfl rfl <| R.loadAgg C rfl rfl rfl isAgg25 sizeOf25 (by repeat (first | exact Mh | apply Mt)) Tk5 <| R.callR C rfl rfl rfl rfl ((fewestR_c hJ (hvv.mono hL) hsh)) fun w4 ro4 hl4 hp4 => ?_
    obtain ⟨vl4, hs4, rfl⟩ := hp4
    replace hL := RO.le_trans hL hl4
    have hs3 := hs3.mono hl4
    refine Rm C rfl rfl <| R.ext C rfl rfl rfl rfl <| R.ext C rfl rfl rfl rfl <| R.asg C rfl rfl rfl <| Ad C rfl rfl <| Xs C <| Xr C rfl rfl <| Rm C rfl rfl <| Rm C rfl rfl <| R.neBool C rfl rfl rfl rfl runUnderlying4 <| R.fixv (t := 40) (v' := .bool false) rfl (by (exact congrArg Value.bool (by simp))) <| Rm C rfl rfl <| R.fixv (t := 41) (v' := .bool false) rfl (by rfl) <| Rm C rfl rfl <| Rm C rfl rfl <| R.callP C rfl rfl rfl rfl ((sameInts_c hJ hs3 hs4 hfw hfw)) <| R.fixv (t := 44) (v' := .bool true) rfl (by (exact congrArg Value.bool (by rw [sameInts_iff]; simp))) <| R.not C rfl rfl rfl <| R.fixv (t := 45) (v' := .bool false) rfl rfl <| R.fixv (t := 45) (v' := .bool false) rfl (by rfl) <| R.pickF C rfl rfl rfl rfl <| R.fixv (t := 46) (v' := .bool false) rfl (by rfl) <| Rm C rfl rfl <| R.fixv (t := 47) (v' := .bool false) rfl (by rfl) <| Rm C rfl rfl <| Rm C rfl rfl <| R.int C rfl rfl rfl rfl b_neq <| R.fixv (t := 50) (v' := .bool false) rfl (by (exact congrArg Value.bool (by simp))) <| R.pickF C rfl rfl rfl rfl <| R.fixv (t := 51) (v' := .bool false) rfl (by rfl) <| Rm C rfl rfl <| R.fixv (t := 52) (v' := .bool false) rfl (by rfl) <| Rm C rfl rfl <| Rm C rfl rfl <| R.int C rfl rfl rfl rfl b_neq <| R.fixv (t := 55) (v' := .bool false) rfl (by (exact congrArg Value.bool (by simp))) <| R.pickF C rfl rfl rfl rfl <| R.fixv (t := 56) (v' := .bool false) rfl (by rfl) <| R.done C <| X.cond C.1 rfl (fun h => nomatch h) (fun _ => ?_)
    refine X.skip C.1 <| Xr C rfl rfl <| R.loadAgg C rfl rfl rfl isAgg25 sizeOf25 (by repeat (first | exact Mh | apply Mt)) Tk5 <| R.callR C rfl rfl rfl rfl ((clash_c (he.mono hL) (hvv.mono hL) hsh)) fun w5 ro5 hl5 hp5 => ?_
    obtain ⟨vl5, hs5, rfl⟩ := hp5
    replace hL := RO.le_trans hL hl5
    refine Rm C rfl rfl <| R.ext C rfl rfl rfl rfl <| R.ext C rfl rfl rfl rfl <| R.asg C rfl rfl rfl <| Ad C rfl rfl <| Xr C rfl rfl <| R.loadAgg C rfl rfl rfl isAgg25 sizeOf25 (by repeat (first | exact Mh | apply Mt)) Tk5 <| R.callR C rfl rfl rfl rfl ((clashR_c hJ (hvv.mono hL) hsh)) fun w6 ro6 hl6 hp6 => ?_
    obtain ⟨vl6, hs6, rfl⟩ := hp6
    replace hL := RO.le_trans hL hl6
    refine Rm C rfl rfl <| R.ext C rfl rfl rfl rfl <| R.ext C rfl rfl rfl rfl <| R.asg C rfl rfl rfl <| Ad C rfl rfl <| Xr C rfl rfl <| R.loadAgg C rfl rfl rfl isAgg25 sizeOf25 (by repeat (first | exact Mh | apply Mt)) Tk5 <| R.callR C rfl rfl rfl rfl ((ask_c hJ (he.mono hL) (hvv.mono hL) hsh)) fun w7 ro7 hl7 hp7 => ?_
    subst hp7
    replace hL := RO.le_trans hL hl7
    refine Rm C rfl rfl <| R.ext C rfl rfl rfl rfl <| R.ext C rfl rfl rfl rfl <| R.ext C rfl rfl rfl rfl <| R.asg C rfl rfl rfl <| R.asg C rfl rfl rfl <| Ad C rfl rfl <| Xr C rfl rfl <| R.loadAgg C rfl rfl rfl isAgg25 sizeOf25 (by repeat (first | exact Mh | apply Mt)) Tk5 <| R.callR C rfl rfl rfl rfl ((askR_c hJ (hvv.mono hL) hsh)) fun w8 ro8 hl8 hp8 => ?_
    subst hp8
    generalize ask b = A at *
    replace hL := RO.le_trans hL hl8
    have hs5 := ((hs5.mono hl6).mono hl7).mono hl8
    have hs6 := (hs6.mono hl7).mono hl8
    refine Rm C rfl rfl <| R.ext C rfl rfl rfl rfl <| R.ext C rfl rfl rfl rfl <| R.ext C rfl rfl rfl rfl <| R.asg C rfl rfl rfl <| R.asg C rfl rfl rfl <| Ad C rfl rfl <| Xr C rfl rfl <| Rm C rfl rfl <| Rm C rfl rfl <| R.callP C rfl rfl rfl rfl ((sameInts_c hJ hs5 hs6 hcw hcw)) <| R.fixv (t := 81) (v' := .bool true) rfl (by (exact congrArg Value.bool (by rw [sameInts_iff]; simp))) <| Rm C rfl rfl <| R.fixv (t := 82) (v' := .bool true) rfl (by rfl) <| Rm C rfl rfl <| Rm C rfl rfl <| R.int C rfl rfl rfl rfl b_eql <| R.fixv (t := 85) (v' := .bool true) rfl (by (exact congrArg Value.bool (by simp))) <| R.pickT C rfl rfl rfl rfl <| R.fixv (t := 86) (v' := .bool true) rfl (by rfl) <| Rm C rfl rfl <| R.fixv (t := 87) (v' := .bool true) rfl (by rfl) <| Rm C rfl rfl <| Rm C rfl rfl <| R.int C rfl rfl rfl rfl b_eql <| R.fixv (t := 90) (v' := .bool true) rfl (by (exact congrArg Value.bool (by simp))) <| R.pickT C rfl rfl rfl rfl <| R.fixv (t := 91) (v' := .bool true) rfl (by rfl) <| Rm C rfl rfl <| R.fixv (t := 92) (v' := .bool true) rfl (by rfl) <| Rm C rfl rfl <| Rm C rfl rfl <| R.int C rfl rfl rfl rfl b_eql <| R.fixv (t := 95) (v' := .bool true) rfl (by (exact congrArg Value.bool (by simp))) <| R.pickT C rfl rfl rfl rfl <| R.fixv (t := 96) (v' := .bool true) rfl (by rfl) <| Rm C rfl rfl <| R.fixv (t := 97) (v' := .bool true) rfl (by rfl) <| Rm C rfl rfl <| Rm C rfl rfl ?_; refine R.int C rfl rfl rfl rfl b_eql <| R.fixv (t := 100) (v' := .bool true) rfl (by (exact congrArg Value.bool (by simp))) <| R.pickT C rfl rfl rfl rfl <| R.fixv (t := 101) (v' := .bool true) rfl (by rfl) <| Rm C rfl rfl <| R.fixv (t := 102) (v' := .bool true) rfl (by rfl) <| R.callR C rfl rfl rfl rfl ((found_c _ (he.mono hL))) fun v9 ro9' hl9' hq9 => R.pickT C rfl rfl rfl rfl <| Ad C rfl rfl <| X.ret0 C (by kernel_rfl) rfl rfl func13 rfl (by exact (.tmp rfl .nil)) fun w9 hs9 => hret _ _ _ (RO.le_trans hL hl9') ?_ w9 hs9
    exact hq9
end Go.Lg.B
namespace Go.Lg.B
open Go Go.Proofs Go.Proofs.YtlkmnfdipiielaaGreatDoor Go.Proofs.Tryz
set_option maxRecDepth 100000
theorem witnesses_k1 : (Rows.bearingWitnessesRow.inPlace == prog.inPlace 13) = true := by kernel_rfl
theorem witnesses_k2 : (Rows.bearingWitnessesRow.unfollowed == prog.unfollowed 13) = true := by kernel_rfl
theorem witnesses_k3 : (Rows.bearingWitnessesRow.recurses == prog.recurses 13) = true := by kernel_rfl
theorem witnesses_k4 : (Rows.bearingWitnessesRow.named == prog.varsNamed 13) = true := by kernel_rfl
theorem witnesses_name : prog.funcNamed "lagan/laganlaw01.BearingWitnesses" = some 13 := by kernel_rfl
theorem witnesses_goes : true = Rows.bearingWitnessesRow.goesBy prog := by kernel_rfl
theorem witnesses_wf : Rows.bearingWitnessesRow.wfByText (OpenSpec.ofChange Rows.bearingWitnessesSpec) = true := by kernel_rfl
theorem witnesses_facts : joinedFacts prog 13 Tryz.f13 Rows.bearingWitnessesSpec Rows.bearingWitnessesRow = true := by
  unfold joinedFacts
  exact (and_mk (and_mk (and_mk (and_mk (and_mk (and_mk (and_mk (and_mk (and_mk (and_mk (and_mk (and_mk (and_mk (and_mk (and_mk (and_mk (and_mk (and_mk (and_mk (and_mk (and_mk (and_mk (and_mk (and_mk (and_mk (and_mk (and_mk (and_mk (and_mk (and_mk (and_mk (by as_aux_lemma => kernel_rfl)
    k_lo)
    k_mr)
    (by as_aux_lemma => kernel_rfl))
    (by as_aux_lemma => kernel_rfl))
    (by as_aux_lemma => kernel_rfl))
    k_stops)
    (by as_aux_lemma => kernel_rfl))
    k_knobs)
    witnesses_k1)
    witnesses_k2)
    witnesses_k3)
    witnesses_k4)
    (by as_aux_lemma => kernel_rfl))
    (by as_aux_lemma => kernel_rfl))
    (by as_aux_lemma => kernel_rfl))
    (by as_aux_lemma => kernel_rfl))
    (by as_aux_lemma => kernel_rfl))
    (by as_aux_lemma => kernel_rfl))
    (by as_aux_lemma => kernel_rfl))
    (by as_aux_lemma => kernel_rfl))
    (by as_aux_lemma => kernel_rfl))
    (beq_iff_eq.2 k_pk.symm))
    (by as_aux_lemma => kernel_rfl))
    k_heard)
    k_may)
    (beq_iff_eq.2 k_lift.symm))
    (beq_iff_eq.2 k_make))
    (by as_aux_lemma => kernel_rfl))
    (by as_aux_lemma => kernel_rfl))
    (by as_aux_lemma => kernel_rfl))
    (by as_aux_lemma => kernel_rfl))
end Go.Lg.B
namespace Go.Proofs.YtlkmnfdipiielaaGreatDoor
open Go Go.Conc Go.Lg Go.Lg.B Go.ChangeShapes Go.RowKit Go.WideShapes
set_option maxRecDepth 100000
theorem witnesses_lifted (os : Os) (started : os.Started) (H : Type) (enc : TypeId × Value → H) :
    ReturnsInLeavingWide {} Tryz.checked os 13 .any (fun w args => (Rows.bearingWitnessesSpec.pre enc Tryz.prog Tryz.f13 [] false w args ∧ laidMetH Tryz.prog laid1 w) ∧ sizedMet enc Tryz.prog Tryz.f13 (OpenSpec.ofChange Rows.bearingWitnessesSpec) false w args)
      (Rows.bearingWitnessesSpec.post enc Tryz.prog Tryz.f13 false true false false) := by
  refine leaving_of_root (C := Tryz.checked) (tb := 4) (X := fun w _ => laidMetH Tryz.prog laid1 w) (fun _ _ _ hh h => h.of_heap hh) own0 started Tryz.func13 laid0 (by
      intro t ht
      rw [Tryz.params13] at ht
      have hm : t ∈ [25] := ht
      have hall : ([25].all fun u => Tryz.prog.readableRec u && decide (u < Tryz.prog.types.size)) = true := by kernel_rfl
      have := List.all_eq_true.1 hall t hm
      rw [Bool.and_eq_true, decide_eq_true_eq] at this
      exact this) rfl (by kernel_rfl) Tryz.underlying4
    (ChangeSpec.witness_shaped (enc := enc) (C := Tryz.checked) (os := os) (X := fun w _ => laidMetH Tryz.prog laid1 w) false (World.doorLaid Tryz.prog 89 os) #[.agg #[.int .i64 0, .int .i64 0, .int .i64 0, .slice none 0 0, .slice none 0 0]] 8 rfl (door_shaped os _) (by kernel_rfl) (by kernel_rfl) (by kernel_rfl) (door_met os _)) ?_
  intro W base args ds gs before hval hW _ _ hL
  obtain ⟨p, q, hA, hV, rfl, _, _⟩ := hW
  obtain ⟨rfl, rfl⟩ := trodVars_none hV
  have hA : DataW.TrodAll enc Tryz.prog W 0 (fun _ => true) true Tryz.f13.params.toList args.toList ds p := hA
  have hval : ∀ (j : Nat) t v, Tryz.f13.params[j]? = some t → args[j]? = some v → Value.okWide Tryz.prog W .any base t v := hval
  rw [Tryz.params13] at hA hval
  obtain ⟨v1, l1, d1, k1, p1, q1, e1, rfl, rfl, h1, hA⟩ := trodAll_cons hA
  obtain ⟨rfl, rfl, rfl⟩ := trodAll_nil hA
  have ea : args = #[v1] := Array.toList_inj.1 e1
  subst ea
  obtain ⟨b, b1⟩ := argBk (hval 0 25 v1 rfl rfl) h1
  exact ⟨rfl, witnesses_root (env_of_laid hL) b1⟩
theorem witnesses_row : Rows.BearingWitnessesSaid :=
  OpenClaim.holds_of_wide_leaving 13 Tryz.f13 rfl rfl rfl rfl rfl rfl rfl ⟨rfl, rfl, rfl, rfl, rfl⟩ rfl rfl rfl rfl rfl witnesses_name Tryz.func13 witnesses_facts
    (of_decide_eq_true (by kernel_rfl)) (by unfold Func.isWrapper; first | (rw [if_pos (by decide +kernel)]; kernel_rfl) | (rw [if_neg (by decide +kernel)]; exact ⟨rfl, rfl⟩))
    (fun os started H enc _ => witnesses_lifted os started H enc)
theorem witnesses_holds : Rows.BearingWitnessesCardSaid :=
  card_goes .later [.funcs] true (true, "6da441031df1273c87b994104071112c0d6d76e328f9edd428a3df0ab3bd48e1") true
    witnesses_row witnesses_wf bearingWitnesses_row_tie rfl ⟨rfl, rfl⟩ k_main rfl
    (fun f fn hf hfn => by
      obtain rfl : f = 13 := Option.some.inj (witnesses_name.symm.trans hf) |>.symm
      obtain rfl : fn = Tryz.f13 := (Option.some.inj (Tryz.func13.symm.trans hfn)).symm
      exact ⟨k_looks, fun j t ht => by
        rw [Tryz.params13] at ht
        have hm : t ∈ [25] := by simpa using Array.mem_of_getElem? ht
        have hall : ([25].all fun u => !Tryz.prog.wantsStandIn u) = true := by kernel_rfl
        exact (show Tryz.prog.wantsStandIn t = false by simpa using List.all_eq_true.1 hall t hm)⟩)
    witnesses_goes
end Go.Proofs.YtlkmnfdipiielaaGreatDoor
