/-
  It is proved that the given function answers true for every input, whatever is scheduled: the statement Clashes of the seat. Conditions: none but those of the given statement itself.
-/
import Derived.Test.YtlkmnfdipiielaaGreatDoorKE
import Derived.ChangeArms
import Derived.WideShapes
import Derived.ChangeShapes
import Derived.Conc.Holds
set_option maxRecDepth 100000
set_option linter.all false
set_option linter.unusedVariables false
set_option linter.unusedSimpArgs false
set_option linter.unusedSectionVars false
namespace Go.Lg.B
open Go Go.Conc Go.Lg Go.Proofs Go.Proofs.Tryz
def sound (b : Bk) : Bool × Int := if checkChart b ≠ 0 then (false, checkChart b) else (together b (everybody b), 0)
variable {main : Bool} {J : Goroutine → Mem → Prop} (hJ : Closed prog main J)
include hJ
theorem sound_c {b : Bk} {v : Value} {ro : RO} (he : Env ro) (hv : BkV ro v b) (hs : b.short) : CallR prog J (fnv 64) [v] ro (fun w _ => w = .tuple [.bool (sound b).1, .int .i64 (sound b).2].toArray) := by
  have hvv := hv
  obtain ⟨vc, vw, rfl, hc, hw⟩ := hv
  obtain ⟨cb, cc, rfl⟩ := hc.form
  obtain ⟨wb, wc, rfl⟩ := hw.form
  refine CallR.intro hJ (by kernel_rfl) fun c cs tail hret => enter_X (n := 17) func64 rfl rfl (Nl rfl) ?_
  have C : Ctx prog main J (bf 64 .normal) := ⟨hJ, by decide⟩
  refine Xr C rfl rfl <| R.box C rfl rfl rfl rfl fun p1 => R.asg C rfl rfl rfl <| Ad C rfl rfl <| Xs C <| Xr C rfl rfl <| R.loadAgg C rfl rfl rfl isAgg25 sizeOf25 (by repeat (first | exact Mh | apply Mt)) Tk5 <| R.callP C rfl rfl rfl rfl (checkChart_c hJ (by assumption) (by assumption) (by assumption)) <| Ad C rfl rfl <| Xr C rfl rfl <| Rm C rfl rfl <| R.int C rfl rfl rfl rfl b_neq <| R.done C <| X.cond C.1 rfl (fun hh => ?_) (fun hh => ?_)
  · have hh := hh
    refine Xr C rfl rfl <| Rm C rfl rfl <| R.asg C rfl rfl rfl <| Ad C rfl rfl <| X.ret C rfl rfl func64 rfl (by exact (.tmp rfl (.tmp rfl .nil))) <| Hr hret (RO.le_refl _) ?_
    simp at hh; simp [sound, hh, retVal]
  · have hh := hh
    simp at hh
    have hb := good_iff.1 hh
    have hnw := hb.nw
    have hev : everybody b < 2 ^ 63 := Nat.lt_of_le_of_lt (Nat.sub_le _ _) (pow62 (n := b.ws.length) (by omega))
    refine X.skip C.1 <| Xr C rfl rfl <| R.loadAgg C rfl rfl rfl isAgg25 sizeOf25 (by repeat (first | exact Mh | apply Mt)) Tk5 <| R.build C rfl rfl rfl zeroValue105 rfl runUnderlying105 (by kernel_rfl) (Fills.part rfl rfl sizeOf25 rfl (.here (.here (.here (.here (.here .nil))))) .nil) <| R.alloc C rfl rfl zeroValue105 rfl fun p5 => R.store C rfl rfl rfl rfl sizeOf105 rfl rfl rfl (by repeat (first | exact Uh | apply Ut)) (.here (.here (.here (.here (.here .nil))))) <| R.done C <| Xs C <| Xd C fun hok => D5 C 0 hok rfl rfl isAgg105 sizeOf105 (by repeat (first | exact Mh | apply Mt)) Tk5 <| D5 C 1 hok rfl rfl isAgg105 sizeOf105 (by repeat (first | exact Mh | apply Mt)) Tk5 <| De 2 (some 15) [false, true] hok (fun σr rest A hk => ?_)
    refine R.callP C rfl (A.w rfl rfl) (A.x rfl rfl) (A.s rfl rfl) (everybody_c hJ hvv (by omega)) (hk _ _ ⟨(QFs.cons (QF.of rfl (fun _ _ A h => R.loadAgg C rfl (A.w rfl rfl) (A.x rfl rfl) isAgg105 sizeOf105 (by repeat (first | exact Mh | apply Mt)) Tk5 h)) QFs.nil), ?_⟩)
    refine De 3 (some 16) [false] hok (fun σr rest A hk => ?_)
    refine R.callR C rfl (A.w rfl rfl) (A.x rfl rfl) (A.s rfl rfl) (together_c hJ hvv hb hev) fun v' ro' hle' hp' => hk _ _ ⟨QFs.nil, ?_⟩
    refine Dp 4 hok (fun _ _ _ A h => R.asg C rfl (A.w rfl rfl) (A.x rfl rfl) h) <| Dp 5 hok (fun _ _ _ A h => R.asg C rfl (A.w rfl rfl) (A.x rfl rfl) h) <| D.done C hok (by kernel_rfl) ?_
    subst hp'
    refine X.ret C rfl rfl func64 rfl (by exact (.tmp rfl (.tmp rfl .nil))) <| Hr hret hle' ?_
    simp [sound, hh, retVal]
end Go.Lg.B
namespace Go.Lg
open Go
abbrev roOf (W : World) : RO := fun b => W.heap[b]?
theorem Sub.of_get {off n : Nat} {l out : List Value} (hn : off + n ≤ l.length) (ho : out.length = n) (h : ∀ i, i < n → l[off + i]? = out[i]?) : Sub off n l out := by
  have e : out = (l.drop off).take n := by
    refine List.ext_getElem? fun i => ?_
    by_cases hi : i < n
    · rw [← h i hi, List.getElem?_take_of_lt hi, List.getElem?_drop]
    · rw [List.getElem?_eq_none (by omega), List.getElem?_eq_none (by simp; omega)]
  rw [e]; exact Sub.of hn
theorem cell_block {W : World} {a : Addr} {v : Value} (h : W.cell? a = some v) : a.spot = none ∧ ∃ l t fq, W.heap[a.block]? = some (.cells l t fq) ∧ l[a.off]? = some v := by
  unfold World.cell? at h
  split at h
  · rename_i c t fq hc
    split at h
    · cases h
    · rename_i hs
      exact ⟨by simpa using hs, c, t, fq, hc, h⟩
  · cases h
theorem cells_get {W : World} {base : Nat} {a : Addr} {n : Nat} {l : List Value} (h : W.cells? base a n = some l) : l.length = n ∧ ∀ i, i < n → W.cell? (a.add i) = l[i]? := by
  unfold World.cells? at h
  split at h
  · refine ⟨by simpa using mapM_some_length h, fun i hi => mapM_some_get h i i (by simp [hi])⟩
  · cases h
theorem add_add (a : Addr) (i j : Nat) : (a.add i).add j = a.add (i + j) := by
  by_cases h1 : i = 0 <;> by_cases h2 : j = 0 <;> simp [Addr.add, h1, h2] <;> omega
theorem add_none {a : Addr} (h : a.spot = none) (i : Nat) : a.add i = ⟨a.block, a.off + i, none⟩ := by
  obtain ⟨b, o, s⟩ := a
  subst h
  by_cases h1 : i = 0 <;> simp [Addr.add, h1]
section
variable {H : Type} {enc0 : TypeId × Value → H} {P : Program} {W : World} {base : Nat} {sp : Nat → Bool} {held : Bool}
theorem ls_of_trod {α : Type} {enc : α → List Value} {k : Nat} {t e : TypeId} {fuel : Nat} {cs : List Value} {x : DataW H × List MemPlace} (ht : P.underlying t = some (.slice e)) (hc : P.cellsOf e = k) (hk : 0 < k) (hlen : ∀ x, (enc x).length = k)
    (hel : ∀ n cs z, DataW.trod enc0 P W base sp held n e cs = some z → ∃ y, cs = enc y) (h : DataW.trod enc0 P W base sp held fuel t cs = some x) : ∃ v xs, cs = [v] ∧ Ls enc k (roOf W) v xs := by
  subst hc
  rcases DataW.trod_slice ht h with ⟨rfl, _⟩ | ⟨a, len, cap, elems, rest, n, _, rfl, _, hb, hl, _, hlen2, hel2, _⟩
  · exact ⟨_, [], rfl, .nil⟩
  · have one : ∀ i, i < len → ∃ y : α, W.cells? base (a.add (i * P.cellsOf e)) (P.cellsOf e) = some (enc y) := fun i hi => by
      have h1 := hel2 i hi
      rw [List.getElem?_eq_getElem (by omega)] at h1
      obtain ⟨l, h2, h3⟩ := Option.bind_eq_some_iff.1 h1
      obtain ⟨y, rfl⟩ := hel _ _ _ h3
      exact ⟨y, h2⟩
    have all : ∀ m, m ≤ len → ∃ ys : List α, ys.length = m ∧ ∀ j, j < m * P.cellsOf e → W.cell? (a.add j) = (ys.flatMap enc)[j]? := by
      intro m
      induction m with
      | zero => exact fun _ => ⟨[], rfl, fun j hj => by omega⟩
      | succ m ih =>
        intro hm
        obtain ⟨ys, h1, h2⟩ := ih (by omega)
        obtain ⟨y, hy⟩ := one m (by omega)
        refine ⟨ys ++ [y], by simp [h1], fun j hj => ?_⟩
        have hfl : (ys.flatMap enc).length = m * P.cellsOf e := by rw [flatMap_len hlen, h1]
        rw [List.flatMap_append]
        by_cases hjm : j < m * P.cellsOf e
        · rw [List.getElem?_append_left (by omega)]; exact h2 j hjm
        · rw [List.getElem?_append_right (by omega), hfl]
          have := (cells_get hy).2 (j - m * P.cellsOf e) (by rw [Nat.succ_mul] at hj; omega)
          simp only [List.flatMap_cons, List.flatMap_nil, List.append_nil]
          rw [← this, add_add]
          congr 2
          omega
    obtain ⟨ys, h1, h2⟩ := all len (Nat.le_refl _)
    refine ⟨_, ys, rfl, some a, cap, by rw [h1], ?_⟩
    by_cases h0 : len = 0
    · exact .inl (List.eq_nil_of_length_eq_zero (by omega))
    · right
      have hfl : (ys.flatMap enc).length = len * P.cellsOf e := by rw [flatMap_len hlen, h1]
      have hpos : 0 < len * P.cellsOf e := Nat.mul_pos (by omega) hk
      have hlast := h2 (len * P.cellsOf e - 1) (by omega)
      rw [List.getElem?_eq_getElem (by omega)] at hlast
      have hfirst := h2 0 hpos
      rw [List.getElem?_eq_getElem (by omega)] at hfirst
      have hs : a.spot = none := (cell_block hfirst).1
      rw [add_none hs] at hlast
      obtain ⟨_, l, t', fq, hh, hl2⟩ := cell_block hlast
      refine ⟨a.block, a.off, l.toList, t', fq, by obtain ⟨ab, ao, az⟩ := a; subst hs; rfl, by rw [Array.toArray_toList]; exact hh, ?_⟩
      rw [h1]
      have hlt : a.off + (len * P.cellsOf e - 1) < l.size := (Array.getElem?_eq_some_iff.1 hl2).1
      refine Sub.of_get (by simp; omega) hfl fun i hi => ?_
      have := h2 i hi
      rw [add_none hs] at this
      unfold World.cell? at this
      simp only at this
      rw [hh] at this
      simpa using this
theorem int_of_trod {t : TypeId} {k : IntKind} {fuel : Nat} {cs : List Value} {x : DataW H × List MemPlace} (ht : P.underlying t = some (.int k)) (h : DataW.trod enc0 P W base sp held fuel t cs = some x) : ∃ n, cs = [.int k n] ∧ (Lit.int k n).wf = true := by
  cases fuel with
  | zero => simp [DataW.trod] at h
  | succ n =>
    unfold DataW.trod at h
    rw [ht] at h
    split at h <;> simp_all
theorem bool_of_trod {t : TypeId} {fuel : Nat} {cs : List Value} {x : DataW H × List MemPlace} (ht : P.underlying t = some .bool) (h : DataW.trod enc0 P W base sp held fuel t cs = some x) : ∃ b, cs = [.bool b] := by
  cases fuel with
  | zero => simp [DataW.trod] at h
  | succ n =>
    unfold DataW.trod at h
    rw [ht] at h
    split at h <;> simp_all
end
end Go.Lg
namespace Go.Lg.B
open Go Go.Conc Go.Lg Go.Proofs Go.WideShapes Go.ChangeShapes Go.Proofs.Tryz
set_option maxRecDepth 100000
theorem cells3 : prog.cellsOf 3 = 1 := by kernel_rfl
theorem cells4 : prog.cellsOf 4 = 1 := by kernel_rfl
theorem cells22 : prog.cellsOf 22 = 1 := by kernel_rfl
theorem cells23 : prog.cellsOf 23 = 1 := by kernel_rfl
theorem cells25 : prog.cellsOf 25 = 5 := by kernel_rfl
theorem cells27 : prog.cellsOf 27 = 2 := by kernel_rfl
theorem cells46 : prog.cellsOf 46 = 2 := by kernel_rfl
theorem cells58 : prog.cellsOf 58 = 5 := by kernel_rfl
section
variable {H : Type} {enc0 : TypeId × Value → H} {W : World} {base : Nat} {sp : Nat → Bool} {held : Bool}
theorem field_of {P : Program} {t : TypeId} {fs : Array Field} {fuel : Nat} {cs : List Value} {x : DataW H × List MemPlace} (ht : P.underlying t = some (.struct fs)) (h : DataW.trod enc0 P W base sp held fuel t cs = some x) :
    cs.length = P.cellsOf t ∧ ∀ (i : Nat) (f : Field), fs[i]? = some f → ∃ n z, DataW.trod enc0 P W base sp held n f.type ((cs.drop f.offset).take (P.cellsOf f.type)) = some z := by
  obtain ⟨xs, n, _, _, h1, h2, h3⟩ := DataW.trod_struct ht h
  refine ⟨h1, fun i f hf => ?_⟩
  have hi : i < xs.length := by rw [h2]; exact (Array.getElem?_eq_some_iff.1 hf).1
  exact ⟨n, xs[i], by rw [h3 i f hf, List.getElem?_eq_getElem hi]⟩
theorem sq_of {n : Nat} {cs : List Value} {z : DataW H × List MemPlace} (h : DataW.trod enc0 prog W base sp held n 27 cs = some z) : ∃ s : Sq, cs = s.cells := by
  obtain ⟨hl, hf⟩ := field_of underlying27 h
  rw [cells27] at hl
  match cs, hl with
  | [a, c], _ =>
    have g0 : ∃ n z, DataW.trod enc0 prog W base sp held n 3 (([a, c].drop 0).take (prog.cellsOf 3)) = some z := hf 0 _ rfl
    rw [cells3] at g0
    obtain ⟨_, _, h0⟩ := g0
    have g1 : ∃ n z, DataW.trod enc0 prog W base sp held n 3 (([a, c].drop 1).take (prog.cellsOf 3)) = some z := hf 1 _ rfl
    rw [cells3] at g1
    obtain ⟨_, _, h1⟩ := g1
    obtain ⟨x0, e0, _⟩ := int_of_trod underlying3 h0
    obtain ⟨x1, e1, _⟩ := int_of_trod underlying3 h1
    simp at e0 e1
    subst e0; subst e1
    exact ⟨⟨x0, x1⟩, rfl⟩
theorem rc_of {n : Nat} {cs : List Value} {z : DataW H × List MemPlace} (h : DataW.trod enc0 prog W base sp held n 46 cs = some z) : ∃ s : Rc, cs = s.cells := by
  obtain ⟨hl, hf⟩ := field_of underlying46 h
  rw [cells46] at hl
  match cs, hl with
  | [a, c], _ =>
    have g0 : ∃ n z, DataW.trod enc0 prog W base sp held n 3 (([a, c].drop 0).take (prog.cellsOf 3)) = some z := hf 0 _ rfl
    rw [cells3] at g0
    obtain ⟨_, _, h0⟩ := g0
    have g1 : ∃ n z, DataW.trod enc0 prog W base sp held n 3 (([a, c].drop 1).take (prog.cellsOf 3)) = some z := hf 1 _ rfl
    rw [cells3] at g1
    obtain ⟨_, _, h1⟩ := g1
    obtain ⟨x0, e0, _⟩ := int_of_trod underlying3 h0
    obtain ⟨x1, e1, _⟩ := int_of_trod underlying3 h1
    simp at e0 e1
    subst e0; subst e1
    exact ⟨⟨x0, x1⟩, rfl⟩
theorem wt_of {n : Nat} {cs : List Value} {z : DataW H × List MemPlace} (h : DataW.trod enc0 prog W base sp held n 58 cs = some z) : ∃ s : Wt, cs = s.cells := by
  obtain ⟨hl, hf⟩ := field_of underlying58 h
  rw [cells58] at hl
  match cs, hl with
  | [a, c, d, e, f], _ =>
    have g0 : ∃ n z, DataW.trod enc0 prog W base sp held n 27 (([a, c, d, e, f].drop 0).take (prog.cellsOf 27)) = some z := hf 0 _ rfl
    rw [cells27] at g0
    obtain ⟨_, _, h0⟩ := g0
    have g1 : ∃ n z, DataW.trod enc0 prog W base sp held n 3 (([a, c, d, e, f].drop 2).take (prog.cellsOf 3)) = some z := hf 1 _ rfl
    rw [cells3] at g1
    obtain ⟨_, _, h1⟩ := g1
    have g2 : ∃ n z, DataW.trod enc0 prog W base sp held n 3 (([a, c, d, e, f].drop 3).take (prog.cellsOf 3)) = some z := hf 2 _ rfl
    rw [cells3] at g2
    obtain ⟨_, _, h2⟩ := g2
    have g3 : ∃ n z, DataW.trod enc0 prog W base sp held n 4 (([a, c, d, e, f].drop 4).take (prog.cellsOf 4)) = some z := hf 3 _ rfl
    rw [cells4] at g3
    obtain ⟨_, _, h3⟩ := g3
    obtain ⟨s, e0⟩ := sq_of h0
    obtain ⟨x1, e1, _⟩ := int_of_trod underlying3 h1
    obtain ⟨x2, e2, _⟩ := int_of_trod underlying3 h2
    obtain ⟨x3, e3⟩ := bool_of_trod underlying4 h3
    simp [Sq.cells] at e0 e1 e2 e3
    obtain ⟨rfl, rfl⟩ := e0
    subst e1; subst e2; subst e3
    exact ⟨⟨s, x1, x2, x3⟩, rfl⟩
theorem rcs_of {n : Nat} {cs : List Value} {z : DataW H × List MemPlace} (h : DataW.trod enc0 prog W base sp held n 22 cs = some z) : ∃ v xs, cs = [v] ∧ Ls Rc.cells 2 (fun b => W.heap[b]?) v xs :=
  ls_of_trod underlying22 cells46 (by decide) Rc.len (fun _ _ _ h => rc_of h) h
theorem wts_of {n : Nat} {cs : List Value} {z : DataW H × List MemPlace} (h : DataW.trod enc0 prog W base sp held n 23 cs = some z) : ∃ v xs, cs = [v] ∧ Ls Wt.cells 5 (fun b => W.heap[b]?) v xs :=
  ls_of_trod underlying23 cells58 (by decide) Wt.len (fun _ _ _ h => wt_of h) h
theorem argBk {r : Reach} {b0 : Nat} {v : Value} {d : DataW H} {p : List MemPlace} (hv : Value.okWide prog W r b0 25 v) (h : DataW.Trod enc0 prog W base sp held 25 v d p) : ∃ b, BkV (fun b => W.heap[b]?) v b := by
  obtain ⟨⟨cs⟩, rfl, _⟩ := okWide_struct underlying25 hv
  obtain ⟨n, h⟩ := h
  obtain ⟨hl, hf⟩ := field_of (cs := cs) underlying25 h
  rw [cells25] at hl
  match cs, hl with
  | [a, c, d, e, f], _ =>
    have g0 : ∃ n z, DataW.trod enc0 prog W base sp held n 3 (([a, c, d, e, f].drop 0).take (prog.cellsOf 3)) = some z := hf 0 _ rfl
    rw [cells3] at g0
    obtain ⟨_, _, h0⟩ := g0
    have g1 : ∃ n z, DataW.trod enc0 prog W base sp held n 3 (([a, c, d, e, f].drop 1).take (prog.cellsOf 3)) = some z := hf 1 _ rfl
    rw [cells3] at g1
    obtain ⟨_, _, h1⟩ := g1
    have g2 : ∃ n z, DataW.trod enc0 prog W base sp held n 3 (([a, c, d, e, f].drop 2).take (prog.cellsOf 3)) = some z := hf 2 _ rfl
    rw [cells3] at g2
    obtain ⟨_, _, h2⟩ := g2
    have g3 : ∃ n z, DataW.trod enc0 prog W base sp held n 22 (([a, c, d, e, f].drop 3).take (prog.cellsOf 22)) = some z := hf 3 _ rfl
    rw [cells22] at g3
    obtain ⟨_, _, h3⟩ := g3
    have g4 : ∃ n z, DataW.trod enc0 prog W base sp held n 23 (([a, c, d, e, f].drop 4).take (prog.cellsOf 23)) = some z := hf 4 _ rfl
    rw [cells23] at g4
    obtain ⟨_, _, h4⟩ := g4
    obtain ⟨x0, e0, _⟩ := int_of_trod underlying3 h0
    obtain ⟨x1, e1, _⟩ := int_of_trod underlying3 h1
    obtain ⟨x2, e2, _⟩ := int_of_trod underlying3 h2
    obtain ⟨v3, x3, e3, l3⟩ := rcs_of h3
    obtain ⟨v4, x4, e4, l4⟩ := wts_of h4
    simp at e0 e1 e2 e3 e4
    subst e0; subst e1; subst e2; subst e3; subst e4
    exact ⟨⟨x0, x1, x2, x3, x4⟩, _, _, rfl, l3, l4⟩
end
end Go.Lg.B
namespace Go.Lg.B
open Go Go.Conc Go.Lg Go.Proofs Go.Proofs.Tryz
def climbsH (n : Int) : Option Int → List Int → Int
  | _, [] => 0
  | q, k :: l => if !between k 0 (n - 1) then 6 else if q.any (fun x => decide (k ≤ x)) then 7 else climbsH n (some k) l
def prev (l : List Int) : Nat → Option Int
  | 0 => none
  | i + 1 => l[i]?
section
variable {main : Bool} {J : Goroutine → Mem → Prop} (hJ : Closed prog main J)
include hJ
theorem nearR_c (s : Sq) (ro : RO) : CallP prog J (fnv 83) [s.val] ro (.bool (isPlace s)) := by
  refine CallP.intro hJ (by kernel_rfl) fun c cs tail hret => enter_X (n := 11) func83 rfl rfl (Nl rfl) ?_
  have C : Ctx prog main J (bf 83 .normal) := ⟨hJ, by decide⟩
  refine Xr C rfl rfl <| R.box C rfl rfl rfl rfl fun p1 => Ad C rfl rfl <| Xr C rfl rfl <| Rf C 0 rfl rfl runUnderlying27 rfl sizeOf3 <| R.loadOne C rfl rfl rfl isAgg3 (by repeat (first | exact Mh | apply Mt)) rfl <| R.callP C rfl rfl rfl rfl (betweenR_c hJ _ _ _ _) <| Rm C rfl rfl <| R.fix (t := 6) rfl (fun q1 => ?_) (fun q1 => ?_)
  · have q1 := q1
    refine Rf C 1 rfl rfl runUnderlying27 rfl sizeOf3 <| R.loadOne C rfl rfl rfl isAgg3 (by repeat (first | exact Mh | apply Mt)) rfl <| R.callP C rfl rfl rfl rfl (betweenR_c hJ _ _ _ _) <| R.pickT C rfl rfl rfl rfl <| Ad C rfl rfl <| Xt C func83 <| Hp hret ?_
    simp_all [isPlace, retVal]
  · have q1 := q1
    refine R.pass C rfl rfl <| R.pass C rfl rfl <| R.pass C rfl rfl <| R.pickF C rfl rfl rfl rfl <| Ad C rfl rfl <| Xt C func83 <| Hp hret ?_
    simp_all [isPlace, retVal]
theorem insideR_c (x : Rc) (l m : Int) (ro : RO) : CallP prog J (fnv 90) [x.val, .int .i64 l, .int .i64 m] ro (.bool (isReach x l m)) := by
  refine CallP.intro hJ (by kernel_rfl) fun c cs tail hret => enter_X (n := 24) func90 rfl rfl (Nl rfl) ?_
  have C : Ctx prog main J (bf 90 .normal) := ⟨hJ, by decide⟩
  refine Xr C rfl rfl <| R.box C rfl rfl rfl rfl fun p3 => Ad C rfl rfl <| Xr C rfl rfl <| Rm C rfl rfl <| Rf C 0 rfl rfl runUnderlying46 rfl sizeOf3 <| R.loadOne C rfl rfl rfl isAgg3 (by repeat (first | exact Mh | apply Mt)) rfl <| R.int C rfl rfl rfl rfl b_leq <| Rm C rfl rfl <| R.fix (t := 11) rfl (fun q1 => ?_) (fun q1 => ?_)
  · have q1 := q1
    refine Rf C 0 rfl rfl runUnderlying46 rfl sizeOf3 <| R.loadOne C rfl rfl rfl isAgg3 (by repeat (first | exact Mh | apply Mt)) rfl <| Rf C 1 rfl rfl runUnderlying46 rfl sizeOf3 <| R.loadOne C rfl rfl rfl isAgg3 (by repeat (first | exact Mh | apply Mt)) rfl <| R.int C rfl rfl rfl rfl b_leq <| R.pickT C rfl rfl rfl rfl <| Rm C rfl rfl <| R.fix (t := 18) rfl (fun q2 => ?_) (fun q2 => ?_)
    · have q2 := q2
      refine Rf C 1 rfl rfl runUnderlying46 rfl sizeOf3 <| R.loadOne C rfl rfl rfl isAgg3 (by repeat (first | exact Mh | apply Mt)) rfl <| Rm C rfl rfl <| R.int C rfl rfl rfl rfl b_leq <| R.pickT C rfl rfl rfl rfl <| Ad C rfl rfl <| Xt C func90 <| Hp hret ?_
      first | (simp_all [isReach, retVal]; done) | (simp_all [isReach, retVal]; omega)
    · have q2 := q2
      refine R.pass C rfl rfl <| R.pass C rfl rfl <| R.pass C rfl rfl <| R.pass C rfl rfl <| R.pickF C rfl rfl rfl rfl <| Ad C rfl rfl <| Xt C func90 <| Hp hret ?_
      first | (simp_all [isReach, retVal]; done) | (simp_all [isReach, retVal]; omega)
  · have q1 := q1
    refine R.pass C rfl rfl <| R.pass C rfl rfl <| R.pass C rfl rfl <| R.pass C rfl rfl <| R.pass C rfl rfl <| R.pickF C rfl rfl rfl rfl <| Rm C rfl rfl <| R.pass C rfl rfl <| R.pass C rfl rfl <| R.pass C rfl rfl <| R.pass C rfl rfl <| R.pickF C rfl rfl rfl rfl <| Ad C rfl rfl <| Xt C func90 <| Hp hret ?_
    first | (simp_all [isReach, retVal]; done) | (simp_all [isReach, retVal]; omega)
theorem isCompassR_c {b : Bk} {v : Value} {ro : RO} (hv : BkV ro v b) (hb : b.short) (k : Int) : CallP prog J (fnv 91) [v, .int .i64 k] ro (.bool (between k 0 (b.cs.length - 1))) := by
  obtain ⟨vc, vw, rfl, hc, hw⟩ := hv
  obtain ⟨h1, h2⟩ := hb
  obtain ⟨b1, c1, rfl⟩ := hc.form
  refine CallP.intro hJ (by kernel_rfl) fun c cs tail hret => enter_X (n := 11) func91 rfl rfl (Nl rfl) ?_
  have C : Ctx prog main J (bf 91 .normal) := ⟨hJ, by decide⟩
  refine Xr C rfl rfl <| R.box C rfl rfl rfl rfl fun p2 => Ad C rfl rfl <| Xr C rfl rfl <| Rm C rfl rfl <| Rf C 3 rfl rfl runUnderlying25 rfl sizeOf22 <| R.loadOne C rfl rfl rfl isAgg22 (by repeat (first | exact Mh | apply Mt)) rfl <| R.lenSlice C rfl rfl rfl runUnderlying22 <| R.int C rfl rfl rfl rfl (b_sub (by omega) (by omega)) <| R.callP C rfl rfl rfl rfl (betweenR_c hJ _ _ _ _) <| Ad C rfl rfl <| Xt C func91 <| Hp hret ?_
  simp_all [retVal]
theorem greatR_c {b : Bk} {v : Value} {ro : RO} (hv : BkV ro v b) : CallP prog J (fnv 18) [v] ro (.bool (decide (20 < b.cs.length) || decide (20 < b.ws.length))) := by
  obtain ⟨vc, vw, rfl, hc, hw⟩ := hv
  obtain ⟨b1, c1, rfl⟩ := hc.form
  obtain ⟨b2, c2, rfl⟩ := hw.form
  refine CallP.intro hJ (by kernel_rfl) fun c cs tail hret => enter_X (n := 13) func18 rfl rfl (Nl rfl) ?_
  have C : Ctx prog main J (bf 18 .normal) := ⟨hJ, by decide⟩
  refine Xr C rfl rfl <| R.box C rfl rfl rfl rfl fun p1 => Ad C rfl rfl <| Xr C rfl rfl <| Rf C 3 rfl rfl runUnderlying25 rfl sizeOf22 <| R.loadOne C rfl rfl rfl isAgg22 (by repeat (first | exact Mh | apply Mt)) rfl <| R.lenSlice C rfl rfl rfl runUnderlying22 <| R.int C rfl rfl rfl rfl b_gtr <| Rm C rfl rfl <| R.fix (t := 7) rfl (fun q1 => ?_) (fun q1 => ?_)
  · have q1 := q1
    refine R.pass C rfl rfl <| R.pass C rfl rfl <| R.pass C rfl rfl <| R.pass C rfl rfl <| R.pickT C rfl rfl rfl rfl <| Ad C rfl rfl <| Xt C func18 <| Hp hret ?_
    (simp only [decide_eq_true_eq, decide_eq_false_iff_not, retVal] at *; refine congrArg Value.bool ?_; rw [Bool.eq_iff_iff]; simp; try omega)
  · have q1 := q1
    refine Rf C 4 rfl rfl runUnderlying25 rfl sizeOf23 <| R.loadOne C rfl rfl rfl isAgg23 (by repeat (first | exact Mh | apply Mt)) rfl <| R.lenSlice C rfl rfl rfl runUnderlying23 <| R.int C rfl rfl rfl rfl b_gtr <| R.pickF C rfl rfl rfl rfl <| Ad C rfl rfl <| Xt C func18 <| Hp hret ?_
    (simp only [decide_eq_true_eq, decide_eq_false_iff_not, retVal] at *; refine congrArg Value.bool ?_; rw [Bool.eq_iff_iff]; simp; try omega)
end
end Go.Lg.B
namespace Go.Lg.B
open Go Go.Conc Go.Lg Go.Proofs Go.Proofs.Tryz
theorem rz_iff {k : Int} : ∀ {m : Nat} {n : Int}, k ∈ rz n m ↔ n ≤ k ∧ k < n + m
  | 0, n => by simp only [rz, List.not_mem_nil, false_iff]; omega
  | m + 1, n => by rw [rz, List.mem_cons, rz_iff]; omega
theorem maskOf_bit (p : Nat → Bool) (i : Nat) : ∀ n, (maskOf p n).testBit i = (decide (i < n) && p i)
  | 0 => by simp [maskOf]
  | n + 1 => by
    simp only [maskOf]
    by_cases h : p n = true
    · rw [if_pos h, Nat.testBit_or, maskOf_bit, Nat.testBit_two_pow]
      by_cases e : i = n
      · subst e; simp [h]
      · have : (i < n + 1) ↔ i < n := by omega
        simp [Ne.symm e, this]
    · rw [if_neg h, maskOf_bit]
      by_cases e : i = n
      · subst e; simp [h]
      · have : (i < n + 1) ↔ i < n := by omega
        simp [this]
theorem and_zero {a c : Nat} : (a &&& c == 0) = true ↔ ∀ i, a.testBit i = true → c.testBit i = false := by
  rw [beq_iff_eq]
  constructor
  · intro h i ha
    have := congrArg (fun x => x.testBit i) h
    simpa only [Nat.testBit_and, ha, Nat.zero_testBit, Bool.true_and] using this
  · intro h
    refine Nat.eq_of_testBit_eq fun i => ?_
    simp only [Nat.testBit_and, Nat.zero_testBit]
    cases ha : a.testBit i
    · simp
    · simp [h i ha]
theorem bits_mem (m : Nat) (k : Int) : ∀ n, k ∈ bitsUpto m n ↔ ∃ i : Nat, i < n ∧ m.testBit i = true ∧ k = i
  | 0 => by simp [bitsUpto]
  | n + 1 => by
    simp only [bitsUpto]
    have ih := bits_mem m k n
    by_cases h : m.testBit n = true
    · rw [if_pos h, List.mem_append, ih, List.mem_singleton]
      constructor
      · rintro (⟨i, h1, h2, h3⟩ | rfl)
        · exact ⟨i, by omega, h2, h3⟩
        · exact ⟨n, by omega, h, rfl⟩
      · rintro ⟨i, h1, h2, h3⟩
        by_cases e : i = n
        · exact .inr (by rw [h3, e])
        · exact .inl ⟨i, by omega, h2, h3⟩
    · rw [if_neg h, ih]
      constructor
      · rintro ⟨i, h1, h2, h3⟩; exact ⟨i, by omega, h2, h3⟩
      · rintro ⟨i, h1, h2, h3⟩
        by_cases e : i = n
        · rw [e] at h2; exact absurd h2 h
        · exact ⟨i, by omega, h2, h3⟩
theorem bits_up (m : Nat) : ∀ n, List.Pairwise (· < ·) (bitsUpto m n)
  | 0 => List.Pairwise.nil
  | n + 1 => by
    simp only [bitsUpto]
    split
    · refine List.pairwise_append.2 ⟨bits_up m n, List.pairwise_singleton _ _, fun x hx y hy => ?_⟩
      obtain ⟨i, h1, _, rfl⟩ := (bits_mem m x n).1 hx
      obtain rfl := List.mem_singleton.1 hy
      omega
    · exact bits_up m n
theorem up_nodup {l : List Int} (h : List.Pairwise (· < ·) l) : l.Nodup := h.imp fun h => by omega
theorem up_ext {l m : List Int} (hl : List.Pairwise (· < ·) l) (hm : List.Pairwise (· < ·) m) (h : ∀ x, x ∈ l ↔ x ∈ m) : l = m :=
  List.Perm.eq_of_pairwise (fun a b _ _ h1 h2 => by omega) hl hm ((List.perm_ext_iff_of_nodup (up_nodup hl) (up_nodup hm)).2 h)
theorem listOf_eq {m : Nat} {l : List Int} (hl : List.Pairwise (· < ·) l) (hr : ∀ k ∈ l, 0 ≤ k ∧ k < 5) (hm : ∀ i : Nat, m.testBit i = l.contains (i : Int)) : listOf m = l := by
  refine up_ext (bits_up m 5) hl fun x => ?_
  unfold listOf
  rw [bits_mem]
  constructor
  · rintro ⟨i, _, h2, rfl⟩
    rw [hm] at h2; simpa using h2
  · intro hx
    obtain ⟨h1, h2⟩ := hr x hx
    refine ⟨x.toNat, by omega, ?_, by omega⟩
    rw [hm, show ((x.toNat : Nat) : Int) = x by omega]
    simpa using hx
end Go.Lg.B
namespace Go.Lg.B
open Go Go.Conc Go.Lg Go.Proofs Go.Proofs.Tryz
section
variable {main : Bool} {J : Goroutine → Mem → Prop} (hJ : Closed prog main J)
include hJ
theorem checkChartR_c {b : Bk} {v : Value} {ro : RO} (hv : BkV ro v b) (hs : b.short) : CallP prog J (fnv 25) [v] ro (.int .i64 (checkChart b)) := by
  have hvv := hv
  obtain ⟨vc, vw, rfl, hc, hw⟩ := hv
  obtain ⟨b1, c1, rfl⟩ := hc.form
  obtain ⟨b2, c2, rfl⟩ := hw.form
  have hs0 := hs
  obtain ⟨hs1, hs2⟩ := hs
  by_cases hch : b.chart = 0
  · have hch' : between b.w 2 7 = true ∧ between b.h 2 7 = true ∧ between b.f 0 2 = true := by
      simp only [Bk.chart] at hch
      cases h1 : between b.w 2 7 <;> cases h2 : between b.h 2 7 <;> cases h3 : between b.f 0 2 <;> simp [h1, h2, h3] at hch ⊢
    obtain ⟨g1, g2, g3⟩ := hch'
    refine CallP.intro hJ (by kernel_rfl) fun c cs tail hret => enter_X (n := 82) func25 rfl rfl (Nl rfl) ?_
    have C : Ctx prog main J (bf 25 .normal) := ⟨hJ, by decide⟩
    refine Xr C rfl rfl <| R.box C rfl rfl rfl rfl fun p1 => Ad C rfl rfl <| Xs C <| Xr C rfl rfl <| Rf C 0 rfl rfl runUnderlying25 rfl sizeOf3 <| R.loadOne C rfl rfl rfl isAgg3 (by repeat (first | exact Mh | apply Mt)) rfl <| R.callP C rfl rfl rfl rfl (betweenR_c hJ _ _ _ _) <| R.not C rfl rfl rfl <| R.fixv (t := 10) (v' := .bool false) rfl (by (rw [g1]; rfl)) <| Rm C rfl rfl <| Rf C 1 rfl rfl runUnderlying25 rfl sizeOf3 <| R.loadOne C rfl rfl rfl isAgg3 (by repeat (first | exact Mh | apply Mt)) rfl <| R.callP C rfl rfl rfl rfl (betweenR_c hJ _ _ _ _) <| R.not C rfl rfl rfl <| R.fixv (t := 15) (v' := .bool false) rfl (by (rw [g2]; rfl)) <| R.pickF C rfl rfl rfl rfl <| Rm C rfl rfl <| Rf C 2 rfl rfl runUnderlying25 rfl sizeOf3 <| R.loadOne C rfl rfl rfl isAgg3 (by repeat (first | exact Mh | apply Mt)) rfl <| R.callP C rfl rfl rfl rfl (betweenR_c hJ _ _ _ _) <| R.not C rfl rfl rfl <| R.fixv (t := 21) (v' := .bool false) rfl (by (rw [g3]; rfl)) <| R.pickF C rfl rfl rfl rfl <| R.done C <| X.cond C.1 rfl (fun h => nomatch h) (fun _ => ?_)
    refine X.skip C.1 <| Xs C <| Xr C rfl rfl <| Rf C 3 rfl rfl runUnderlying25 rfl sizeOf22 <| R.loadOne C rfl rfl rfl isAgg22 (by repeat (first | exact Mh | apply Mt)) rfl <| R.lenSlice C rfl rfl rfl runUnderlying22 <| R.callP C rfl rfl rfl rfl (betweenR_c hJ _ _ _ _) <| R.not C rfl rfl rfl <| R.done C <| X.cond C.1 rfl (fun hn => ?_) (fun hn => ?_)
    · have hn := hn
      refine Xr C rfl rfl <| Ad C rfl rfl <| Xt C func25 <| Hp hret ?_
      simp only [checkChart, hch, Bk.compassesH]
      simp_all [retVal]
    · have hn := hn
      have hn' : between (b.cs.length : Int) 1 3 = true := by simpa using hn
      refine X.skip C.1 <| Xs C <| Xr C rfl rfl <| Ad C rfl rfl <| X.block C.1 <| X.loopI (ι := Nat) C.1 (fun i => i ≤ b.cs.length ∧ csH (b.cs.drop i) = csH b.cs) (fun i => [(1, .pointer (some ⟨p1, 0, none⟩)), (3, .int .i64 (i : Int))])
        (fun _ => ⟨ro, (p1, .cells [.int .i64 b.w, .int .i64 b.h, .int .i64 b.f, .slice b1 b.cs.length c1, .slice b2 b.ws.length c2].toArray 25 (0, 0)) :: tail⟩) (fun i => b.cs.length - i) 0 ⟨Nat.zero_le _, rfl⟩ rfl ⟨rfl, rfl, trivial⟩ fun i hi hnext => ?_
      obtain ⟨hi, hr⟩ := hi
      refine Xs C <| Xr C rfl rfl <| Rm C rfl rfl <| Rf C 3 rfl rfl runUnderlying25 rfl sizeOf22 <| R.loadOne C rfl rfl rfl isAgg22 (by repeat (first | exact Mh | apply Mt)) rfl <| R.lenSlice C rfl rfl rfl runUnderlying22 <| R.int C rfl rfl rfl rfl b_lss <| R.done C <| X.cond C.1 rfl (fun hlt => ?_) (fun hlt => ?_)
      · have hlt := hlt
        simp only [decide_eq_true_eq] at hlt
        have hi' : i < b.cs.length := by omega
        obtain ⟨p, off, cap, l, t, fq, hsl, hrop, hsub⟩ := hc.at Rc.len (by omega)
        cases hsl
        rw [List.drop_eq_getElem_cons hi'] at hr
        simp only [csH] at hr
        refine X.skip C.1 <| Xs C <| X.block C.1 <| Xr C rfl rfl <| Rf C 3 rfl rfl runUnderlying25 rfl sizeOf22 <| R.loadOne C rfl rfl rfl isAgg22 (by repeat (first | exact Mh | apply Mt)) rfl <| Rm C rfl rfl <| Rx C rfl rfl rfl runUnderlying22 sizeOf46 <| R.loadAggRo C rfl rfl rfl isAgg46 sizeOf46 hrop (hsub i hi') <| R.alloc C rfl rfl zeroValue46 rfl fun p4 => R.store C rfl rfl rfl rfl sizeOf46 rfl rfl rfl (by repeat (first | exact Uh | apply Ut)) (.here (.here .nil)) <| R.done C <| Xr C rfl rfl <| R.loadAgg C rfl rfl rfl isAgg46 sizeOf46 (by repeat (first | exact Mh | apply Mt)) Tk2 <| R.callP C rfl rfl rfl rfl (insideR_c hJ b.cs[i] _ _ _) <| R.not C rfl rfl rfl <| Rm C rfl rfl <| R.fix (t := 43) rfl (fun hg => ?_) (fun hg => ?_)
        · have hg := hg
          have hf : (b.cs[i]).fine = false := by simp at hg; simp [Rc.fine, hg]
          simp [hf] at hr
          refine R.pass C rfl rfl <| R.pass C rfl rfl <| R.pass C rfl rfl <| R.pass C rfl rfl <| R.pass C rfl rfl <| R.pass C rfl rfl <| R.pickT C rfl rfl rfl rfl <| R.done C <| X.cond C.1 rfl (fun _ => ?_) (fun h => nomatch h)
          refine Xr C rfl rfl <| Ad C rfl rfl <| Xt C func25 <| Hp hret ?_
          simp [checkChart, hch, Bk.compassesH, hn', retVal, ← hr]
        · have hg := hg
          have hbd := isReach_bd (x := b.cs[i]) (by simpa using hg)
          refine Rf C 1 rfl rfl runUnderlying46 rfl sizeOf3 <| R.loadOne C rfl rfl rfl isAgg3 (by repeat (first | exact Mh | apply Mt)) rfl <| Rf C 0 rfl rfl runUnderlying46 rfl sizeOf3 <| R.loadOne C rfl rfl rfl isAgg3 (by repeat (first | exact Mh | apply Mt)) rfl <| R.int C rfl rfl rfl rfl (b_sub (by omega) (by omega)) <| R.int C rfl rfl rfl rfl b_geq <| R.pickF C rfl rfl rfl rfl <| R.done C <| X.cond C.1 rfl (fun hd => ?_) (fun hd => ?_)
          · have hd := hd
            have hf : (b.cs[i]).fine = false := by simp at hd; simp [Rc.fine]; intro _; omega
            simp [hf] at hr
            refine Xr C rfl rfl <| Ad C rfl rfl <| Xt C func25 <| Hp hret ?_
            simp [checkChart, hch, Bk.compassesH, hn', retVal, ← hr]
          · have hd := hd
            refine X.skip C.1 <| X.inBlock C.1 <| X.region C rfl rfl <| Rm C rfl rfl <| R.int C rfl rfl rfl rfl (b_add (by omega) (by omega)) <| Ad C rfl rfl ?_
            have hf : (b.cs[i]).fine = true := by simp at hd hg; simp [Rc.fine, hg]; omega
            simp [hf] at hr
            refine X.weak C.1 (Weak.sub (List.sublist_cons_self _ _)) (X.weaken ?_ (hnext (i + 1) ⟨by omega, hr⟩ (by omega)))
            exact ⟨rfl, by simp [look], trivial⟩
      · have hlt := hlt
        simp only [decide_eq_false_iff_not] at hlt
        obtain rfl : i = b.cs.length := by omega
        have hcs : b.compassesH = 0 := by simp [csH] at hr; simp [Bk.compassesH, hn', ← hr]
        have hcc : checkChart b = b.witnessesH := by simp [checkChart, hch, hcs]
        refine X.exit C.1 rfl <| Xs C <| Xr C rfl rfl <| Rf C 4 rfl rfl runUnderlying25 rfl sizeOf23 <| R.loadOne C rfl rfl rfl isAgg23 (by repeat (first | exact Mh | apply Mt)) rfl <| R.lenSlice C rfl rfl rfl runUnderlying23 <| R.int C rfl rfl rfl rfl b_gtr <| R.done C <| X.cond C.1 rfl (fun h5 => ?_) (fun h5 => ?_)
        · have h5 := h5
          refine Xr C rfl rfl <| Ad C rfl rfl <| Xt C func25 <| Hp hret ?_
          simp at h5
          rw [hcc]
          simp [Bk.witnessesH, retVal]; omega
        · have h5 := h5
          simp at h5
          refine X.skip C.1 <| Xs C <| Xr C rfl rfl <| Ad C rfl rfl <| X.block C.1 <| X.loopI (ι := Nat) C.1 (fun i => i ≤ b.ws.length ∧ wtsH b.cs.length (b.ws.drop i) = wtsH b.cs.length b.ws) (fun i => [(1, .pointer (some ⟨p1, 0, none⟩)), (5, .int .i64 (i : Int))])
            (fun _ => ⟨ro, (p1, .cells [.int .i64 b.w, .int .i64 b.h, .int .i64 b.f, .slice b1 b.cs.length c1, .slice b2 b.ws.length c2].toArray 25 (0, 0)) :: tail⟩) (fun i => b.ws.length - i) 0 ⟨Nat.zero_le _, rfl⟩ rfl ⟨rfl, rfl, trivial⟩ fun i hi hnext2 => ?_
          obtain ⟨hi, hr⟩ := hi
          refine Xs C <| Xr C rfl rfl <| Rm C rfl rfl <| Rf C 4 rfl rfl runUnderlying25 rfl sizeOf23 <| R.loadOne C rfl rfl rfl isAgg23 (by repeat (first | exact Mh | apply Mt)) rfl <| R.lenSlice C rfl rfl rfl runUnderlying23 <| R.int C rfl rfl rfl rfl b_lss <| R.done C <| X.cond C.1 rfl (fun hlt2 => ?_) (fun hlt2 => ?_)
          · have hlt2 := hlt2
            simp only [decide_eq_true_eq] at hlt2
            have hi' : i < b.ws.length := by omega
            obtain ⟨p, off, cap, l, t, fq, hsl, hrop, hsub⟩ := hw.at Wt.len (by omega)
            cases hsl
            rw [List.drop_eq_getElem_cons hi'] at hr
            simp only [wtsH] at hr
            refine X.skip C.1 <| Xs C <| X.block C.1 <| Xr C rfl rfl <| Rf C 4 rfl rfl runUnderlying25 rfl sizeOf23 <| R.loadOne C rfl rfl rfl isAgg23 (by repeat (first | exact Mh | apply Mt)) rfl <| Rm C rfl rfl <| Rx C rfl rfl rfl runUnderlying23 sizeOf58 <| R.loadAggRo C rfl rfl rfl isAgg58 sizeOf58 hrop (hsub i hi') <| R.alloc C rfl rfl zeroValue58 rfl fun p6 => R.store C rfl rfl rfl rfl sizeOf58 rfl rfl rfl (by repeat (first | exact Uh | apply Ut)) (.here (.here (.here (.here (.here .nil))))) <| R.done C <| Xs C <| Xr C rfl rfl <| Rf C 0 rfl rfl runUnderlying58 rfl sizeOf27 <| R.loadAgg C rfl rfl rfl isAgg27 sizeOf27 (by repeat (first | exact Mh | apply Mt)) Tk2 <| R.callP C rfl rfl rfl rfl (nearR_c hJ (b.ws[i]).s _) <| R.not C rfl rfl rfl <| Rm C rfl rfl <| R.fix (t := 71) rfl (fun hg2 => ?_) (fun hg2 => ?_)
            · have hg2 := hg2
              refine R.pass C rfl rfl <| R.pass C rfl rfl <| R.pass C rfl rfl <| R.pass C rfl rfl <| R.pickT C rfl rfl rfl rfl <| R.done C <| X.cond C.1 rfl (fun _ => ?_) (fun h => nomatch h)
              refine Xr C rfl rfl <| Ad C rfl rfl <| Xt C func25 <| Hp hret ?_
              simp at hg2
              simp [hg2] at hr
              rw [hcc]
              simp [Bk.witnessesH, retVal, ← hr]; omega
            · have hg2 := hg2
              refine Rf C 2 rfl rfl runUnderlying58 rfl sizeOf3 <| R.loadOne C rfl rfl rfl isAgg3 (by repeat (first | exact Mh | apply Mt)) rfl <| R.callP C rfl rfl rfl rfl (betweenR_c hJ _ _ _ _) <| R.not C rfl rfl rfl <| R.pickF C rfl rfl rfl rfl <| R.done C <| X.cond C.1 rfl (fun hd => ?_) (fun hd => ?_)
              · have hd := hd
                refine Xr C rfl rfl <| Ad C rfl rfl <| Xt C func25 <| Hp hret ?_
                simp at hg2 hd
                simp [hg2, hd] at hr
                rw [hcc]
                simp [Bk.witnessesH, retVal, ← hr]; omega
              · have hd := hd
                refine X.skip C.1 <| Xr C rfl rfl <| R.loadAgg C rfl rfl rfl isAgg25 sizeOf25 (by repeat (first | exact Mh | apply Mt)) Tk5 <| Rf C 3 rfl rfl runUnderlying58 rfl sizeOf3 <| R.loadOne C rfl rfl rfl isAgg3 (by repeat (first | exact Mh | apply Mt)) rfl <| R.callP C rfl rfl rfl rfl (isCompassR_c hJ hvv hs0 _) <| R.not C rfl rfl rfl <| R.done C <| X.cond C.1 rfl (fun hk => ?_) (fun hk => ?_)
                · have hk := hk
                  refine Xr C rfl rfl <| Ad C rfl rfl <| Xt C func25 <| Hp hret ?_
                  simp at hg2 hd hk
                  simp [hg2, hd, there, hk] at hr
                  rw [hcc]
                  simp [Bk.witnessesH, retVal, ← hr]; omega
                · have hk := hk
                  refine X.skip C.1 <| X.inBlock C.1 <| X.region C rfl rfl <| Rm C rfl rfl <| R.int C rfl rfl rfl rfl (b_add (by omega) (by omega)) <| Ad C rfl rfl ?_
                  simp at hg2 hd hk
                  simp [hg2, hd, there, hk] at hr
                  refine X.weak C.1 (Weak.sub (List.sublist_cons_self _ _)) (X.weaken ?_ (hnext2 (i + 1) ⟨by omega, hr⟩ (by omega)))
                  exact ⟨rfl, by simp [look], trivial⟩
          · have hlt2 := hlt2
            simp only [decide_eq_false_iff_not] at hlt2
            obtain rfl : i = b.ws.length := by omega
            simp [wtsH] at hr
            refine X.exit C.1 rfl <| Xr C rfl rfl <| Ad C rfl rfl <| Xt C func25 <| Hp hret ?_
            rw [hcc]
            simp [Bk.witnessesH, retVal, ← hr]; omega
  · have hone : b.chart = 1 := by
      simp only [Bk.chart] at hch ⊢
      split at hch
      · rename_i h; rw [if_pos h]
      · exact absurd rfl hch
    have hcc : checkChart b = 1 := by rw [checkChart, if_pos hch, hone]
    have hany : (!between b.w 2 7 || !between b.h 2 7 || !between b.f 0 2) = true := by
      simp only [Bk.chart] at hch
      split at hch
      · assumption
      · exact absurd rfl hch
    by_cases g1 : between b.w 2 7 = true
    · by_cases g2 : between b.h 2 7 = true
      · have g3 : between b.f 0 2 = false := by simpa [g1, g2] using hany
        refine CallP.intro hJ (by kernel_rfl) fun c cs tail hret => enter_X (n := 82) func25 rfl rfl (Nl rfl) ?_
        have C : Ctx prog main J (bf 25 .normal) := ⟨hJ, by decide⟩
        refine Xr C rfl rfl <| R.box C rfl rfl rfl rfl fun p1 => Ad C rfl rfl <| Xs C <| Xr C rfl rfl <| Rf C 0 rfl rfl runUnderlying25 rfl sizeOf3 <| R.loadOne C rfl rfl rfl isAgg3 (by repeat (first | exact Mh | apply Mt)) rfl <| R.callP C rfl rfl rfl rfl (betweenR_c hJ _ _ _ _) <| R.not C rfl rfl rfl <| R.fixv (t := 10) (v' := .bool false) rfl (by (rw [g1]; rfl)) <| Rm C rfl rfl <| Rf C 1 rfl rfl runUnderlying25 rfl sizeOf3 <| R.loadOne C rfl rfl rfl isAgg3 (by repeat (first | exact Mh | apply Mt)) rfl <| R.callP C rfl rfl rfl rfl (betweenR_c hJ _ _ _ _) <| R.not C rfl rfl rfl <| R.fixv (t := 15) (v' := .bool false) rfl (by (rw [g2]; rfl)) <| R.pickF C rfl rfl rfl rfl <| Rm C rfl rfl <| Rf C 2 rfl rfl runUnderlying25 rfl sizeOf3 <| R.loadOne C rfl rfl rfl isAgg3 (by repeat (first | exact Mh | apply Mt)) rfl <| R.callP C rfl rfl rfl rfl (betweenR_c hJ _ _ _ _) <| R.not C rfl rfl rfl <| R.fixv (t := 21) (v' := .bool true) rfl (by (rw [g3]; rfl)) <| R.pickF C rfl rfl rfl rfl <| R.done C <| X.cond C.1 rfl (fun _ => ?_) (fun h => nomatch h)
        refine Xr C rfl rfl <| Ad C rfl rfl <| Xt C func25 <| Hp hret ?_
        rw [hcc]; rfl
      · have g2 : between b.h 2 7 = false := by simpa using g2
        refine CallP.intro hJ (by kernel_rfl) fun c cs tail hret => enter_X (n := 82) func25 rfl rfl (Nl rfl) ?_
        have C : Ctx prog main J (bf 25 .normal) := ⟨hJ, by decide⟩
        refine Xr C rfl rfl <| R.box C rfl rfl rfl rfl fun p1 => Ad C rfl rfl <| Xs C <| Xr C rfl rfl <| Rf C 0 rfl rfl runUnderlying25 rfl sizeOf3 <| R.loadOne C rfl rfl rfl isAgg3 (by repeat (first | exact Mh | apply Mt)) rfl <| R.callP C rfl rfl rfl rfl (betweenR_c hJ _ _ _ _) <| R.not C rfl rfl rfl <| R.fixv (t := 10) (v' := .bool false) rfl (by (rw [g1]; rfl)) <| Rm C rfl rfl <| Rf C 1 rfl rfl runUnderlying25 rfl sizeOf3 <| R.loadOne C rfl rfl rfl isAgg3 (by repeat (first | exact Mh | apply Mt)) rfl <| R.callP C rfl rfl rfl rfl (betweenR_c hJ _ _ _ _) <| R.not C rfl rfl rfl <| R.fixv (t := 15) (v' := .bool true) rfl (by (rw [g2]; rfl)) <| R.pickF C rfl rfl rfl rfl <| Rm C rfl rfl <| R.pass C rfl rfl <| R.pass C rfl rfl <| R.pass C rfl rfl <| R.pass C rfl rfl <| R.pickT C rfl rfl rfl rfl <| R.done C <| X.cond C.1 rfl (fun _ => ?_) (fun h => nomatch h)
        refine Xr C rfl rfl <| Ad C rfl rfl <| Xt C func25 <| Hp hret ?_
        rw [hcc]; rfl
    · have g1 : between b.w 2 7 = false := by simpa using g1
      refine CallP.intro hJ (by kernel_rfl) fun c cs tail hret => enter_X (n := 82) func25 rfl rfl (Nl rfl) ?_
      have C : Ctx prog main J (bf 25 .normal) := ⟨hJ, by decide⟩
      refine Xr C rfl rfl <| R.box C rfl rfl rfl rfl fun p1 => Ad C rfl rfl <| Xs C <| Xr C rfl rfl <| Rf C 0 rfl rfl runUnderlying25 rfl sizeOf3 <| R.loadOne C rfl rfl rfl isAgg3 (by repeat (first | exact Mh | apply Mt)) rfl <| R.callP C rfl rfl rfl rfl (betweenR_c hJ _ _ _ _) <| R.not C rfl rfl rfl <| R.fixv (t := 10) (v' := .bool true) rfl (by (rw [g1]; rfl)) <| Rm C rfl rfl <| R.pass C rfl rfl <| R.pass C rfl rfl <| R.pass C rfl rfl <| R.pass C rfl rfl <| R.pickT C rfl rfl rfl rfl <| Rm C rfl rfl <| R.pass C rfl rfl <| R.pass C rfl rfl <| R.pass C rfl rfl <| R.pass C rfl rfl <| R.pickT C rfl rfl rfl rfl <| R.done C <| X.cond C.1 rfl (fun _ => ?_) (fun h => nomatch h)
      refine Xr C rfl rfl <| Ad C rfl rfl <| Xt C func25 <| Hp hret ?_
      rw [hcc]; rfl
end
end Go.Lg.B
namespace Go.Lg.B
open Go Go.Conc Go.Lg Go.Proofs Go.Proofs.Tryz
theorem ic_at {l : List Int} {off : Nat} {ll : List Value} (hsub : ∀ i (hi : i < l.length), Sub (off + i * 1) 1 ll (ic l[i])) {i : Nat} (hi : i < l.length) : ll[off + i * 1]? = some (.int .i64 l[i]) := by
  have := (hsub i hi).get 0 (by decide)
  simpa [ic] using this
section
variable {main : Bool} {J : Goroutine → Mem → Prop} (hJ : Closed prog main J)
include hJ
theorem climbsR_c {v : Value} {ro : RO} {l : List Int} (hl : LsI ro v l) (hn : l.length ≤ 1000000) {n : Int} (hb : 0 ≤ n ∧ n ≤ 1000000) : CallP prog J (fnv 69) [v, .int .i64 n] ro (.int .i64 (climbsH n none l)) := by
  obtain ⟨lb, lc, rfl⟩ := hl.form
  refine CallP.intro hJ (by kernel_rfl) fun c cs tail hret => enter_X (n := 34) func69 rfl rfl (Nl rfl) ?_
  have C : Ctx prog main J (bf 69 .normal) := ⟨hJ, by decide⟩
  refine Xr C rfl rfl <| Ad C rfl rfl <| Xs C <| Xr C rfl rfl <| Ad C rfl rfl <| X.block C.1 <| X.loopI (ι := Nat) C.1 (fun i => i ≤ l.length ∧ climbsH n none l = climbsH n (prev l i) (l.drop i)) (fun i => [(0, .slice lb l.length lc), (1, .int .i64 n), (5, .int .i64 (i : Int))])
    (fun _ => ⟨ro, tail⟩) (fun i => l.length - i) 0 ⟨Nat.zero_le _, rfl⟩ rfl ⟨rfl, rfl, rfl, trivial⟩ fun i hi hnext => ?_
  obtain ⟨hi, hr⟩ := hi
  refine Xs C <| Xr C rfl rfl <| Rm C rfl rfl <| Rm C rfl rfl <| R.lenSlice C rfl rfl rfl runUnderlying28 <| R.int C rfl rfl rfl rfl b_lss <| R.done C <| X.cond C.1 rfl (fun hlt => ?_) (fun hlt => ?_)
  · have hlt := hlt
    simp only [decide_eq_true_eq] at hlt
    have hi' : i < l.length := by omega
    obtain ⟨pp, off, cap, ll, t, fq, hsl, hrop, hsub⟩ := hl.at ic_len (by omega)
    cases hsl
    have hx := ic_at hsub hi'
    rw [List.drop_eq_getElem_cons hi', climbsH] at hr
    refine X.skip C.1 <| Xs C <| X.block C.1 <| Xs C <| Xr C rfl rfl <| Rm C rfl rfl <| Rm C rfl rfl <| Rx C rfl rfl rfl runUnderlying28 sizeOf3 <| R.loadOneRo C rfl rfl rfl isAgg3 hrop hx <| Rm C rfl rfl <| R.int C rfl rfl rfl rfl (b_sub (by omega) (by omega)) <| R.callP C rfl rfl rfl rfl (betweenR_c hJ _ _ _ _) <| R.not C rfl rfl rfl <| R.done C <| X.cond C.1 rfl (fun hq => ?_) (fun hq => ?_)
    · have hq := hq
      have hq2 : between l[i] 0 (n - 1) = false := by simpa using hq
      rw [hq2] at hr
      refine Xr C rfl rfl <| Ad C rfl rfl <| Xt C func69 <| Hp hret ?_
      rw [hr]; rfl
    · have hq := hq
      have hq2 : between l[i] 0 (n - 1) = true := by simpa using hq
      rw [hq2] at hr
      simp only [Bool.not_true, Bool.false_eq_true, if_false] at hr
      by_cases h0 : i = 0
      · subst h0
        simp only [prev, Option.any_none, Bool.false_eq_true, if_false] at hr
        refine X.skip C.1 <| Xs C <| Xd C fun hok => Dm C 0 hok rfl rfl rfl <| Di C 1 hok rfl rfl rfl rfl rfl b_gtr <| D.fixv (t := 21) (v' := .bool false) rfl (by rfl) <| Dm C 2 hok rfl rfl rfl <| Du C 3 hok rfl <| Du C 4 hok rfl <| Du C 5 hok rfl <| Du C 6 hok rfl <| Du C 7 hok rfl <| Du C 8 hok rfl <| Du C 9 hok rfl <| Du C 10 hok rfl <| Du C 11 hok rfl <| Du C 12 hok rfl <| Dp 13 hok (fun _ _ _ A h => R.pickF C rfl (A.w rfl rfl) (A.x rfl rfl) (A.x rfl rfl) h) <| D.done C hok (by kernel_rfl) <| X.cond C.1 rfl (fun h => nomatch h) (fun _ => ?_)
        refine X.skip C.1 <| X.inBlock C.1 <| X.region C rfl rfl <| Rm C rfl rfl <| R.int C rfl rfl rfl rfl (b_add (by omega) (by omega)) <| Ad C rfl rfl <| X.weaken ?_ (hnext 1 ⟨hi', by rw [hr]; simp [prev, hi']⟩ (by omega))
        exact ⟨rfl, rfl, by simp [look], trivial⟩
      · obtain ⟨k, rfl⟩ : ∃ k, i = k + 1 := ⟨i - 1, by omega⟩
        have hk : k < l.length := by omega
        have hxk : ll[off + ((k + 1 : Nat) - 1 : Int).toNat * 1]? = some (.int .i64 l[k]) := by
          have := ic_at hsub hk
          rw [show (((k + 1 : Nat) : Int) - 1).toNat = k by omega]; exact this
        simp only [prev, List.getElem?_eq_getElem hk, Option.any_some, decide_eq_true_eq] at hr
        refine X.skip C.1 <| Xs C <| Xd C fun hok => Dm C 0 hok rfl rfl rfl <| Di C 1 hok rfl rfl rfl rfl rfl b_gtr <| D.fixv (t := 21) (v' := .bool true) rfl (by (exact congrArg Value.bool (by simp))) <| Dm C 2 hok rfl rfl rfl <| Dm C 3 hok rfl rfl rfl <| Dm C 4 hok rfl rfl rfl <| Dx C 5 hok rfl rfl rfl runUnderlying28 sizeOf3 <| Dl 6 hok (fun _ _ A h => R.loadOneRo C rfl (A.w rfl rfl) (A.x rfl rfl) isAgg3 hrop hx h) <| Dm C 7 hok rfl rfl rfl <| Dm C 8 hok rfl rfl rfl <| Di C 9 hok rfl rfl rfl rfl rfl (b_sub (by omega) (by omega)) <| Dx C 10 hok rfl rfl rfl runUnderlying28 sizeOf3 <| Dl 11 hok (fun _ _ A h => R.loadOneRo C rfl (A.w rfl rfl) (A.x rfl rfl) isAgg3 hrop hxk h) <| Di C 12 hok rfl rfl rfl rfl rfl b_leq <| Dp 13 hok (fun _ _ _ A h => R.pickT C rfl (A.w rfl rfl) (A.x rfl rfl) (A.x rfl rfl) h) <| D.done C hok (by kernel_rfl) <| X.cond C.1 rfl (fun hle => ?_) (fun hle => ?_)
        · have hle := hle
          have hle2 : l[k + 1] ≤ l[k] := by simpa using hle
          rw [if_pos hle2] at hr
          refine Xr C rfl rfl <| Ad C rfl rfl <| Xt C func69 <| Hp hret ?_
          rw [hr]; rfl
        · have hle := hle
          have hle2 : ¬ l[k + 1] ≤ l[k] := by simpa using hle
          rw [if_neg hle2] at hr
          refine X.skip C.1 <| X.inBlock C.1 <| X.region C rfl rfl <| Rm C rfl rfl <| R.int C rfl rfl rfl rfl (b_add (by omega) (by omega)) <| Ad C rfl rfl <| X.weaken ?_ (hnext (k + 1 + 1) ⟨hi', by rw [hr]; simp [prev, hi']⟩ (by omega))
          exact ⟨rfl, rfl, by simp [look], trivial⟩
  · have hlt := hlt
    simp only [decide_eq_false_iff_not] at hlt
    obtain rfl : i = l.length := by omega
    rw [List.drop_length, climbsH] at hr
    refine X.exit C.1 rfl <| Xr C rfl rfl <| Ad C rfl rfl <| Xt C func69 <| Hp hret ?_
    rw [hr]; rfl
end
end Go.Lg.B
namespace Go.Lg.B
open Go Go.Conc Go.Lg Go.Proofs Go.Proofs.Tryz
def ext (most : Int) (i : Nat) (l : List (List Int)) : List (List Int) := (l.filter fun x => decide ((x.length : Int) < most)).map fun x => x ++ [(i : Int)]
def sets (most : Int) : Nat → List (List Int)
  | 0 => [[]]
  | i + 1 => sets most i ++ ext most i (sets most i)
theorem sets_each (most : Int) : ∀ n, ∀ l ∈ sets most n, l.length ≤ n
  | 0, l, h => by simp [sets] at h; simp [h]
  | n + 1, l, h => by
    rcases List.mem_append.1 h with h | h
    · have := sets_each most n l h; omega
    · obtain ⟨x, hx, rfl⟩ := List.mem_map.1 h
      have := sets_each most n x (List.mem_filter.1 hx).1
      simp; omega
abbrev LE := Value × List Int
def le (p : LE) : List Value := [p.1]
section
variable {main : Bool} {J : Goroutine → Mem → Prop} (hJ : Closed prog main J)
include hJ
end
end Go.Lg.B
namespace Go.Lg.B
open Go Go.Conc Go.Lg Go.Proofs Go.Proofs.Tryz
def sqAt (w : Int) (n : Nat) : Sq := ⟨(n : Int) % w, (n : Int) / w⟩
def squares (b : Bk) : List Sq := (List.range (b.w * b.h).toNat).map (sqAt b.w)
section
variable {main : Bool} {J : Goroutine → Mem → Prop} (hJ : Closed prog main J)
include hJ
end
end Go.Lg.B
namespace Go.Lg.B
open Go Go.Conc Go.Lg Go.Proofs Go.Proofs.Tryz
def wideRc (x : Rc) : Nat := (x.hi + 1 - x.lo).toNat
def offsStep (x : Rc) (l : List (List Int)) : List (List Int) := l.flatMap fun o => (rz x.lo (wideRc x)).map fun n => o ++ [n]
def offsAll (l : List Rc) : List (List Int) := l.foldl (fun a x => offsStep x a) [[]]
theorem rz_take (lo : Int) : ∀ m, rz lo (m + 1) = rz lo m ++ [lo + m]
  | 0 => by simp [rz]
  | m + 1 => by
    have := rz_take (lo + 1) m
    rw [rz, this, rz]
    simp only [List.cons_append]
    congr 2
    rw [show lo + 1 + (m : Int) = lo + ((m + 1 : Nat) : Int) by omega]
section
variable {main : Bool} {J : Goroutine → Mem → Prop} (hJ : Closed prog main J)
include hJ
end
end Go.Lg.B
namespace Go.Lg.B
open Go Go.Conc Go.Lg Go.Proofs Go.Proofs.Tryz
abbrev CE := (Value × Value) × Cs
def ce (p : CE) : List Value := [.int .i64 p.2.s.e, .int .i64 p.2.s.n, p.1.1, p.1.2]
def LC (ro : RO) (v : Value) (l : List Cs) : Prop := ∃ xs : List CE, Ls ce 4 ro v xs ∧ xs.map (·.2) = l ∧ ∀ p ∈ xs, LsI ro p.1.1 p.2.o ∧ LsI ro p.1.2 p.2.f
def allR (b : Bk) (c : Cs) : Bool := (List.range b.ws.length).all fun i => c.f.contains (i : Int) || right (b.wt i) c.aim
def withAt (b : Bk) (l : List Int) (s : Sq) (os : List (List Int)) : List Cs := (os.filter fun o => allR b ⟨s, o, l⟩).map fun o => ⟨s, o, l⟩
def withFalse (b : Bk) (l : List Int) : List Cs := (squares b).flatMap fun s => withAt b l s (offsAll b.cs)
section
variable {main : Bool} {J : Goroutine → Mem → Prop} (hJ : Closed prog main J)
include hJ
end
end Go.Lg.B
namespace Go.Lg.B
open Go Go.Conc Go.Lg Go.Proofs Go.Proofs.Tryz
theorem LC.mono {ro ro' : RO} {v : Value} {l : List Cs} (h : LC ro v l) (hl : ro.le ro') : LC ro' v l := by
  obtain ⟨xs, h1, h2, h3⟩ := h
  exact ⟨xs, h1.mono hl, h2, fun p hp => ⟨(h3 p hp).1.mono hl, (h3 p hp).2.mono hl⟩⟩
section
variable {main : Bool} {J : Goroutine → Mem → Prop} (hJ : Closed prog main J)
include hJ
end
end Go.Lg.B
namespace Go.Lg.B
open Go Go.Conc Go.Lg Go.Proofs Go.Proofs.Tryz
theorem flat_congr {α β : Type} {f g : α → List β} : ∀ {l : List α}, (∀ x ∈ l, f x = g x) → l.flatMap f = l.flatMap g
  | [], _ => rfl
  | x :: l, h => by simp only [List.flatMap_cons, h x List.mem_cons_self, flat_congr fun y hy => h y (List.mem_cons_of_mem _ hy)]
theorem sets_iff {most : Int} (hm : 0 ≤ most) : ∀ (n : Nat) (l : List Int), l ∈ sets most n ↔ List.Pairwise (· < ·) l ∧ (∀ k ∈ l, 0 ≤ k ∧ k < (n : Int)) ∧ (l.length : Int) ≤ most
  | 0, l => by
    simp only [sets, List.mem_singleton]
    constructor
    · rintro rfl; simp [hm]
    · rintro ⟨_, h2, _⟩
      cases l with
      | nil => rfl
      | cons x l => have := h2 x List.mem_cons_self; omega
  | n + 1, l => by
    simp only [sets, List.mem_append, ext, List.mem_map, List.mem_filter, decide_eq_true_eq]
    constructor
    · rintro (h | ⟨x, ⟨hx, hlt⟩, rfl⟩)
      · obtain ⟨h1, h2, h3⟩ := (sets_iff hm n l).1 h
        exact ⟨h1, fun k hk => by have := h2 k hk; omega, h3⟩
      · obtain ⟨h1, h2, h3⟩ := (sets_iff hm n x).1 hx
        refine ⟨List.pairwise_append.2 ⟨h1, List.pairwise_singleton _ _, fun a ha c hc => ?_⟩, fun k hk => ?_, ?_⟩
        · rw [List.mem_singleton.1 hc]; exact (h2 a ha).2
        · rcases List.mem_append.1 hk with hk | hk
          · have := h2 k hk; omega
          · rw [List.mem_singleton.1 hk]; omega
        · simp; omega
    · rintro ⟨h1, h2, h3⟩
      rcases List.eq_nil_or_concat l with rfl | ⟨x, k, rfl⟩
      · exact .inl ((sets_iff hm n []).2 ⟨.nil, by simp, by simpa using hm⟩)
      · rw [List.concat_eq_append] at h1 h2 h3 ⊢
        obtain ⟨p1, _, p3⟩ := List.pairwise_append.1 h1
        have hk := h2 k (by simp)
        have hx : ∀ a ∈ x, a < k := fun a ha => p3 a ha k (by simp)
        simp only [List.length_append, List.length_cons, List.length_nil] at h3
        by_cases e : k = n
        · subst e
          exact .inr ⟨x, ⟨(sets_iff hm n x).2 ⟨p1, fun a ha => ⟨(h2 a (by simp [ha])).1, hx a ha⟩, by omega⟩, by omega⟩, rfl⟩
        · refine .inl ((sets_iff hm n _).2 ⟨h1, fun a ha => ⟨(h2 a ha).1, ?_⟩, by simp; omega⟩)
          rcases List.mem_append.1 ha with ha | ha
          · have := hx a ha; omega
          · rw [List.mem_singleton.1 ha]; omega
def maskL (n : Nat) (l : List Int) : Nat := maskOf (fun i => l.contains (i : Int)) n
theorem maskL_bit {n : Nat} {l : List Int} (h : ∀ k ∈ l, 0 ≤ k ∧ k < (n : Int)) (i : Nat) : (maskL n l).testBit i = l.contains (i : Int) := by
  rw [maskL, maskOf_bit]
  by_cases hi : i < n
  · simp [hi]
  · have : l.contains (i : Int) = false := by
      rw [Bool.eq_false_iff]; intro hc
      have := h _ (by simpa using hc); omega
    rw [this]; simp
theorem listOf_maskL {n : Nat} (hn : n ≤ 5) {l : List Int} (h1 : List.Pairwise (· < ·) l) (h2 : ∀ k ∈ l, 0 ≤ k ∧ k < (n : Int)) : listOf (maskL n l) = l :=
  listOf_eq h1 (fun k hk => by have := h2 k hk; omega) (maskL_bit h2)
theorem aims_eq {b : Bk} (hb : b.good) : aims b = (squares b).flatMap fun s => (offsAll b.cs).map fun o => Cs.aim ⟨s, o, []⟩ := by
  have hnc := hb.nc
  have hu : ∀ m, ups 0 m = List.range m := by
    have key : ∀ m n, ups n m = (List.range m).map (· + n) := by
      intro m
      induction m with
      | zero => intro n; rfl
      | succ m ih =>
        intro n
        rw [ups, ih, List.range_succ_eq_map, List.map_cons, List.map_map]
        simp only [Nat.zero_add, List.cons.injEq, true_and]
        refine List.map_congr_left fun x _ => ?_
        simp only [Function.comp]; omega
    intro m; rw [key]; simp
  obtain ⟨w, h, f, cs, ws⟩ := b
  unfold aims squares
  rw [hu, List.flatMap_map]
  refine flat_congr fun n _ => ?_
  have s0 : ∀ (a : Aim) (n : Int), a.set ((0 : Nat) : Int) n = { a with x := n } := fun _ _ => rfl
  have s1 : ∀ (a : Aim) (n : Int), a.set ((0 + 1 : Nat) : Int) n = { a with y := n } := fun _ _ => rfl
  have s2 : ∀ (a : Aim) (n : Int), a.set ((0 + 1 + 1 : Nat) : Int) n = { a with z := n } := fun _ _ => rfl
  simp only at hnc ⊢
  match cs, hnc with
  | [x], _ => simp [offs, offsAll, offsStep, s0, aimAt, Cs.aim, sqAt, wideRc, List.map_eq_flatMap, List.flatMap_assoc]; rfl
  | [x, y], _ => simp [offs, offsAll, offsStep, s0, s1, aimAt, Cs.aim, sqAt, wideRc, List.map_eq_flatMap, List.flatMap_assoc]; rfl
  | [x, y, z], _ => simp [offs, offsAll, offsStep, s0, s1, s2, aimAt, Cs.aim, sqAt, wideRc, List.map_eq_flatMap, List.flatMap_assoc]; rfl
end Go.Lg.B
namespace Go.Lg.B
open Go Go.Conc Go.Lg Go.Proofs Go.Proofs.Tryz
theorem getD_at {α : Type} {l : List α} {i : Nat} {d : α} (h : i < l.length) : l.getD i d = l[i] := by simp [h]
def soundP (b : Bk) (l : List Int) : Bool := !(withFalse b l).isEmpty
theorem everybody_bit (b : Bk) (i : Nat) : (everybody b).testBit i = decide (i < b.ws.length) := by
  rw [everybody, Nat.testBit_two_pow_sub_one]
theorem soundP_iff {b : Bk} {l : List Int} : soundP b l = true ↔ ∃ s ∈ squares b, ∃ o ∈ offsAll b.cs, ∀ i, i < b.ws.length → l.contains (i : Int) = false → right (b.wt i) (Cs.aim ⟨s, o, []⟩) = true := by
  unfold soundP withFalse withAt
  rw [Bool.not_eq_true', List.isEmpty_eq_false_iff_exists_mem]
  simp only [List.mem_flatMap, List.mem_map, List.mem_filter]
  have e : ∀ s o, allR b ⟨s, o, l⟩ = true ↔ ∀ i, i < b.ws.length → l.contains (i : Int) = false → right (b.wt i) (Cs.aim ⟨s, o, []⟩) = true := fun s o => by
    simp only [allR, List.all_eq_true, List.mem_range, Bool.or_eq_true]
    constructor
    · intro h i hi hc
      rcases h i hi with g | g
      · rw [hc] at g; cases g
      · exact g
    · intro h i hi
      cases hc : l.contains (i : Int)
      · exact .inr (h i hi hc)
      · exact .inl rfl
  constructor
  · rintro ⟨c, s, hs, o, ⟨ho, ha⟩, rfl⟩; exact ⟨s, hs, o, ho, (e s o).1 ha⟩
  · rintro ⟨s, hs, o, ho, ha⟩; exact ⟨_, s, hs, o, ⟨ho, (e s o).2 ha⟩, rfl⟩
theorem together_iff {b : Bk} (hb : b.good) (m : Nat) : together b m = true ↔ ∃ s ∈ squares b, ∃ o ∈ offsAll b.cs, ∀ i, i < b.ws.length → m.testBit i = true → right (b.wt i) (Cs.aim ⟨s, o, []⟩) = true := by
  unfold together
  rw [List.any_eq_true, aims_eq hb]
  simp only [List.mem_flatMap, List.mem_map]
  have e : ∀ a, (odd b a &&& m == 0) = true ↔ ∀ i, i < b.ws.length → m.testBit i = true → right (b.wt i) a = true := fun a => by
    rw [and_zero]
    simp only [odd, maskOf_bit, Bool.and_eq_true, decide_eq_true_eq, Bool.not_eq_true']
    constructor
    · intro h i hi hm
      cases hr : right (b.wt i) a
      · rw [h i ⟨hi, hr⟩] at hm; cases hm
      · rfl
    · rintro h i ⟨hi, hr⟩
      cases hm : m.testBit i
      · rfl
      · rw [h i hi hm] at hr; cases hr
  constructor
  · rintro ⟨a, ⟨s, hs, o, ho, rfl⟩, h⟩; exact ⟨s, hs, o, ho, (e _).1 h⟩
  · rintro ⟨s, hs, o, ho, h⟩; exact ⟨_, ⟨s, hs, o, ho, rfl⟩, (e _).2 h⟩
def othersL (l : List Int) (n : Nat) : List Int := (rz 0 n).filter fun k => !l.contains k
theorem others_in {l : List Int} {n i : Nat} (hi : i < n) : (othersL l n).contains (i : Int) = !l.contains (i : Int) := by
  rw [Bool.eq_iff_iff]
  simp only [othersL, List.contains_eq_mem, decide_eq_true_eq, List.mem_filter, rz_iff]
  constructor
  · exact fun h => h.2
  · exact fun h => ⟨⟨by omega, by omega⟩, h⟩
theorem clashP_mask {b : Bk} (hb : b.good) {l : List Int} (h : ∀ k ∈ l, 0 ≤ k ∧ k < (b.ws.length : Int)) : clashP b (maskL b.ws.length l) = !soundP b (othersL l b.ws.length) := by
  rw [clashP]
  congr 1
  rw [Bool.eq_iff_iff, together_iff hb, soundP_iff]
  simp only [maskL_bit h]
  constructor
  · rintro ⟨s, hs, o, ho, hh⟩; exact ⟨s, hs, o, ho, fun i hi hc => hh i hi (by rw [others_in hi] at hc; simpa using hc)⟩
  · rintro ⟨s, hs, o, ho, hh⟩; exact ⟨s, hs, o, ho, fun i hi hc => hh i hi (by rw [others_in hi, hc]; rfl)⟩
theorem sound_nil {b : Bk} (hb : b.good) : soundP b [] = together b (everybody b) := by
  rw [Bool.eq_iff_iff, together_iff hb, soundP_iff]
  simp only [everybody_bit, decide_eq_true_eq]
  constructor
  · rintro ⟨s, hs, o, ho, hh⟩; exact ⟨s, hs, o, ho, fun i hi _ => hh i hi rfl⟩
  · rintro ⟨s, hs, o, ho, hh⟩; exact ⟨s, hs, o, ho, fun i hi _ => hh i hi hi⟩
theorem others_all (n : Nat) : othersL (rz 0 n) n = [] := by
  rw [othersL, List.filter_eq_nil_iff]
  intro k hk
  simp [hk]
theorem sound_all {b : Bk} (hb : b.good) : soundP b (rz 0 b.ws.length) = true := by
  have := together_zero hb
  rw [together_iff hb] at this
  rw [soundP_iff]
  obtain ⟨s, hs, o, ho, _⟩ := this
  refine ⟨s, hs, o, ho, fun i hi hc => ?_⟩
  have : (rz 0 b.ws.length).contains (i : Int) = true := by simp [rz_iff]; omega
  rw [this] at hc; cases hc
theorem up_len : ∀ (l : List Int) (a : Int) (n : Nat), List.Pairwise (· < ·) l → (∀ k ∈ l, a ≤ k ∧ k < a + n) → l.length ≤ n
  | [], _, _, _, _ => Nat.zero_le _
  | x :: l, a, n, h, hr => by
    obtain ⟨h1, h2⟩ := List.pairwise_cons.1 h
    have hx := hr x List.mem_cons_self
    have := up_len l (x + 1) (a + n - (x + 1)).toNat h2 fun k hk => by
      have := h1 k hk
      have := hr k (List.mem_cons_of_mem _ hk)
      omega
    rw [List.length_cons]; omega
theorem rz_up : ∀ (m : Nat) (n : Int), List.Pairwise (· < ·) (rz n m)
  | 0, _ => .nil
  | m + 1, n => by
    rw [rz]
    exact List.pairwise_cons.2 ⟨fun k hk => by rw [rz_iff] at hk; omega, rz_up m (n + 1)⟩
theorem sets_all {n : Nat} {l : List Int} : l ∈ sets (n : Int) n ↔ List.Pairwise (· < ·) l ∧ ∀ k ∈ l, 0 ≤ k ∧ k < (n : Int) := by
  rw [sets_iff (by omega)]
  constructor
  · exact fun h => ⟨h.1, h.2.1⟩
  · exact fun h => ⟨h.1, h.2, by have := up_len l 0 n h.1 fun k hk => by have := h.2 k hk; omega
                                 omega⟩
theorem listOf_range {n m : Nat} (h : m < 2 ^ n) : ∀ k ∈ listOf m, 0 ≤ k ∧ k < (n : Int) := fun k hk => by
  obtain ⟨i, _, hi, rfl⟩ := (bits_mem m k 5).1 hk
  refine ⟨by omega, ?_⟩
  by_cases hlt : i < n
  · omega
  · have : m.testBit i = false := Nat.testBit_lt_two_pow (Nat.lt_of_lt_of_le h (Nat.pow_le_pow_right (by decide) (by omega)))
    rw [this] at hi; cases hi
theorem maskL_listOf {n m : Nat} (hn : n ≤ 5) (h : m < 2 ^ n) : maskL n (listOf m) = m := by
  refine Nat.eq_of_testBit_eq fun i => ?_
  rw [maskL_bit (listOf_range h), Bool.eq_iff_iff]
  simp only [List.contains_eq_mem, decide_eq_true_eq]
  constructor
  · intro h
    obtain ⟨j, _, hj, e⟩ := (bits_mem m _ 5).1 h
    have : i = j := by omega
    rw [this]; exact hj
  · intro hi
    refine (bits_mem m _ 5).2 ⟨i, ?_, hi, rfl⟩
    by_cases hlt : i < 5
    · exact hlt
    · have : m.testBit i = false := Nat.testBit_lt_two_pow (Nat.lt_of_lt_of_le h (Nat.pow_le_pow_right (by decide) (by omega)))
      rw [this] at hi; cases hi
theorem lists_mem {b : Bk} (hb : b.good) {P : Nat → Bool} {p : List Int → Bool} (hP : ∀ l, (∀ k ∈ l, 0 ≤ k ∧ k < (b.ws.length : Int)) → P (maskL b.ws.length l) = p l) (x : List Int) : x ∈ listsOf b P ↔ x ∈ sets (b.ws.length : Int) b.ws.length ∧ p x = true := by
  have hn := hb.nw
  rw [sets_all]
  simp only [listsOf, List.mem_map, List.mem_filter, List.mem_range]
  constructor
  · rintro ⟨m, ⟨hm, hp⟩, rfl⟩
    exact ⟨⟨bits_up m 5, listOf_range hm⟩, by rw [← hP _ (listOf_range hm), maskL_listOf hn hm]; exact hp⟩
  · rintro ⟨⟨h1, h2⟩, h3⟩
    exact ⟨maskL b.ws.length x, ⟨maskOf_lt _ _, by rw [hP _ h2]; exact h3⟩, listOf_maskL hn h1 h2⟩
theorem together_less {b : Bk} (hb : b.good) {m : Nat} (hs : together b (everybody b) = true) : together b m = true := by
  rw [together_iff hb] at hs ⊢
  obtain ⟨s, h1, o, h2, h3⟩ := hs
  exact ⟨s, h1, o, h2, fun i hi _ => h3 i hi (by rw [everybody_bit]; simpa using hi)⟩
theorem clash_none {b : Bk} (hb : b.good) (hs : soundP b [] = true) : bestOf (listsOf b (clashP b)) = [] := by
  have : listsOf b (clashP b) = [] := by
    unfold listsOf
    rw [List.map_eq_nil_iff, List.filter_eq_nil_iff]
    intro m _
    rw [clashP, together_less hb (by rw [← sound_nil hb]; exact hs)]; simp
  rw [this]; rfl
end Go.Lg.B
namespace Go.Lg.B
open Go Go.Conc Go.Lg Go.Proofs Go.Proofs.Tryz
def onlyBk (b : Bk) (l : List Int) : Bk := { b with f := 0, ws := l.map fun k => b.wt k.toNat }
theorem only_good {b : Bk} (hb : b.good) {l : List Int} (h1 : List.Pairwise (· < ·) l) (h2 : ∀ k ∈ l, 0 ≤ k ∧ k < (b.ws.length : Int)) : (onlyBk b l).good := by
  obtain ⟨g1, g2, g3, g4, g5, g6, g7⟩ := hb
  refine ⟨g1, g2, ⟨by show (0 : Int) ≤ 0; decide, by show (0 : Int) ≤ 2; decide⟩, g4, g5, ?_, fun x hx => ?_⟩
  · show (l.map fun k => b.wt k.toNat).length ≤ 5
    rw [List.length_map]
    have := up_len l 0 b.ws.length h1 fun k hk => by have := h2 k hk; omega
    omega
  · obtain ⟨k, hk, rfl⟩ := List.mem_map.1 (show x ∈ l.map fun k => b.wt k.toNat from hx)
    have := h2 k hk
    have hi : k.toNat < b.ws.length := by omega
    have := g7 _ (List.getElem_mem hi)
    rw [Bk.wt_get hi] at this
    exact this
theorem only_wt {b : Bk} {l : List Int} {i : Nat} (h : i < l.length) : (onlyBk b l).wt i = b.wt (l[i]).toNat := by
  show (l.map fun k => b.wt k.toNat).getD i default = _
  rw [getD_at (by simpa using h), List.getElem_map]
theorem only_sound {b : Bk} (hb : b.good) {l : List Int} (h1 : List.Pairwise (· < ·) l) (h2 : ∀ k ∈ l, 0 ≤ k ∧ k < (b.ws.length : Int)) : sound (onlyBk b l) = (soundP b (othersL l b.ws.length), 0) := by
  have hg := only_good hb h1 h2
  have hz : checkChart (onlyBk b l) = 0 := good_iff.2 hg
  rw [sound, if_neg (by simp [hz])]
  refine Prod.ext ?_ rfl
  show together (onlyBk b l) (everybody (onlyBk b l)) = _
  have hlen : (onlyBk b l).ws.length = l.length := List.length_map _
  rw [Bool.eq_iff_iff, together_iff hg, soundP_iff]
  simp only [everybody_bit, decide_eq_true_eq, hlen]
  constructor
  · rintro ⟨s, hs, o, ho, hh⟩
    refine ⟨s, hs, o, ho, fun i hi hc => ?_⟩
    rw [others_in hi] at hc
    have hm : (i : Int) ∈ l := by simpa using hc
    obtain ⟨j, hj, e⟩ := List.mem_iff_getElem.1 hm
    have := hh j hj hj
    rw [only_wt hj, e] at this
    exact this
  · rintro ⟨s, hs, o, ho, hh⟩
    refine ⟨s, hs, o, ho, fun i hi _ => ?_⟩
    have hr := h2 _ (List.getElem_mem hi)
    rw [only_wt hi]
    refine hh _ (by omega) ?_
    rw [others_in (by omega), show (((l[i]).toNat : Nat) : Int) = l[i] by omega]
    simp [List.getElem_mem hi]
theorem filt_sets {n : Nat} (p : Int → Bool) : (rz 0 n).filter p ∈ sets (n : Int) n :=
  sets_all.2 ⟨(rz_up n 0).filter p, fun k hk => by
    have := (List.mem_filter.1 hk).1
    rw [rz_iff] at this; omega⟩
def clashL (b : Bk) : List Int := bestOf (listsOf b (clashP b))
theorem nil_sets (n : Nat) : ([] : List Int) ∈ sets (n : Int) n := sets_all.2 ⟨.nil, fun _ hk => nomatch hk⟩
theorem others_nil (n : Nat) : othersL [] n = rz 0 n := by simp [othersL]
theorem clash_facts {b : Bk} (hb : b.good) (hs : soundP b [] = false) : clashL b ∈ sets (b.ws.length : Int) b.ws.length ∧ soundP b (othersL (clashL b) b.ws.length) = false ∧ (∀ x ∈ sets (b.ws.length : Int) b.ws.length, soundP b (othersL x b.ws.length) = false → smaller x (clashL b) = false) ∧ clashL b ≠ [] := by
  have hm := lists_mem hb (P := clashP b) (p := fun l => !soundP b (othersL l b.ws.length)) fun _ h => clashP_mask hb h
  have hne : listsOf b (clashP b) ≠ [] := by
    intro e
    have : rz 0 b.ws.length ∈ listsOf b (clashP b) := (hm _).2 ⟨sets_all.2 ⟨rz_up _ _, fun k hk => by rw [rz_iff] at hk; omega⟩, by rw [others_all, hs]; rfl⟩
    rw [e] at this; cases this
  obtain ⟨h1, h2⟩ := bestOf_least hne
  obtain ⟨h3, h4⟩ := (hm _).1 h1
  have h4' : soundP b (othersL (clashL b) b.ws.length) = false := by simpa [clashL] using h4
  refine ⟨h3, h4', fun x hx hp => by simpa [clashL] using h2 x ((hm x).2 ⟨hx, by rw [hp]; rfl⟩), fun e => ?_⟩
  rw [e, others_nil, sound_all hb] at h4'
  cases h4'
theorem clash_nil {b : Bk} (hb : b.good) : soundP b [] = decide ((clashL b).length = 0) := by
  by_cases h : soundP b [] = true
  · rw [h, clashL, clash_none hb h]; rfl
  · have h' : soundP b [] = false := by simpa using h
    obtain ⟨_, _, _, h4⟩ := clash_facts hb h'
    have : (clashL b).length ≠ 0 := fun e => h4 (List.eq_nil_of_length_eq_zero e)
    simp [h', this]
theorem clash_sets {b : Bk} (hb : b.good) : clashL b ∈ sets (b.ws.length : Int) b.ws.length := by
  by_cases h : soundP b [] = true
  · rw [clashL, clash_none hb h]; exact nil_sets _
  · exact (clash_facts hb (by simpa using h)).1
theorem erase_sets {n : Nat} {l : List Int} (h : l ∈ sets (n : Int) n) (i : Nat) : l.eraseIdx i ∈ sets (n : Int) n := by
  obtain ⟨h1, h2⟩ := sets_all.1 h
  have hs := List.eraseIdx_sublist l i
  exact sets_all.2 ⟨h1.sublist hs, fun k hk => h2 k (hs.subset hk)⟩
theorem clash_less {b : Bk} (hb : b.good) (hs : soundP b [] = false) {i : Nat} (hi : i < (clashL b).length) : soundP b (othersL ((clashL b).eraseIdx i) b.ws.length) = true := by
  obtain ⟨h1, _, h3, _⟩ := clash_facts hb hs
  cases h : soundP b (othersL ((clashL b).eraseIdx i) b.ws.length)
  · have := h3 _ (erase_sets h1 i) h
    rw [smaller, List.length_eraseIdx_of_lt hi] at this
    simp at this; omega
  · rfl
end Go.Lg.B
namespace Go.Lg.B
open Go Go.Conc Go.Lg Go.Proofs Go.Proofs.Tryz
section
variable {main : Bool} {J : Goroutine → Mem → Prop} (hJ : Closed prog main J)
include hJ
theorem smallerR_c {va vb : Value} {ro : RO} {a d : List Int} (ha : LsI ro va a) (hc : LsI ro vb d) (h1 : a.length ≤ 1000000) (h2 : d.length ≤ 1000000) : CallP prog J (fnv 73) [va, vb] ro (.bool (smaller a d)) := by
  have ha0 := ha
  have hc0 := hc
  obtain ⟨ab, ac, rfl⟩ := ha.form
  obtain ⟨db, dc, rfl⟩ := hc.form
  have hsm : smaller a d = (decide ((a.length : Int) < d.length) || (((a.length : Int) == d.length) && earlier a d)) := by
    unfold smaller earlier
    congr 1
    · rw [decide_eq_decide]; omega
    · congr 1
      rw [Bool.eq_iff_iff]; simp
      omega
  rw [hsm]
  refine CallP.intro hJ (by kernel_rfl) fun c cs tail hret => enter_X (n := 22) func73 rfl rfl (Nl rfl) ?_
  have C : Ctx prog main J (bf 73 .normal) := ⟨hJ, by decide⟩
  refine Xr C rfl rfl <| Ad C rfl rfl <| Xr C rfl rfl <| Rm C rfl rfl <| R.lenSlice C rfl rfl rfl runUnderlying28 <| Rm C rfl rfl <| R.lenSlice C rfl rfl rfl runUnderlying28 <| R.int C rfl rfl rfl rfl b_lss <| Rm C rfl rfl <| R.fix (t := 10) rfl (fun q1 => ?_) (fun q1 => ?_)
  · have q1 := q1
    refine R.pass C rfl rfl <| R.pass C rfl rfl <| R.pass C rfl rfl <| R.pass C rfl rfl <| R.pass C rfl rfl <| R.pass C rfl rfl <| R.pass C rfl rfl <| R.pass C rfl rfl <| R.pass C rfl rfl <| R.pass C rfl rfl <| R.pickT C rfl rfl rfl rfl <| Ad C rfl rfl <| Xt C func73 <| Hp hret ?_
    first | (simp_all [retVal]; done)
  · have q1 := q1
    refine Rm C rfl rfl <| R.lenSlice C rfl rfl rfl runUnderlying28 <| Rm C rfl rfl <| R.lenSlice C rfl rfl rfl runUnderlying28 <| R.int C rfl rfl rfl rfl b_eql <| Rm C rfl rfl <| R.fix (t := 16) rfl (fun q2 => ?_) (fun q2 => ?_)
    · have q2 := q2
      refine Rm C rfl rfl <| Rm C rfl rfl <| R.callP C rfl rfl rfl rfl (earlier_c hJ ha0 hc0 h1 h2) <| R.pickT C rfl rfl rfl rfl <| R.pickF C rfl rfl rfl rfl <| Ad C rfl rfl <| Xt C func73 <| Hp hret ?_
      first | (simp_all [retVal]; done)
    · have q2 := q2
      refine R.pass C rfl rfl <| R.pass C rfl rfl <| R.pass C rfl rfl <| R.pickF C rfl rfl rfl rfl <| R.pickF C rfl rfl rfl rfl <| Ad C rfl rfl <| Xt C func73 <| Hp hret ?_
      first | (simp_all [retVal]; done)
end
end Go.Lg.B
namespace Go.Lg.B
open Go Go.Conc Go.Lg Go.Proofs Go.Proofs.Tryz
theorem b_shr8 {P : Program} {t : TypeId} {k' : IntKind} {a : Nat} {n : Int} (h0 : 0 ≤ n) (h1 : n ≤ 8) : ∀ M K, K (.int .u8 ((a >>> n.toNat : Nat) : Int)) M → Sm P M (binOp .shr t (.int .u8 (a : Int)) (.int k' n)) K := fun M K h => by
  have e : ((a >>> n.toNat : Nat) : Int) = (a : Int) / 2 ^ n.toNat := by rw [Nat.shiftRight_eq_div_pow]; simp
  rw [e] at h
  exact b_shr h0 (by simp [IntKind.bits]; omega) (by omega) M K h
theorem bits_and8 {a : Nat} (ha : a < 256) : (Op.intBits .and .u8 (a : Int) 1 : Sem Value) = Pure.pure (.int .u8 ((a &&& 1 : Nat) : Int)) := by
  have h : ∀ a : Nat, a < 256 → IntKind.u8.wrap ((BitVec.ofInt 8 (a : Int) &&& BitVec.ofInt 8 1).toNat : Int) = ((a &&& 1 : Nat) : Int) := by
    intro a ha
    have : ((List.range 256).all fun a => IntKind.u8.wrap ((BitVec.ofInt 8 ((a : Nat) : Int) &&& BitVec.ofInt 8 1).toNat : Int) == ((a &&& 1 : Nat) : Int)) = true := by kernel_rfl
    have := List.all_eq_true.1 this a (List.mem_range.2 ha)
    simpa using this
  show (Pure.pure (Value.int IntKind.u8 (IntKind.u8.wrap ((BitVec.ofInt 8 (a : Int) &&& BitVec.ofInt 8 1).toNat : Int))) : Sem Value) = _
  rw [h a ha]
theorem b_and8 {P : Program} {t : TypeId} {a : Nat} (ha : a < 256) : ∀ M K, K (.int .u8 ((a &&& 1 : Nat) : Int)) M → Sm P M (binOp .and t (.int .u8 (a : Int)) (.int .u8 1)) K := fun M K h => by
  unfold binOp; simp only [ne_eq, not_true_eq_false, if_false, bits_and8 ha]; exact Sm.pure h
def someL (o n : Nat) : List Int := (rz 0 n).filter fun k => o.testBit k.toNat
theorem some_succ (o i : Nat) : someL o (i + 1) = someL o i ++ (if o.testBit i = true then [(i : Int)] else []) := by
  unfold someL
  rw [rz_take, List.filter_append, Int.zero_add]
  congr 1
  by_cases h : o.testBit i = true
  · rw [if_pos h, List.filter_cons_of_pos (by simpa using h), List.filter_nil]
  · rw [if_neg h, List.filter_cons_of_neg (by simpa using h), List.filter_nil]
theorem some_len (o n : Nat) : (someL o n).length ≤ n := by
  have := List.length_filter_le (fun k : Int => o.testBit k.toNat) (rz 0 n)
  rwa [rz_len] at this
theorem some_sets (o n : Nat) : someL o n ∈ sets (n : Int) n := filt_sets _
theorem erase_take (l : List Int) (j : Nat) {i : Nat} (h : i < l.length) : (l.take (i + 1)).eraseIdx j = (l.take i).eraseIdx j ++ (if i ≠ j then [l[i]] else []) := by
  rw [List.take_succ_eq_append_getElem h]
  have hlen : (l.take i).length = i := by rw [List.length_take]; omega
  by_cases hj : j < i
  · rw [List.eraseIdx_append_of_lt_length (by omega), if_pos (by omega)]
  · rw [List.eraseIdx_append_of_length_le (by omega), hlen, List.eraseIdx_of_length_le (show (l.take i).length ≤ j by omega)]
    by_cases e : i = j
    · subst e; simp
    · rw [if_pos e, List.eraseIdx_of_length_le (by simp; omega)]
section
variable {main : Bool} {J : Goroutine → Mem → Prop} (hJ : Closed prog main J)
include hJ
theorem someR_c {o n : Nat} (ho : o < 256) (hn : n ≤ 5) {ro : RO} : CallR prog J (fnv 72) [.int .u8 (o : Int), .int .i64 (n : Int)] ro (fun w ro' => LsI ro' w (someL o n)) := by
  refine CallR.intro hJ (by kernel_rfl) fun c cs tail hret => enter_X (n := 22) func72 rfl rfl (Nl rfl) ?_
  have C : Ctx prog main J (bf 72 .normal) := ⟨hJ, by decide⟩
  refine Xr C rfl rfl <| Ad C rfl rfl <| Xr C rfl rfl <| Ad C rfl rfl <| Xs C <| Xr C rfl rfl <| Ad C rfl rfl <| X.block C.1 <| X.loopI (ι := Nat × Value × List (Nat × Obj)) C.1 (fun s => s.1 ≤ n ∧ Buf 3 1 [] s.2.1 ((someL o s.1).flatMap ic) s.2.2) (fun s => [(0, .int .u8 (o : Int)), (1, .int .i64 (n : Int)), (5, s.2.1), (6, .int .i64 (s.1 : Int))])
    (fun s => ⟨ro, s.2.2 ++ tail⟩) (fun s => n - s.1) (0, .slice none 0 0, []) ⟨Nat.zero_le _, .nil⟩ rfl ⟨rfl, rfl, rfl, rfl, trivial⟩ fun s hs hnext => ?_
  obtain ⟨i, v2, own2⟩ := s
  obtain ⟨hi, hb2⟩ := hs
  simp only at hi hb2 hnext ⊢
  have hol := some_len o i
  have hfl : ((someL o i).flatMap ic).length ≤ i := by rw [flat_len]; exact hol
  have hstep := some_succ o i
  have hsh : o >>> i < 256 := Nat.lt_of_le_of_lt (Nat.shiftRight_le _ _) ho
  refine Xs C <| Xr C rfl rfl <| Rm C rfl rfl <| Rm C rfl rfl <| R.int C rfl rfl rfl rfl b_lss <| R.done C <| X.cond C.1 rfl (fun hlt => ?_) (fun hlt => ?_)
  · have hlt := hlt
    simp only [decide_eq_true_eq] at hlt
    have hi' : i < n := by omega
    refine X.skip C.1 <| Xs C <| X.block C.1 <| Xr C rfl rfl <| Rm C rfl rfl <| Rm C rfl rfl <| R.shift C rfl rfl rfl rfl (b_shr8 (by omega) (by omega)) <| R.int C rfl rfl rfl rfl (b_and8 hsh) <| R.int C rfl rfl rfl rfl b_eql <| R.done C <| X.cond C.1 rfl (fun hq => ?_) (fun hq => ?_)
    · have hq := hq
      have hq' : o.testBit i = true := by
        simp only [Int.toNat_natCast] at hq
        rw [bit_cases] at hq
        by_cases h : o.testBit i = true
        · exact h
        · rw [if_neg h] at hq; cases hq
      rw [if_pos hq'] at hstep
      refine X.region C rfl rfl <| Rm C rfl rfl <| Rm C rfl rfl <| R.buildSlice C (vs := _) rfl rfl (show pvals _ _ = some (numbered 0 [_]) from rfl) rfl runUnderlying28 sizeOf3 zeroValue3 (by decide) (Cat.one rfl rfl) fun p19 => R.append1 (kk := 1) C rfl rfl rfl rfl runUnderlying28 runUnderlying28 (fun _ => nofun) (show prog.info? 3 = some Tryz.t3 by kernel_rfl) rfl rfl rfl (by decide) (by decide) (hb2.app _) rfl rfl (by simp only [List.length_append, List.length_cons, List.length_nil]; omega) fun v' own' hb' => Ad C rfl rfl <| X.inBlock C.1 <| X.region C rfl rfl <| Rm C rfl rfl <| R.int C rfl rfl rfl rfl (b_add (by omega) (by omega)) <| Ad C rfl rfl ?_
      obtain ⟨own3, rfl, hb3⟩ := Buf.unapp (tail := []) hb'
      have hcat : (someL o i).flatMap ic ++ [Value.int .i64 (i : Int)] = (someL o (i + 1)).flatMap ic := by rw [hstep, List.flatMap_append]; rfl
      rw [hcat] at hb3
      refine X.weaken ?_ (hnext (i + 1, _, own3) ⟨hi', hb3⟩ (by omega))
      exact ⟨rfl, rfl, rfl, by simp [look], trivial⟩
    · have hq := hq
      have hq' : ¬ o.testBit i = true := by
        simp only [Int.toNat_natCast] at hq
        rw [bit_cases] at hq
        intro h
        rw [if_pos h] at hq; cases hq
      rw [if_neg hq', List.append_nil] at hstep
      refine X.skip C.1 <| X.inBlock C.1 <| X.region C rfl rfl <| Rm C rfl rfl <| R.int C rfl rfl rfl rfl (b_add (by omega) (by omega)) <| Ad C rfl rfl <| X.weaken ?_ (hnext (i + 1, v2, own2) ⟨hi', by rw [hstep]; exact hb2⟩ (by omega))
      exact ⟨rfl, rfl, rfl, by simp [look], trivial⟩
  · have hlt := hlt
    simp only [decide_eq_false_iff_not] at hlt
    obtain rfl : i = n := by omega
    refine X.exit C.1 rfl <| Xr C rfl rfl <| R.finish C.1 ic_len (by decide) (hb2.app _) fun ro4 hl4 hls4 => Rm C rfl rfl <| Ad C rfl rfl <| Xt C func72 <| Hr hret hl4 ?_
    exact hls4
theorem dropR_c {l : List Int} {v : Value} {ro : RO} (hl : LsI ro v l) (hn : l.length ≤ 1000) (j : Nat) : CallR prog J (fnv 74) [v, .int .i64 (j : Int)] ro (fun w ro' => LsI ro' w (l.eraseIdx j)) := by
  have hl0 := hl
  obtain ⟨lb, lc, rfl⟩ := hl.form
  refine CallR.intro hJ (by kernel_rfl) fun c cs tail hret => enter_X (n := 24) func74 rfl rfl (Nl rfl) ?_
  have C : Ctx prog main J (bf 74 .normal) := ⟨hJ, by decide⟩
  refine Xr C rfl rfl <| Ad C rfl rfl <| Xr C rfl rfl <| Ad C rfl rfl <| Xs C <| Xr C rfl rfl <| Ad C rfl rfl <| X.block C.1 <| X.loopI (ι := Nat × Value × List (Nat × Obj)) C.1 (fun s => s.1 ≤ l.length ∧ Buf 3 1 [] s.2.1 (((l.take s.1).eraseIdx j).flatMap ic) s.2.2) (fun s => [(0, .slice lb l.length lc), (1, .int .i64 (j : Int)), (5, s.2.1), (6, .int .i64 (s.1 : Int))])
    (fun s => ⟨ro, s.2.2 ++ tail⟩) (fun s => l.length - s.1) (0, .slice none 0 0, []) ⟨Nat.zero_le _, .nil⟩ rfl ⟨rfl, rfl, rfl, rfl, trivial⟩ fun s hs hnext => ?_
  obtain ⟨i, v2, own2⟩ := s
  obtain ⟨hi, hb2⟩ := hs
  simp only at hi hb2 hnext ⊢
  have hfl : (((l.take i).eraseIdx j).flatMap ic).length ≤ i := by
    rw [flat_len]
    have := (List.eraseIdx_sublist (l.take i) j).length_le
    rw [List.length_take] at this
    omega
  refine Xs C <| Xr C rfl rfl <| Rm C rfl rfl <| Rm C rfl rfl <| R.lenSlice C rfl rfl rfl runUnderlying28 <| R.int C rfl rfl rfl rfl b_lss <| R.done C <| X.cond C.1 rfl (fun hlt => ?_) (fun hlt => ?_)
  · have hlt := hlt
    simp only [decide_eq_true_eq] at hlt
    have hi' : i < l.length := by omega
    have hstep := erase_take l j hi'
    obtain ⟨pl, offl, capl, ll, tl, fql, hsll, hropl, hsubl⟩ := hl0.at ic_len (by omega)
    cases hsll
    have hx := ic_at hsubl hi'
    generalize l[i] = x at hx hstep
    refine X.skip C.1 <| Xs C <| X.block C.1 <| Xr C rfl rfl <| Rm C rfl rfl <| Rm C rfl rfl <| R.int C rfl rfl rfl rfl b_neq <| R.done C <| X.cond C.1 rfl (fun hq => ?_) (fun hq => ?_)
    · have hq := hq
      have hq' : i ≠ j := by simp at hq; omega
      rw [if_pos hq'] at hstep
      refine X.region C rfl rfl <| Rm C rfl rfl <| Rm C rfl rfl <| Rm C rfl rfl <| Rx C rfl rfl rfl runUnderlying28 sizeOf3 <| R.loadOneRo C rfl rfl rfl isAgg3 hropl hx <| R.buildSlice C (vs := _) rfl rfl (show pvals _ _ = some (numbered 0 [_]) from rfl) rfl runUnderlying28 sizeOf3 zeroValue3 (by decide) (Cat.one rfl rfl) fun p21 => R.append1 (kk := 1) C rfl rfl rfl rfl runUnderlying28 runUnderlying28 (fun _ => nofun) (show prog.info? 3 = some Tryz.t3 by kernel_rfl) rfl rfl rfl (by decide) (by decide) (hb2.app _) rfl rfl (by simp only [List.length_append, List.length_cons, List.length_nil]; omega) fun v' own' hb' => Ad C rfl rfl <| X.inBlock C.1 <| X.region C rfl rfl <| Rm C rfl rfl <| R.int C rfl rfl rfl rfl (b_add (by omega) (by omega)) <| Ad C rfl rfl ?_
      obtain ⟨own3, rfl, hb3⟩ := Buf.unapp (tail := []) hb'
      have hcat : ((l.take i).eraseIdx j).flatMap ic ++ [Value.int .i64 x] = ((l.take (i + 1)).eraseIdx j).flatMap ic := by rw [hstep, List.flatMap_append]; rfl
      rw [hcat] at hb3
      refine X.weaken ?_ (hnext (i + 1, _, own3) ⟨hi', hb3⟩ (by omega))
      exact ⟨rfl, rfl, rfl, by simp [look], trivial⟩
    · have hq := hq
      have hq' : ¬ i ≠ j := by simp at hq; omega
      rw [if_neg hq', List.append_nil] at hstep
      refine X.skip C.1 <| X.inBlock C.1 <| X.region C rfl rfl <| Rm C rfl rfl <| R.int C rfl rfl rfl rfl (b_add (by omega) (by omega)) <| Ad C rfl rfl <| X.weaken ?_ (hnext (i + 1, v2, own2) ⟨hi', by rw [hstep]; exact hb2⟩ (by omega))
      exact ⟨rfl, rfl, rfl, by simp [look], trivial⟩
  · have hlt := hlt
    simp only [decide_eq_false_iff_not] at hlt
    obtain rfl : i = l.length := by omega
    rw [List.take_length] at hb2
    refine X.exit C.1 rfl <| Xr C rfl rfl <| R.finish C.1 ic_len (by decide) (hb2.app _) fun ro4 hl4 hls4 => Rm C rfl rfl <| Ad C rfl rfl <| Xt C func74 <| Hr hret hl4 ?_
    exact hls4
theorem onlyR_c {b : Bk} {v vl : Value} {ro : RO} {l : List Int} (hv : BkV ro v b) (hl : LsI ro vl l) (hr : ∀ k ∈ l, 0 ≤ k ∧ k < (b.ws.length : Int)) (hn : l.length ≤ 1000) (hs : b.short) : CallR prog J (fnv 70) [v, vl] ro (fun w ro' => BkV ro' w (onlyBk b l)) := by
  obtain ⟨vc, vw, rfl, hc, hw⟩ := hv
  have hc0 := hc
  have hw0 := hw
  have hl0 := hl
  have hs2 := hs.2
  obtain ⟨cb, cc, rfl⟩ := hc.form
  obtain ⟨wb, wc, rfl⟩ := hw.form
  obtain ⟨lb, lc, rfl⟩ := hl.form
  refine CallR.intro hJ (by kernel_rfl) fun c cs tail hret => enter_X (n := 30) func70 rfl rfl (Nl rfl) ?_
  have C : Ctx prog main J (bf 70 .normal) := ⟨hJ, by decide⟩
  refine Xr C rfl rfl <| R.box C rfl rfl rfl rfl fun p2 => R.alloc C rfl rfl zeroValue25 rfl fun p4 => R.done C <| Xr C rfl rfl <| R.loadAgg C rfl rfl rfl isAgg25 sizeOf25 (by repeat (first | exact Mh | apply Mt)) Tk5 <| R.alloc C rfl rfl zeroValue25 rfl fun p5 => R.store C rfl rfl rfl rfl sizeOf25 rfl rfl rfl (by repeat (first | exact Uh | apply Ut)) (.here (.here (.here (.here (.here .nil))))) <| R.done C <| Xr C rfl rfl <| Rf C 2 rfl rfl runUnderlying25 rfl sizeOf3 <| R.store C rfl rfl rfl rfl sizeOf3 rfl rfl rfl (by repeat (first | exact Uh | apply Ut)) (.skip (.skip (.here .nil))) <| Rf C 4 rfl rfl runUnderlying25 rfl sizeOf23 <| R.store C rfl rfl rfl rfl sizeOf23 rfl rfl rfl (by repeat (first | exact Uh | apply Ut)) (.skip (.skip (.skip (.skip (.here .nil))))) <| R.done C <| Xs C <| Xr C rfl rfl <| Ad C rfl rfl <| X.block C.1 <| X.loopI (ι := Nat × Value × List (Nat × Obj)) C.1 (fun s => s.1 ≤ l.length ∧ Buf 58 5 [] s.2.1 (((l.take s.1).map fun k => b.wt k.toNat).flatMap Wt.cells) s.2.2) (fun s => [(1, .slice lb l.length lc), (2, .pointer (some ⟨p2, 0, none⟩)), (4, .pointer (some ⟨p4, 0, none⟩)), (5, .pointer (some ⟨p5, 0, none⟩)), (6, .int .i64 (s.1 : Int))])
    (fun s => ⟨ro, s.2.2 ++ (p5, .cells [.int .i64 b.w, .int .i64 b.h, .int .i64 0, .slice cb b.cs.length cc, s.2.1].toArray 25 (0, 0)) :: (p4, .cells [.int .i64 0, .int .i64 0, .int .i64 0, .slice none 0 0, .slice none 0 0].toArray 25 (0, 0)) :: (p2, .cells [.int .i64 b.w, .int .i64 b.h, .int .i64 b.f, .slice cb b.cs.length cc, .slice wb b.ws.length wc].toArray 25 (0, 0)) :: tail⟩) (fun s => l.length - s.1) (0, .slice none 0 0, []) ⟨Nat.zero_le _, .nil⟩ rfl ⟨rfl, rfl, rfl, rfl, rfl, trivial⟩ fun s hs' hnext => ?_
  obtain ⟨i, v2, own2⟩ := s
  obtain ⟨hi, hb2⟩ := hs'
  simp only at hi hb2 hnext ⊢
  have hfl : (((l.take i).map fun k => b.wt k.toNat).flatMap Wt.cells).length = i * 5 := by rw [flatMap_len Wt.len, List.length_map, List.length_take]; congr 1; omega
  refine Xs C <| Xr C rfl rfl <| Rm C rfl rfl <| Rm C rfl rfl <| R.lenSlice C rfl rfl rfl runUnderlying28 <| R.int C rfl rfl rfl rfl b_lss <| R.done C <| X.cond C.1 rfl (fun hlt => ?_) (fun hlt => ?_)
  · have hlt := hlt
    simp only [decide_eq_true_eq] at hlt
    have hi' : i < l.length := by omega
    have hcat : ((l.take i).map fun k => b.wt k.toNat).flatMap Wt.cells ++ (b.wt (l[i]).toNat).cells = ((l.take (i + 1)).map fun k => b.wt k.toNat).flatMap Wt.cells := by
      rw [List.take_succ_eq_append_getElem hi', List.map_append, List.flatMap_append]; simp
    have hk := hr _ (List.getElem_mem hi')
    obtain ⟨pl, offl, capl, ll, tl, fql, hsll, hropl, hsubl⟩ := hl0.at ic_len (by omega)
    cases hsll
    have hx := ic_at hsubl hi'
    generalize l[i] = x at hx hcat hk
    have hki : x.toNat < b.ws.length := by omega
    obtain ⟨pw, offw, capw, lw, tw, fqw, hslw, hropw, hsubw⟩ := hw0.at Wt.len (by omega)
    cases hslw
    have hwx := hsubw x.toNat hki
    rw [Bk.wt_get hki] at hwx
    generalize b.wt x.toNat = W at hwx hcat
    have hwx2 : Sub (offw + x.toNat * 5) 5 lw [.int .i64 W.s.e, .int .i64 W.s.n, .int .i64 W.b, .int .i64 W.k, .bool W.sure] := hwx
    obtain ⟨bs0, cap0, rfl⟩ := hb2.form (by decide)
    refine X.skip C.1 <| Xs C <| X.block C.1 <| Xd C fun hok => Df (off' := 4) C 0 hok rfl rfl rfl runUnderlying25 rfl sizeOf23 rfl <| Dl 1 hok (fun _ _ A h => R.loadOne C rfl (A.w rfl rfl) (A.x rfl rfl) isAgg23 (by repeat (first | exact Mh | apply Mt | apply List.mem_append_right)) rfl h) <| Df (off' := 4) C 2 hok rfl rfl rfl runUnderlying25 rfl sizeOf23 rfl <| Dl 3 hok (fun _ _ A h => R.loadOne C rfl (A.w rfl rfl) (A.x rfl rfl) isAgg23 (by repeat (first | exact Mh | apply Mt | apply List.mem_append_right)) rfl h) <| Dm C 4 hok rfl rfl rfl <| Dm C 5 hok rfl rfl rfl <| Dx C 6 hok rfl rfl rfl runUnderlying28 sizeOf3 <| Dl 7 hok (fun _ _ A h => R.loadOneRo C rfl (A.w rfl rfl) (A.x rfl rfl) isAgg3 hropl hx h) <| Dp 8 hok (fun _ _ _ A h => R.indexAddr C rfl (A.w rfl rfl) (A.x rfl rfl) (A.x rfl rfl) runUnderlying23 sizeOf58 hk.1 (by omega) h) <| Dl 9 hok (fun _ _ A h => R.loadAggRo C rfl (A.w rfl rfl) (A.x rfl rfl) isAgg58 sizeOf58 hropw hwx2 h) <| De 10 (some 26) [false, false, false, true] hok (fun σr rest A hk => ?_)
    refine R.buildSlice C (vs := _) rfl (A.w rfl rfl) (show pvals _ _ = some (numbered 0 [_]) from (A.p rfl rfl)) rfl runUnderlying23 sizeOf58 zeroValue58 (by decide) (Cat.one rfl rfl) fun p26 => hk _ _ ⟨(QFs.cons (QF.of rfl (fun _ _ A h => R.loadOne C rfl (A.w rfl rfl) (A.x rfl rfl) isAgg23 (by repeat (first | exact Mh | apply Mt | apply List.mem_append_right)) rfl h)) QFs.nil), ?_⟩
    refine De 11 (some 27) [false] hok (fun σr rest A hk => ?_)
    refine R.append1 (kk := 5) C rfl (A.w rfl rfl) (A.x rfl rfl) (A.x rfl rfl) runUnderlying23 runUnderlying23 (fun _ => nofun) (show prog.info? 58 = some Tryz.t58 by kernel_rfl) rfl rfl rfl (by decide) (by decide) (hb2.app _) rfl rfl (by simp only [List.length_append, List.length_cons, List.length_nil]; omega) fun v' own' hb' => hk _ _ ⟨QFs.nil, ?_⟩
    refine Df (off' := 4) C 12 hok rfl rfl rfl runUnderlying25 rfl sizeOf23 rfl <| De 13 none [] hok (fun σr rest A hk => ?_)
    obtain ⟨own3, rfl, hb3⟩ := Buf.unapp (tail := []) hb'
    replace hb3 : Buf 58 5 [] v' (((l.take (i + 1)).map fun k => b.wt k.toNat).flatMap Wt.cells) own3 := by rw [← hcat]; exact hb3
    obtain ⟨bs1, cap1, rfl⟩ := hb3.form (by decide)
    refine R.store C rfl (A.w rfl rfl) (A.x rfl rfl) (A.x rfl rfl) sizeOf23 rfl rfl rfl (by repeat (first | exact Uh | apply Ut | apply Upd.app)) (.skip (.skip (.skip (.skip (.here .nil))))) (hk undef _ ⟨QFs.nil, ?_⟩)
    refine D.done C hok (by kernel_rfl) <| X.inBlock C.1 <| X.region C rfl rfl <| Rm C rfl rfl <| R.int C rfl rfl rfl rfl (b_add (by omega) (by omega)) <| Ad C rfl rfl <| X.weaken ?_ (hnext (i + 1, _, own3) ⟨hi', hb3⟩ (by omega))
    exact ⟨rfl, rfl, rfl, rfl, by simp [look], trivial⟩
  · have hlt := hlt
    simp only [decide_eq_false_iff_not] at hlt
    obtain rfl : i = l.length := by omega
    rw [List.take_length] at hb2
    obtain ⟨bs0, cap0, rfl⟩ := hb2.form (by decide)
    refine X.exit C.1 rfl <| Xr C rfl rfl <| R.finish C.1 Wt.len (by decide) (hb2.app _) fun ro3 hl3 hls3 => R.loadAgg C rfl rfl rfl isAgg25 sizeOf25 (by repeat (first | exact Mh | apply Mt)) Tk5 <| R.store C rfl rfl rfl rfl sizeOf25 rfl rfl rfl (by repeat (first | exact Uh | apply Ut)) (.here (.here (.here (.here (.here .nil))))) <| R.done C <| X.ret C rfl rfl func70 rfl (by exact (.agg rfl isAgg25 sizeOf25 (by repeat (first | exact Mh | apply Mt)) Tk5 .nil)) <| Hr hret hl3 ?_
    exact ⟨_, _, rfl, hc0.mono hl3, hls3⟩
end
end Go.Lg.B
namespace Go.Lg.B
open Go Go.Conc Go.Lg Go.Proofs Go.Proofs.Tryz
theorem good_small {b : Bk} (h : checkChart b = 0) : b.cs.length ≤ 3 ∧ b.ws.length ≤ 5 := by
  have := good_iff.1 h
  exact ⟨this.nc.2, this.nw⟩
section
variable {main : Bool} {J : Goroutine → Mem → Prop} (hJ : Closed prog main J)
include hJ
theorem fitR_c {b : Bk} {v : Value} {ro : RO} (hv : BkV ro v b) : CallP prog J (fnv 47) [v] ro (.bool (checkChart b == 0)) := by
  have hvv := hv
  obtain ⟨vc, vw, rfl, hc, hw⟩ := hv
  by_cases hg : (decide (20 < b.cs.length) || decide (20 < b.ws.length)) = true
  · have hne : checkChart b ≠ 0 := fun h => by
      have := good_small h
      simp only [Bool.or_eq_true, decide_eq_true_eq] at hg; omega
    refine CallP.intro hJ (by kernel_rfl) fun c cs tail hret => enter_X (n := 11) func47 rfl rfl (Nl rfl) ?_
    have C : Ctx prog main J (bf 47 .normal) := ⟨hJ, by decide⟩
    refine Xr C rfl rfl <| R.box C rfl rfl rfl rfl fun p1 => Ad C rfl rfl <| Xr C rfl rfl <| R.loadAgg C rfl rfl rfl isAgg25 sizeOf25 (by repeat (first | exact Mh | apply Mt)) Tk5 <| R.callP C rfl rfl rfl rfl (greatR_c hJ hvv) <| R.not C rfl rfl rfl <| R.fixv (t := 5) (v' := .bool false) rfl (by (rw [hg]; rfl)) <| Rm C rfl rfl <| R.pass C rfl rfl <| R.pass C rfl rfl <| R.pass C rfl rfl <| R.pickF C rfl rfl rfl rfl <| Ad C rfl rfl <| Xt C func47 <| Hp hret ?_
    rw [beq_eq_false_iff_ne.2 hne]; rfl
  · have hg2 : (decide (20 < b.cs.length) || decide (20 < b.ws.length)) = false := by simpa using hg
    have hsh : b.short := by
      simp only [Bool.or_eq_false_iff, decide_eq_false_iff_not] at hg2
      unfold Bk.short; omega
    refine CallP.intro hJ (by kernel_rfl) fun c cs tail hret => enter_X (n := 11) func47 rfl rfl (Nl rfl) ?_
    have C : Ctx prog main J (bf 47 .normal) := ⟨hJ, by decide⟩
    refine Xr C rfl rfl <| R.box C rfl rfl rfl rfl fun p1 => Ad C rfl rfl <| Xr C rfl rfl <| R.loadAgg C rfl rfl rfl isAgg25 sizeOf25 (by repeat (first | exact Mh | apply Mt)) Tk5 <| R.callP C rfl rfl rfl rfl (greatR_c hJ hvv) <| R.not C rfl rfl rfl <| R.fixv (t := 5) (v' := .bool true) rfl (by (rw [hg2]; rfl)) <| Rm C rfl rfl <| R.loadAgg C rfl rfl rfl isAgg25 sizeOf25 (by repeat (first | exact Mh | apply Mt)) Tk5 <| R.callP C rfl rfl rfl rfl (checkChartR_c hJ hvv hsh) <| R.int C rfl rfl rfl rfl b_eql <| R.pickT C rfl rfl rfl rfl <| Ad C rfl rfl <| Xt C func47 <| Hp hret ?_
    rfl
end
end Go.Lg.B
namespace Go.Lg.B
open Go Go.Conc Go.Lg Go.Proofs Go.Proofs.Tryz
theorem climbs_zero {n : Int} : ∀ (l : List Int) (q : Option Int), List.Pairwise (· < ·) l → (∀ k ∈ l, 0 ≤ k ∧ k < n) → (∀ x, q = some x → ∀ k ∈ l, x < k) → climbsH n q l = 0
  | [], _, _, _, _ => rfl
  | k :: l, q, h1, h2, h3 => by
    obtain ⟨g1, g2⟩ := List.pairwise_cons.1 h1
    have hk := h2 k List.mem_cons_self
    have hb : between k 0 (n - 1) = true := by rw [between, Bool.and_eq_true, decide_eq_true_eq, decide_eq_true_eq]; omega
    have hq : q.any (fun x => decide (k ≤ x)) = false := by
      cases q with
      | none => rfl
      | some x =>
        have := h3 x rfl k List.mem_cons_self
        show decide (k ≤ x) = false
        rw [decide_eq_false_iff_not]; omega
    rw [climbsH, hb, hq, if_neg (by decide), if_neg (by decide)]
    exact climbs_zero l _ g2 (fun j hj => h2 j (List.mem_cons_of_mem _ hj)) fun x hx j hj => by
      cases hx; exact g1 j hj
theorem sets_small {n : Nat} (hn : n ≤ 5) {l : List Int} (h : l ∈ sets (n : Int) n) : l.length ≤ 5 := Nat.le_trans (sets_each _ _ _ h) hn
theorem only_short {b : Bk} {l : List Int} (h1 : b.short) (h2 : l.length ≤ 1000) : (onlyBk b l).short := ⟨h1.1, by show (l.map _).length ≤ 1000; rw [List.length_map]; exact h2⟩
end Go.Lg.B
namespace Go.Lg.B
open Go Go.Conc Go.Lg Go.Proofs Go.Proofs.Tryz
theorem clash_root {b : Bk} {vb : Value} {o : Nat} (ho : o < 256) {ro : RO} (he : Env ro) (hv : BkV ro vb b) : Root prog 15 [vb, .int .u8 (o : Int)] ro (fun w _ => w = .bool true) := by
  intro Post hret
  have hJ : Closed prog true (JM prog (Go.Conc.Good prog Post)) := JM.closed
  have hvv := hv
  obtain ⟨vc, vw, rfl, hc, hw⟩ := hv
  obtain ⟨cb, cc, rfl⟩ := hc.form
  obtain ⟨wb, wc, rfl⟩ := hw.form
  let main := true
  let J := JM prog (Go.Conc.Good prog Post)
  refine enter_X (n := 111) func15 rfl rfl (Nl rfl) ?_
  have C : Ctx prog main J (bf 15 .normal) := ⟨hJ, by decide⟩
  refine Xr C rfl rfl <| R.box C rfl rfl rfl rfl fun p2 => Ad C rfl rfl <| Xs C <| Xr C rfl rfl <| R.loadAgg C rfl rfl rfl isAgg25 sizeOf25 (by repeat (first | exact Mh | apply Mt)) Tk5 <| R.callP C rfl rfl rfl rfl (fitR_c hJ hvv) <| R.not C rfl rfl rfl <| R.done C <| X.cond C.1 rfl (fun hfit => ?_) (fun hfit => ?_)
  · have hfit := hfit
    refine Xr C rfl rfl <| R.callR C rfl rfl rfl rfl ((found_c _ he)) fun v9 ro9 hl9 hq9 => Ad C rfl rfl <| X.ret0 C (by kernel_rfl) rfl rfl func15 rfl (by exact (.tmp rfl .nil)) fun w9 hs9 => hret _ _ _ hl9 ?_ w9 hs9
    exact hq9
  · have hfit := hfit
    have hch : checkChart b = 0 := by simpa using hfit
    have hg := good_iff.1 hch
    have hnw := hg.nw
    have hnc := hg.nc
    have hsh : b.short := ⟨by omega, by omega⟩
    refine X.skip C.1 <| Xr C rfl rfl <| Rf C 4 rfl rfl runUnderlying25 rfl sizeOf23 <| R.loadOne C rfl rfl rfl isAgg23 (by repeat (first | exact Mh | apply Mt)) rfl <| R.lenSlice C rfl rfl rfl runUnderlying23 <| Ad C rfl rfl <| Xr C rfl rfl <| R.loadAgg C rfl rfl rfl isAgg25 sizeOf25 (by repeat (first | exact Mh | apply Mt)) Tk5 <| R.callR C rfl rfl rfl rfl ((clash_c he hvv hsh)) fun v1 ro1 hl1 hp1 => ?_
    obtain ⟨vf, hf, rfl⟩ := hp1
    have hfe : clash b = (clashL b, 0) := by rw [clash, if_neg (by simp [hch])]; rfl
    replace hf : LsI ro1 vf (clashL b) := by rw [hfe] at hf; exact hf
    rw [hfe]
    refine Rm C rfl rfl <| R.ext C rfl rfl rfl rfl <| R.ext C rfl rfl rfl rfl <| R.asg C rfl rfl rfl <| Ad C rfl rfl <| Xr C rfl rfl <| R.loadAgg C rfl rfl rfl isAgg25 sizeOf25 (by repeat (first | exact Mh | apply Mt)) Tk5 <| R.callR C rfl rfl rfl rfl ((sound_c hJ (he.mono hl1) (hvv.mono hl1) hsh)) fun v2 ro2 hl2 hp2 => ?_
    subst hp2
    have hso : sound b = (soundP b [], 0) := by rw [sound, if_neg (by simp [hch]), sound_nil hg]
    rw [hso]
    have f1 := clash_sets hg
    have fn := clash_nil hg
    have hfl := sets_small hnw f1
    obtain ⟨g1, g2⟩ := sets_all.1 f1
    have hcl := climbs_zero (clashL b) none g1 g2 (fun x hx => nomatch hx)
    have hL := RO.le_trans hl1 hl2
    have hf2 := hf.mono hl2
    have hv2 := hvv.mono hL
    have he2 := he.mono hL
    obtain ⟨fb, fc, rfl⟩ := hf.form
    refine Rm C rfl rfl <| R.ext C rfl rfl rfl rfl <| R.ext C rfl rfl rfl rfl <| R.asg C rfl rfl rfl <| Ad C rfl rfl <| Xs C <| Xr C rfl rfl <| Rm C rfl rfl <| R.int C rfl rfl rfl rfl b_neq <| R.fixv (t := 34) (v' := .bool false) rfl (by rfl) <| Rm C rfl rfl <| R.fixv (t := 35) (v' := .bool false) rfl (by rfl) <| Rm C rfl rfl <| R.int C rfl rfl rfl rfl b_neq <| R.fixv (t := 37) (v' := .bool false) rfl (by rfl) <| R.pickF C rfl rfl rfl rfl <| Rm C rfl rfl <| R.fixv (t := 39) (v' := .bool false) rfl (by rfl) <| Rm C rfl rfl <| Rm C rfl rfl <| R.callP C rfl rfl rfl rfl (climbsR_c hJ hf2 (by omega) ⟨by omega, by omega⟩) <| R.int C rfl rfl rfl rfl b_neq <| R.fixv (t := 43) (v' := .bool false) rfl (by (exact congrArg Value.bool (by rw [hcl]; rfl))) <| R.pickF C rfl rfl rfl rfl <| Rm C rfl rfl <| R.fixv (t := 45) (v' := .bool false) rfl (by rfl) <| Rm C rfl rfl <| Rm C rfl rfl <| R.lenSlice C rfl rfl rfl runUnderlying28 <| R.int C rfl rfl rfl rfl b_eql <| R.neBool C rfl rfl rfl rfl runUnderlying4 <| R.fixv (t := 50) (v' := .bool false) rfl (by (exact congrArg Value.bool (by rw [fn]; by_cases h : (clashL b).length = 0 <;> simp [h]))) <| R.pickF C rfl rfl rfl rfl <| R.done C <| X.cond C.1 rfl (fun h => nomatch h) (fun _ => ?_)
    refine X.skip C.1 <| Xs C <| Xr C rfl rfl <| Rm C rfl rfl <| R.done C <| X.cond C.1 rfl (fun hsn => ?_) (fun hsn => ?_)
    · have hsn := hsn
      refine Xr C rfl rfl <| R.callR C rfl rfl rfl rfl ((found_c _ he2)) fun v9 ro9 hl9 hq9 => Ad C rfl rfl <| X.ret0 C (by kernel_rfl) rfl rfl func15 rfl (by exact (.tmp rfl .nil)) fun w9 hs9 => hret _ _ _ (RO.le_trans hL hl9) ?_ w9 hs9
      exact hq9
    · have hsn := hsn
      obtain ⟨_, f2, f3, _⟩ := clash_facts hg hsn
      refine X.skip C.1 <| Xr C rfl rfl <| R.loadAgg C rfl rfl rfl isAgg25 sizeOf25 (by repeat (first | exact Mh | apply Mt)) Tk5 <| Rm C rfl rfl <| R.callR C rfl rfl rfl rfl ((onlyR_c hJ hv2 hf2 g2 (by omega) hsh)) fun v4 ro4 hl4 hp4 => R.callR C rfl rfl rfl rfl ((sound_c hJ (he2.mono hl4) hp4 (only_short hsh (by omega)))) fun v5 ro5 hl5 hp5 => ?_
      subst hp5
      rw [only_sound hg g1 g2, f2]
      have hL5 := RO.le_trans hl4 hl5
      have hv5 := hv2.mono hL5
      have he5 := he2.mono hL5
      have hf5 := hf2.mono hL5
      have s1 := some_sets o b.ws.length
      obtain ⟨q1, q2⟩ := sets_all.1 s1
      have hsl := sets_small hnw s1
      refine Rm C rfl rfl <| R.ext C rfl rfl rfl rfl <| R.ext C rfl rfl rfl rfl <| R.asg C rfl rfl rfl <| Ad C rfl rfl <| Xr C rfl rfl <| Rm C rfl rfl <| Rm C rfl rfl <| R.callR C rfl rfl rfl rfl ((someR_c hJ ho hnw)) fun v6 ro6 hl6 hp6 => Ad C rfl rfl <| Xr C rfl rfl <| R.loadAgg C rfl rfl rfl isAgg25 sizeOf25 (by repeat (first | exact Mh | apply Mt)) Tk5 <| Rm C rfl rfl <| R.callR C rfl rfl rfl rfl ((onlyR_c hJ (hv5.mono hl6) hp6 q2 (by omega) hsh)) fun v8 ro8 hl8 hp8 => R.callR C rfl rfl rfl rfl ((sound_c hJ ((he5.mono hl6).mono hl8) hp8 (only_short hsh (by omega)))) fun v10 ro10 hl10 hp10 => ?_
      subst hp10
      rw [only_sound hg q1 q2]
      have hL10 := RO.le_trans hl6 (RO.le_trans hl8 hl10)
      have he10 := he5.mono hL10
      have hv10 := hv5.mono hL10
      have hf10 := hf5.mono hL10
      have hs10 := hp6.mono (RO.le_trans hl8 hl10)
      obtain ⟨sb, sc, rfl⟩ := hp6.form
      have hsm := f3 _ s1
      by_cases hwas : soundP b (othersL (someL o b.ws.length) b.ws.length) = true
      · have _ := hwas
        refine Rm C rfl rfl <| R.ext C rfl rfl rfl rfl <| R.ext C rfl rfl rfl rfl <| R.asg C rfl rfl rfl <| Ad C rfl rfl <| Xs C <| Xr C rfl rfl <| Rm C rfl rfl <| R.int C rfl rfl rfl rfl b_neq <| R.fixv (t := 72) (v' := .bool false) rfl (by rfl) <| Rm C rfl rfl <| R.fixv (t := 73) (v' := .bool false) rfl (by rfl) <| Rm C rfl rfl <| R.int C rfl rfl rfl rfl b_neq <| R.fixv (t := 75) (v' := .bool false) rfl (by rfl) <| R.pickF C rfl rfl rfl rfl <| Rm C rfl rfl <| R.fixv (t := 77) (v' := .bool false) rfl (by rfl) <| Rm C rfl rfl <| R.fixv (t := 78) (v' := .bool false) rfl (by rfl) <| R.pickF C rfl rfl rfl rfl <| Rm C rfl rfl <| R.fixv (t := 80) (v' := .bool false) rfl (by rfl) <| Rm C rfl rfl <| R.not C rfl rfl rfl <| R.fixv (t := 82) (v' := .bool false) rfl (by (exact congrArg Value.bool (by rw [hwas]; rfl))) <| Rm C rfl rfl <| R.fixv (t := 83) (v' := .bool false) rfl (by rfl) <| R.pass C rfl rfl <| R.pass C rfl rfl <| R.pass C rfl rfl <| R.pickF C rfl rfl rfl rfl <| R.pickF C rfl rfl rfl rfl <| R.done C <| X.cond C.1 rfl (fun h => nomatch h) (fun _ => ?_)
        refine X.skip C.1 <| Xs C <| Xr C rfl rfl <| Ad C rfl rfl <| X.block C.1 <| X.loopI (ι := Nat × RO) C.1 (fun s => s.1 ≤ (clashL b).length ∧ ro10.le s.2) (fun s => [(2, .pointer (some ⟨p2, 0, none⟩)), (6, .slice fb (clashL b).length fc), (13, .int .i64 (s.1 : Int))])
          (fun s => ⟨s.2, (p2, .cells [.int .i64 b.w, .int .i64 b.h, .int .i64 b.f, .slice cb b.cs.length cc, .slice wb b.ws.length wc].toArray 25 (0, 0)) :: []⟩) (fun s => (clashL b).length - s.1) (0, ro10) ⟨Nat.zero_le _, RO.le_refl _⟩ rfl ⟨rfl, rfl, rfl, trivial⟩ fun s hs hnext => ?_
        obtain ⟨i, ro1'⟩ := s
        obtain ⟨hi, hle1⟩ := hs
        simp only at hi hle1 hnext ⊢
        have heA := he10.mono hle1
        have hvA := hv10.mono hle1
        have hfA := hf10.mono hle1
        refine Xs C <| Xr C rfl rfl <| Rm C rfl rfl <| Rm C rfl rfl <| R.lenSlice C rfl rfl rfl runUnderlying28 <| R.int C rfl rfl rfl rfl b_lss <| R.done C <| X.cond C.1 rfl (fun hlt => ?_) (fun hlt => ?_)
        · have hlt := hlt
          simp only [decide_eq_true_eq] at hlt
          have hi' : i < (clashL b).length := by omega
          have d1 := erase_sets f1 i
          obtain ⟨d2, d3⟩ := sets_all.1 d1
          have hdl := sets_small hnw d1
          have hless := clash_less hg hsn hi'
          refine X.skip C.1 <| Xs C <| X.block C.1 <| Xs C <| Xd C fun hok => D5 C 0 hok rfl rfl isAgg25 sizeOf25 (by repeat (first | exact Mh | apply Mt)) Tk5 <| Dm C 1 hok rfl rfl rfl <| Dm C 2 hok rfl rfl rfl <| De 3 (some 99) [true] hok (fun σr rest A hk => ?_)
          refine R.callR C rfl (A.w rfl rfl) (A.x rfl rfl) (A.s rfl rfl) ((dropR_c hJ hfA (by omega) i)) fun w3 so3 hm3 hq3 => hk _ _ ⟨(QFs.cons (QF.of rfl (fun _ _ A h => R.loadAgg C rfl (A.w rfl rfl) (A.x rfl rfl) isAgg25 sizeOf25 (by repeat (first | exact Mh | apply Mt)) Tk5 h)) QFs.nil), ?_⟩
          refine De 4 (some 100) [false] hok (fun σr rest A hk => ?_)
          refine R.callR C rfl (A.w rfl rfl) (A.x rfl rfl) (A.s rfl rfl) ((onlyR_c hJ (hvA.mono hm3) hq3 d3 (by omega) hsh)) fun w4 so4 hm4 hq4 => hk _ _ ⟨QFs.nil, ?_⟩
          refine De 5 (some 101) [] hok (fun σr rest A hk => ?_)
          refine R.callR C rfl (A.w rfl rfl) (A.x rfl rfl) (A.s rfl rfl) ((sound_c hJ ((heA.mono hm3).mono hm4) hq4 (only_short hsh (by omega)))) fun w5 so5 hm5 hq5 => hk _ _ ⟨QFs.nil, ?_⟩
          subst hq5
          rw [only_sound hg d2 d3, hless]
          refine Dm C 6 hok rfl rfl rfl <| Dp 7 hok (fun _ _ _ A h => R.ext C rfl (A.w rfl rfl) (A.x rfl rfl) rfl h) <| Dp 8 hok (fun _ _ _ A h => R.ext C rfl (A.w rfl rfl) (A.x rfl rfl) rfl h) <| Dp 9 hok (fun _ _ _ A h => R.asg C rfl (A.w rfl rfl) (A.x rfl rfl) h) <| Dp 10 hok (fun _ _ _ A h => R.asg C rfl (A.w rfl rfl) (A.x rfl rfl) h) <| D.done C hok (by kernel_rfl) <| Xr C rfl rfl <| Rm C rfl rfl <| R.int C rfl rfl rfl rfl b_neq <| R.fixv (t := 105) (v' := .bool false) rfl (by rfl) <| Rm C rfl rfl <| R.fixv (t := 106) (v' := .bool false) rfl (by rfl) <| Rm C rfl rfl <| R.not C rfl rfl rfl <| R.fixv (t := 108) (v' := .bool false) rfl (by rfl) <| R.pickF C rfl rfl rfl rfl <| R.done C <| X.cond C.1 rfl (fun h => nomatch h) (fun _ => ?_)
          refine X.skip C.1 <| X.inBlock C.1 <| X.region C rfl rfl <| Rm C rfl rfl <| R.int C rfl rfl rfl rfl (b_add (by omega) (by omega)) <| Ad C rfl rfl <| X.weaken ?_ (hnext (i + 1, so5) ⟨hi', RO.le_trans hle1 (RO.le_trans hm3 (RO.le_trans hm4 hm5))⟩ (by omega))
          exact ⟨rfl, rfl, by simp [look], trivial⟩
        · have hlt := hlt
          simp only [decide_eq_false_iff_not] at hlt
          refine X.exit C.1 rfl <| Xr C rfl rfl <| R.callR C rfl rfl rfl rfl ((found_c _ heA)) fun v9 ro9 hl9 hq9 => Ad C rfl rfl <| X.ret0 C (by kernel_rfl) rfl rfl func15 rfl (by exact (.tmp rfl .nil)) fun w9 hs9 => hret _ _ _ (RO.le_trans hL (RO.le_trans hL5 (RO.le_trans hL10 (RO.le_trans hle1 hl9)))) ?_ w9 hs9
          exact hq9
      · have hwas2 : soundP b (othersL (someL o b.ws.length) b.ws.length) = false := by simpa using hwas
        have hsm2 := hsm hwas2
        refine Rm C rfl rfl <| R.ext C rfl rfl rfl rfl <| R.ext C rfl rfl rfl rfl <| R.asg C rfl rfl rfl <| Ad C rfl rfl <| Xs C <| Xr C rfl rfl <| Rm C rfl rfl <| R.int C rfl rfl rfl rfl b_neq <| R.fixv (t := 72) (v' := .bool false) rfl (by rfl) <| Rm C rfl rfl <| R.fixv (t := 73) (v' := .bool false) rfl (by rfl) <| Rm C rfl rfl <| R.int C rfl rfl rfl rfl b_neq <| R.fixv (t := 75) (v' := .bool false) rfl (by rfl) <| R.pickF C rfl rfl rfl rfl <| Rm C rfl rfl <| R.fixv (t := 77) (v' := .bool false) rfl (by rfl) <| Rm C rfl rfl <| R.fixv (t := 78) (v' := .bool false) rfl (by rfl) <| R.pickF C rfl rfl rfl rfl <| Rm C rfl rfl <| R.fixv (t := 80) (v' := .bool false) rfl (by rfl) <| Rm C rfl rfl <| R.not C rfl rfl rfl <| R.fixv (t := 82) (v' := .bool true) rfl (by (exact congrArg Value.bool (by rw [hwas2]; rfl))) <| Rm C rfl rfl <| R.fixv (t := 83) (v' := .bool true) rfl (by rfl) <| Rm C rfl rfl <| Rm C rfl rfl <| R.callP C rfl rfl rfl rfl (smallerR_c hJ hs10 hf10 (by omega) (by omega)) <| R.fixv (t := 86) (v' := .bool false) rfl (by (exact congrArg Value.bool hsm2)) <| R.pickT C rfl rfl rfl rfl <| R.pickF C rfl rfl rfl rfl <| R.done C <| X.cond C.1 rfl (fun h => nomatch h) (fun _ => ?_)
        refine X.skip C.1 <| Xs C <| Xr C rfl rfl <| Ad C rfl rfl <| X.block C.1 <| X.loopI (ι := Nat × RO) C.1 (fun s => s.1 ≤ (clashL b).length ∧ ro10.le s.2) (fun s => [(2, .pointer (some ⟨p2, 0, none⟩)), (6, .slice fb (clashL b).length fc), (13, .int .i64 (s.1 : Int))])
          (fun s => ⟨s.2, (p2, .cells [.int .i64 b.w, .int .i64 b.h, .int .i64 b.f, .slice cb b.cs.length cc, .slice wb b.ws.length wc].toArray 25 (0, 0)) :: []⟩) (fun s => (clashL b).length - s.1) (0, ro10) ⟨Nat.zero_le _, RO.le_refl _⟩ rfl ⟨rfl, rfl, rfl, trivial⟩ fun s hs hnext => ?_
        obtain ⟨i, ro1'⟩ := s
        obtain ⟨hi, hle1⟩ := hs
        simp only at hi hle1 hnext ⊢
        have heA := he10.mono hle1
        have hvA := hv10.mono hle1
        have hfA := hf10.mono hle1
        refine Xs C <| Xr C rfl rfl <| Rm C rfl rfl <| Rm C rfl rfl <| R.lenSlice C rfl rfl rfl runUnderlying28 <| R.int C rfl rfl rfl rfl b_lss <| R.done C <| X.cond C.1 rfl (fun hlt => ?_) (fun hlt => ?_)
        · have hlt := hlt
          simp only [decide_eq_true_eq] at hlt
          have hi' : i < (clashL b).length := by omega
          have d1 := erase_sets f1 i
          obtain ⟨d2, d3⟩ := sets_all.1 d1
          have hdl := sets_small hnw d1
          have hless := clash_less hg hsn hi'
          refine X.skip C.1 <| Xs C <| X.block C.1 <| Xs C <| Xd C fun hok => D5 C 0 hok rfl rfl isAgg25 sizeOf25 (by repeat (first | exact Mh | apply Mt)) Tk5 <| Dm C 1 hok rfl rfl rfl <| Dm C 2 hok rfl rfl rfl <| De 3 (some 99) [true] hok (fun σr rest A hk => ?_)
          refine R.callR C rfl (A.w rfl rfl) (A.x rfl rfl) (A.s rfl rfl) ((dropR_c hJ hfA (by omega) i)) fun w3 so3 hm3 hq3 => hk _ _ ⟨(QFs.cons (QF.of rfl (fun _ _ A h => R.loadAgg C rfl (A.w rfl rfl) (A.x rfl rfl) isAgg25 sizeOf25 (by repeat (first | exact Mh | apply Mt)) Tk5 h)) QFs.nil), ?_⟩
          refine De 4 (some 100) [false] hok (fun σr rest A hk => ?_)
          refine R.callR C rfl (A.w rfl rfl) (A.x rfl rfl) (A.s rfl rfl) ((onlyR_c hJ (hvA.mono hm3) hq3 d3 (by omega) hsh)) fun w4 so4 hm4 hq4 => hk _ _ ⟨QFs.nil, ?_⟩
          refine De 5 (some 101) [] hok (fun σr rest A hk => ?_)
          refine R.callR C rfl (A.w rfl rfl) (A.x rfl rfl) (A.s rfl rfl) ((sound_c hJ ((heA.mono hm3).mono hm4) hq4 (only_short hsh (by omega)))) fun w5 so5 hm5 hq5 => hk _ _ ⟨QFs.nil, ?_⟩
          subst hq5
          rw [only_sound hg d2 d3, hless]
          refine Dm C 6 hok rfl rfl rfl <| Dp 7 hok (fun _ _ _ A h => R.ext C rfl (A.w rfl rfl) (A.x rfl rfl) rfl h) <| Dp 8 hok (fun _ _ _ A h => R.ext C rfl (A.w rfl rfl) (A.x rfl rfl) rfl h) <| Dp 9 hok (fun _ _ _ A h => R.asg C rfl (A.w rfl rfl) (A.x rfl rfl) h) <| Dp 10 hok (fun _ _ _ A h => R.asg C rfl (A.w rfl rfl) (A.x rfl rfl) h) <| D.done C hok (by kernel_rfl) <| Xr C rfl rfl <| Rm C rfl rfl <| R.int C rfl rfl rfl rfl b_neq <| R.fixv (t := 105) (v' := .bool false) rfl (by rfl) <| Rm C rfl rfl <| R.fixv (t := 106) (v' := .bool false) rfl (by rfl) <| Rm C rfl rfl <| R.not C rfl rfl rfl <| R.fixv (t := 108) (v' := .bool false) rfl (by rfl) <| R.pickF C rfl rfl rfl rfl <| R.done C <| X.cond C.1 rfl (fun h => nomatch h) (fun _ => ?_)
          refine X.skip C.1 <| X.inBlock C.1 <| X.region C rfl rfl <| Rm C rfl rfl <| R.int C rfl rfl rfl rfl (b_add (by omega) (by omega)) <| Ad C rfl rfl <| X.weaken ?_ (hnext (i + 1, so5) ⟨hi', RO.le_trans hle1 (RO.le_trans hm3 (RO.le_trans hm4 hm5))⟩ (by omega))
          exact ⟨rfl, rfl, by simp [look], trivial⟩
        · have hlt := hlt
          simp only [decide_eq_false_iff_not] at hlt
          refine X.exit C.1 rfl <| Xr C rfl rfl <| R.callR C rfl rfl rfl rfl ((found_c _ heA)) fun v9 ro9 hl9 hq9 => Ad C rfl rfl <| X.ret0 C (by kernel_rfl) rfl rfl func15 rfl (by exact (.tmp rfl .nil)) fun w9 hs9 => hret _ _ _ (RO.le_trans hL (RO.le_trans hL5 (RO.le_trans hL10 (RO.le_trans hle1 hl9)))) ?_ w9 hs9
          exact hq9
theorem clash_rootI {b : Bk} {vb : Value} {o : Int} (ho : 0 ≤ o ∧ o ≤ 255) {ro : RO} (he : Env ro) (hv : BkV ro vb b) : Root prog 15 [vb, .int .u8 o] ro (fun w _ => w = .bool true) := by
  obtain ⟨m, rfl⟩ := Int.eq_ofNat_of_zero_le ho.1
  exact clash_root (by omega) he hv
end Go.Lg.B
namespace Go.Lg.B
open Go Go.Proofs Go.Proofs.YtlkmnfdipiielaaGreatDoor Go.Proofs.Tryz
set_option maxRecDepth 100000
theorem clashes_k1 : (Rows.bearingClashesRow.inPlace == prog.inPlace 15) = true := by kernel_rfl
theorem clashes_k2 : (Rows.bearingClashesRow.unfollowed == prog.unfollowed 15) = true := by kernel_rfl
theorem clashes_k3 : (Rows.bearingClashesRow.recurses == prog.recurses 15) = true := by kernel_rfl
theorem clashes_k4 : (Rows.bearingClashesRow.named == prog.varsNamed 15) = true := by kernel_rfl
theorem clashes_name : prog.funcNamed "lagan/laganlaw01.BearingClashes" = some 15 := by kernel_rfl
theorem clashes_goes : true = Rows.bearingClashesRow.goesBy prog := by kernel_rfl
theorem clashes_wf : Rows.bearingClashesRow.wfByText (OpenSpec.ofChange Rows.bearingClashesSpec) = true := by kernel_rfl
theorem clashes_facts : joinedFacts prog 15 Tryz.f15 Rows.bearingClashesSpec Rows.bearingClashesRow = true := by
  unfold joinedFacts
  exact (and_mk (and_mk (and_mk (and_mk (and_mk (and_mk (and_mk (and_mk (and_mk (and_mk (and_mk (and_mk (and_mk (and_mk (and_mk (and_mk (and_mk (and_mk (and_mk (and_mk (and_mk (and_mk (and_mk (and_mk (and_mk (and_mk (and_mk (and_mk (and_mk (and_mk (and_mk (by as_aux_lemma => kernel_rfl)
    k_lo)
    k_mr)
    (by as_aux_lemma => kernel_rfl))
    (by as_aux_lemma => kernel_rfl))
    (by as_aux_lemma => kernel_rfl))
    k_stops)
    (by as_aux_lemma => kernel_rfl))
    k_knobs)
    clashes_k1)
    clashes_k2)
    clashes_k3)
    clashes_k4)
    (by as_aux_lemma => kernel_rfl))
    (by as_aux_lemma => kernel_rfl))
    (by as_aux_lemma => kernel_rfl))
    (by as_aux_lemma => kernel_rfl))
    (by as_aux_lemma => kernel_rfl))
    (by as_aux_lemma => kernel_rfl))
    (by as_aux_lemma => kernel_rfl))
    (by as_aux_lemma => kernel_rfl))
    (by as_aux_lemma => kernel_rfl))
    (beq_iff_eq.2 k_pk.symm))
    (by as_aux_lemma => kernel_rfl))
    k_heard)
    k_may)
    (beq_iff_eq.2 k_lift.symm))
    (beq_iff_eq.2 k_make))
    (by as_aux_lemma => kernel_rfl))
    (by as_aux_lemma => kernel_rfl))
    (by as_aux_lemma => kernel_rfl))
    (by as_aux_lemma => kernel_rfl))
end Go.Lg.B
namespace Go.Proofs.YtlkmnfdipiielaaGreatDoor
open Go Go.Conc Go.Lg Go.Lg.B Go.ChangeShapes Go.RowKit Go.WideShapes
set_option maxRecDepth 100000
theorem clashes_lifted (os : Os) (started : os.Started) (H : Type) (enc : TypeId × Value → H) :
    ReturnsInLeavingWide {} Tryz.checked os 15 .any (fun w args => (Rows.bearingClashesSpec.pre enc Tryz.prog Tryz.f15 [] false w args ∧ laidMetH Tryz.prog laid1 w) ∧ sizedMet enc Tryz.prog Tryz.f15 (OpenSpec.ofChange Rows.bearingClashesSpec) false w args)
      (Rows.bearingClashesSpec.post enc Tryz.prog Tryz.f15 false true false false) := by
  refine leaving_of_root (C := Tryz.checked) (tb := 4) (X := fun w _ => laidMetH Tryz.prog laid1 w) (fun _ _ _ hh h => h.of_heap hh) own0 started Tryz.func15 laid0 (by
      intro t ht
      rw [Tryz.params15] at ht
      have hm : t ∈ [25, 5] := ht
      have hall : ([25, 5].all fun u => Tryz.prog.readableRec u && decide (u < Tryz.prog.types.size)) = true := by kernel_rfl
      have := List.all_eq_true.1 hall t hm
      rw [Bool.and_eq_true, decide_eq_true_eq] at this
      exact this) rfl (by kernel_rfl) Tryz.underlying4
    (ChangeSpec.witness_shaped (enc := enc) (C := Tryz.checked) (os := os) (X := fun w _ => laidMetH Tryz.prog laid1 w) false (World.doorLaid Tryz.prog 89 os) #[.agg #[.int .i64 0, .int .i64 0, .int .i64 0, .slice none 0 0, .slice none 0 0], .int .u8 0] 8 rfl (door_shaped os _) (by kernel_rfl) (by kernel_rfl) (by kernel_rfl) (door_met os _)) ?_
  intro W base args ds gs before hval hW _ _ hL
  obtain ⟨p, q, hA, hV, rfl, _, _⟩ := hW
  obtain ⟨rfl, rfl⟩ := trodVars_none hV
  have hA : DataW.TrodAll enc Tryz.prog W 0 (fun _ => true) true Tryz.f15.params.toList args.toList ds p := hA
  have hval : ∀ (j : Nat) t v, Tryz.f15.params[j]? = some t → args[j]? = some v → Value.okWide Tryz.prog W .any base t v := hval
  rw [Tryz.params15] at hA hval
  obtain ⟨v1, l1, d1, k1, p1, q1, e1, rfl, rfl, h1, hA⟩ := trodAll_cons hA
  obtain ⟨v2, l2, d2, k2, p2, q2, rfl, rfl, rfl, h2, hA⟩ := trodAll_cons hA
  obtain ⟨rfl, rfl, rfl⟩ := trodAll_nil hA
  have ea : args = #[v1, v2] := Array.toList_inj.1 e1
  subst ea
  obtain ⟨b, b1⟩ := argBk (hval 0 25 v1 rfl rfl) h1
  obtain ⟨o, rfl, o1⟩ := argU8 (hval 1 5 v2 rfl rfl) h2
  exact ⟨rfl, clash_rootI o1 (env_of_laid hL) b1⟩
theorem clashes_row : Rows.BearingClashesSaid :=
  OpenClaim.holds_of_wide_leaving 15 Tryz.f15 rfl rfl rfl rfl rfl rfl rfl ⟨rfl, rfl, rfl, rfl, rfl⟩ rfl rfl rfl rfl rfl clashes_name Tryz.func15 clashes_facts
    (of_decide_eq_true (by kernel_rfl)) (by unfold Func.isWrapper; first | (rw [if_pos (by decide +kernel)]; kernel_rfl) | (rw [if_neg (by decide +kernel)]; exact ⟨rfl, rfl⟩))
    (fun os started H enc _ => clashes_lifted os started H enc)
theorem clashes_holds : Rows.BearingClashesCardSaid :=
  card_goes .later [.funcs] true (true, "6da441031df1273c87b994104071112c0d6d76e328f9edd428a3df0ab3bd48e1") true
    clashes_row clashes_wf bearingClashes_row_tie rfl ⟨rfl, rfl⟩ k_main rfl
    (fun f fn hf hfn => by
      obtain rfl : f = 15 := Option.some.inj (clashes_name.symm.trans hf) |>.symm
      obtain rfl : fn = Tryz.f15 := (Option.some.inj (Tryz.func15.symm.trans hfn)).symm
      exact ⟨k_looks, fun j t ht => by
        rw [Tryz.params15] at ht
        have hm : t ∈ [25, 5] := by simpa using Array.mem_of_getElem? ht
        have hall : ([25, 5].all fun u => !Tryz.prog.wantsStandIn u) = true := by kernel_rfl
        exact (show Tryz.prog.wantsStandIn t = false by simpa using List.all_eq_true.1 hall t hm)⟩)
    clashes_goes
end Go.Proofs.YtlkmnfdipiielaaGreatDoor
