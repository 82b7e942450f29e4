/-
  Part 4 of the proof of Turned: laws of the model that the walks use, and what functions of the program reckon. Conditions: the premises that each theorem states.
-/
import Derived.Test.YtlkmnfdipiielaaGreatDoorTurnedC
import Derived.Sort.LotA
import Derived.Sort.LotB
import Derived.Sort.LotC
import Derived.Sort.LotD3
import Derived.Sort.LotD4
import Derived.Sort.LotD5
import Derived.Laws.Bits64
import Derived.Laws.Bits64b
set_option linter.all false
set_option linter.unusedVariables false
set_option linter.unusedSimpArgs false
set_option linter.unusedSectionVars false
namespace Go.Lg.B
open Go Go.Conc Go.Lg Go.Proofs Go.Proofs.Tryz
def cmpI (x y : Int) : Int := if x < y then -1 else if y < x then 1 else 0
def cmpL : List Int → List Int → Int
  | [], [] => 0
  | [], _ :: _ => -1
  | _ :: _, [] => 1
  | x :: xs, y :: ys => if cmpI x y ≠ 0 then cmpI x y else cmpL xs ys
def smaller (a c : List Int) : Bool := decide (a.length < c.length) || (a.length == c.length && decide (cmpL a c < 0))
def pick (o y : List Int) : List Int := if smaller y o then y else o
def bestFrom (o : List Int) (l : List (List Int)) : List Int := l.foldl pick o
def bestOf (l : List (List Int)) : List Int := bestFrom (l.headD []) l.tail
variable {main : Bool} {J : Goroutine → Mem → Prop} (hJ : Closed prog main J)
include hJ
theorem isNaN_c (x : Int) (ro : RO) : CallP prog J (fnv 236) [.int .i64 x] ro (.bool false) := by
  refine CallP.intro hJ (by kernel_rfl) fun c cs tail hret => ?_; refine enter_X (n := 6) func236 rfl rfl (Nl rfl) ?_
  have C : Ctx prog main J (bf 236 .normal) := ⟨hJ, by decide⟩
  refine Xr C rfl rfl ?_; refine Ad C rfl rfl rfl ?_; refine Xr C rfl rfl ?_; refine R.mov C rfl rfl rfl ?_; refine R.mov C rfl rfl rfl ?_; refine R.int C rfl rfl rfl rfl b_neq ?_; refine Ad C rfl rfl rfl ?_; refine X.ret C rfl rfl func236 rfl (by exact (.tmp rfl .nil)) ?_; refine hret _ _ ?_ (by repeat (first | exact Sr | apply Sc))
  simp [retVal]
theorem cmpI_c (x y : Int) (ro : RO) : CallP prog J (fnv 195) [.int .i64 x, .int .i64 y] ro (.int .i64 (cmpI x y)) := by
  refine CallP.intro hJ (by kernel_rfl) fun c cs tail hret => ?_; refine enter_X (n := 20) func195 rfl rfl (Nl rfl) ?_
  have C : Ctx prog main J (bf 195 .normal) := ⟨hJ, by decide⟩
  refine Xr C rfl rfl ?_; refine Ad C rfl rfl rfl ?_; refine Xr C rfl rfl ?_; refine R.mov C rfl rfl rfl ?_; refine R.callP C rfl rfl rfl rfl (isNaN_c hJ _ _) ?_; refine R.fixv (t := 8) (v' := .bool false) rfl (by rfl) ?_; refine Ad C rfl rfl rfl ?_; refine Xr C rfl rfl ?_; refine R.mov C rfl rfl rfl ?_; refine R.callP C rfl rfl rfl rfl (isNaN_c hJ _ _) ?_; refine R.fixv (t := 10) (v' := .bool false) rfl (by rfl) ?_; refine Ad C rfl rfl rfl ?_; refine Xs C ?_; refine Xr C rfl rfl ?_; refine R.mov C rfl rfl rfl ?_; refine R.done C ?_; refine X.cond C.1 rfl (fun h => nomatch h) (fun _ => ?_)
  refine X.skip C.1 ?_; refine Xs C ?_; refine Xr C rfl rfl ?_; refine R.mov C rfl rfl rfl ?_; refine R.done C ?_; refine X.cond C.1 rfl (fun h => nomatch h) (fun _ => ?_)
  refine X.skip C.1 ?_; refine Xs C ?_; refine Xr C rfl rfl ?_; refine R.mov C rfl rfl rfl ?_; refine R.mov C rfl rfl rfl ?_; refine R.int C rfl rfl rfl rfl b_lss ?_; refine R.done C ?_; refine X.cond C.1 rfl (fun q1 => ?_) (fun q1 => ?_)
  · have q1 := q1
    refine Xr C rfl rfl ?_; refine Ad C rfl rfl rfl ?_; refine X.ret C rfl rfl func195 rfl (by exact (.tmp rfl .nil)) ?_; refine hret _ _ ?_ (by repeat (first | exact Sr | apply Sc))
    first | (simp_all [cmpI, retVal]; done) | (simp_all [cmpI, retVal]; omega)
  · have q1 := q1
    refine X.skip C.1 ?_; refine Xs C ?_; refine Xr C rfl rfl ?_; refine R.mov C rfl rfl rfl ?_; refine R.mov C rfl rfl rfl ?_; refine R.int C rfl rfl rfl rfl b_gtr ?_; refine R.done C ?_; refine X.cond C.1 rfl (fun q2 => ?_) (fun q2 => ?_)
    · have q2 := q2
      refine Xr C rfl rfl ?_; refine Ad C rfl rfl rfl ?_; refine X.ret C rfl rfl func195 rfl (by exact (.tmp rfl .nil)) ?_; refine hret _ _ ?_ (by repeat (first | exact Sr | apply Sc))
      first | (simp_all [cmpI, retVal]; done) | (simp_all [cmpI, retVal]; omega)
    · have q2 := q2
      refine X.skip C.1 ?_; refine Xr C rfl rfl ?_; refine Ad C rfl rfl rfl ?_; refine X.ret C rfl rfl func195 rfl (by exact (.tmp rfl .nil)) ?_; refine hret _ _ ?_ (by repeat (first | exact Sr | apply Sc))
      first | (simp_all [cmpI, retVal]; done) | (simp_all [cmpI, retVal]; omega)
theorem cmpL_c {va vb : Value} {ro : RO} {a d : List Int} (ha : LsI ro va a) (hc : LsI ro vb d) (h1 : a.length ≤ 1000000) (h2 : d.length ≤ 1000000) : CallP prog J (fnv 160) [va, vb] ro (.int .i64 (cmpL a d)) := by
  obtain ⟨ab, ac, rfl⟩ := ha.form
  obtain ⟨bb, bc, rfl⟩ := hc.form
  refine CallP.intro hJ (by kernel_rfl) fun c cs tail hret => ?_; refine enter_X (n := 36) func160 rfl rfl (Nl rfl) ?_
  have C : Ctx prog main J (bf 160 .normal) := ⟨hJ, by decide⟩
  refine Xr C rfl rfl ?_; refine Ad C rfl rfl rfl ?_; refine Xs C ?_; refine Xr C rfl rfl ?_; refine R.mov C rfl rfl rfl ?_; refine R.lenSlice C rfl rfl rfl runUnderlying28 ?_; refine R.mov C rfl rfl rfl ?_; refine R.done C ?_; refine X.block C.1 ?_; refine X.loopI (ι := Nat) C.1 (fun i => i ≤ a.length ∧ i ≤ d.length ∧ cmpL a d = cmpL (a.drop i) (d.drop i)) (fun i => [(4, .int .i64 0), (0, .slice ab a.length ac), (1, .slice bb d.length bc), (9, .slice ab a.length ac), (10, .int .i64 (a.length : Int)), (11, .int .i64 (i : Int))])
    (fun _ => ⟨ro, tail⟩) (fun i => a.length - i) 0 ⟨Nat.zero_le _, Nat.zero_le _, rfl⟩ rfl ⟨rfl, rfl, rfl, rfl, rfl, rfl, trivial⟩ fun i hi hnext => ?_
  obtain ⟨hi, hi2, hcm⟩ := hi
  refine Xr C rfl rfl ?_; refine R.int C rfl rfl rfl rfl b_lss ?_; refine R.done C ?_; refine Xs C ?_; refine X.cond C.1 rfl (fun hlt => ?_) (fun hlt => ?_)
  · have hlt := hlt
    simp only [decide_eq_true_eq] at hlt
    have hi' : i < a.length := by omega
    rw [List.drop_eq_getElem_cons hi'] at hcm
    obtain ⟨pp, off, cap, ll, t, fq, hsl, hrop, hsub⟩ := ha.at ic_len (by omega)
    cases hsl
    have hx : ll[off + i * 1]? = some (.int .i64 a[i]) := by have := (hsub i hi').get 0 (by decide); simpa [ic] using this
    refine X.skip C.1 ?_; refine Xs C ?_; refine X.block C.1 ?_; refine Xr C rfl rfl ?_; refine R.mov C rfl rfl rfl ?_; refine R.indexAddr C rfl rfl rfl rfl runUnderlying28 sizeOf3 (by omega) (by omega) ?_; refine R.loadOneRo C rfl rfl rfl isAgg3 hrop hx ?_; refine R.asg C rfl rfl rfl ?_; refine Ad C rfl rfl rfl ?_; refine Xs C ?_; refine Xr C rfl rfl ?_; refine R.mov C rfl rfl rfl ?_; refine R.mov C rfl rfl rfl ?_; refine R.lenSlice C rfl rfl rfl runUnderlying28 ?_; refine R.int C rfl rfl rfl rfl b_geq ?_; refine R.done C ?_; refine X.cond C.1 rfl (fun hge => ?_) (fun hge => ?_)
    · have hge := hge
      simp only [decide_eq_true_eq] at hge
      obtain rfl : i = d.length := by omega
      refine Xr C rfl rfl ?_; refine Ad C rfl rfl rfl ?_; refine X.ret C rfl rfl func160 rfl (by exact (.tmp rfl .nil)) ?_; refine hret _ _ ?_ (by repeat (first | exact Sr | apply Sc))
      rw [hcm, List.drop_length]; rfl
    · have hge := hge
      simp only [decide_eq_false_iff_not] at hge
      have hj' : i < d.length := by omega
      rw [List.drop_eq_getElem_cons hj', cmpL] at hcm
      obtain ⟨pp2, off2, cap2, ll2, t2, fq2, hsl2, hrop2, hsub2⟩ := hc.at ic_len (by omega)
      cases hsl2
      have hx2 : ll2[off2 + i * 1]? = some (.int .i64 d[i]) := by have := (hsub2 i hj').get 0 (by decide); simpa [ic] using this
      refine X.skip C.1 ?_; refine Xr C rfl rfl ?_; refine R.mov C rfl rfl rfl ?_; refine R.mov C rfl rfl rfl ?_; refine R.indexAddr C rfl rfl rfl rfl runUnderlying28 sizeOf3 (by omega) (by omega) ?_; refine R.loadOneRo C rfl rfl rfl isAgg3 hrop2 hx2 ?_; refine Ad C rfl rfl rfl ?_; refine Xr C rfl rfl ?_; refine R.mov C rfl rfl rfl ?_; refine R.mov C rfl rfl rfl ?_; refine R.callP C rfl rfl rfl rfl (cmpI_c hJ _ _ _) ?_; refine Ad C rfl rfl rfl ?_; refine Xr C rfl rfl ?_; refine R.mov C rfl rfl rfl ?_; refine R.int C rfl rfl rfl rfl b_neq ?_; refine R.done C ?_; refine X.cond C.1 rfl (fun hne => ?_) (fun hne => ?_)
      · have hne := hne
        refine Xr C rfl rfl ?_; refine R.mov C rfl rfl rfl ?_; refine Ad C rfl rfl rfl ?_; refine X.ret C rfl rfl func160 rfl (by exact (.tmp rfl .nil)) ?_; refine hret _ _ ?_ (by repeat (first | exact Sr | apply Sc))
        rw [hcm, if_pos (by simpa using hne)]; rfl
      · have hne := hne
        refine X.skip C.1 ?_; refine X.inBlock C.1 ?_; refine X.region C rfl rfl ?_; refine R.int C rfl rfl rfl rfl (b_add (by omega) (by omega)) ?_; refine R.mov C rfl rfl rfl ?_; refine R.done C ?_
        rw [if_neg (by simpa using hne)] at hcm
        refine X.weaken ?_ (hnext (i + 1) ⟨hi', hj', hcm⟩ (by omega))
        exact ⟨rfl, rfl, rfl, rfl, rfl, by simp [look], trivial⟩
  · have hlt := hlt
    simp only [decide_eq_false_iff_not] at hlt
    obtain rfl : i = a.length := by omega
    rw [List.drop_length] at hcm
    refine X.exit C.1 rfl ?_; refine Xs C ?_; refine Xr C rfl rfl ?_; refine R.mov C rfl rfl rfl ?_; refine R.lenSlice C rfl rfl rfl runUnderlying28 ?_; refine R.mov C rfl rfl rfl ?_; refine R.lenSlice C rfl rfl rfl runUnderlying28 ?_; refine R.int C rfl rfl rfl rfl b_lss ?_; refine R.done C ?_; refine X.cond C.1 rfl (fun hz => ?_) (fun hz => ?_)
    · have hz := hz
      simp only [decide_eq_true_eq] at hz
      refine Xr C rfl rfl ?_; refine Ad C rfl rfl rfl ?_; refine X.ret C rfl rfl func160 rfl (by exact (.tmp rfl .nil)) ?_; refine hret _ _ ?_ (by repeat (first | exact Sr | apply Sc))
      rw [hcm, List.drop_eq_getElem_cons (by omega)]; rfl
    · have hz := hz
      simp only [decide_eq_false_iff_not] at hz
      refine X.skip C.1 ?_; refine Xr C rfl rfl ?_; refine Ad C rfl rfl rfl ?_; refine X.ret C rfl rfl func160 rfl (by exact (.tmp rfl .nil)) ?_; refine hret _ _ ?_ (by repeat (first | exact Sr | apply Sc))
      have : d.drop a.length = [] := List.drop_eq_nil_of_le (by omega)
      rw [hcm, this]; rfl
theorem smaller_c {va vb : Value} {ro : RO} {a d : List Int} (ha : LsI ro va a) (hc : LsI ro vb d) (h1 : a.length ≤ 1000000) (h2 : d.length ≤ 1000000) : CallP prog J (fnv 123) [va, vb] ro (.bool (smaller a d)) := by
  have ha0 := ha
  have hc0 := hc
  obtain ⟨ab, ac, rfl⟩ := ha.form
  obtain ⟨bb, bc, rfl⟩ := hc.form
  refine CallP.intro hJ (by kernel_rfl) fun c cs tail hret => ?_; refine enter_X (n := 23) func123 rfl rfl (Nl rfl) ?_
  have C : Ctx prog main J (bf 123 .normal) := ⟨hJ, by decide⟩
  refine Xr C rfl rfl ?_; refine Ad C rfl rfl rfl ?_; refine Xr C rfl rfl ?_; refine R.mov C rfl rfl rfl ?_; refine R.lenSlice C rfl rfl rfl runUnderlying28 ?_; refine R.mov C rfl rfl rfl ?_; refine R.lenSlice C rfl rfl rfl runUnderlying28 ?_; refine R.int C rfl rfl rfl rfl b_lss ?_; refine R.mov C rfl rfl rfl ?_; refine R.fix (t := 10) rfl (fun q1 => ?_) (fun q1 => ?_)
  · have q1 := q1
    refine R.pass C rfl rfl ?_; refine R.pass C rfl rfl ?_; refine R.pass C rfl rfl ?_; refine R.pass C rfl rfl ?_; refine R.pass C rfl rfl ?_; refine R.pass C rfl rfl ?_; refine R.pass C rfl rfl ?_; refine R.pass C rfl rfl ?_; refine R.pass C rfl rfl ?_; refine R.pass C rfl rfl ?_; refine R.pass C rfl rfl ?_; refine R.pickT C rfl rfl rfl rfl ?_; refine Ad C rfl rfl rfl ?_; refine X.ret C rfl rfl func123 rfl (by exact (.tmp rfl .nil)) ?_; refine hret _ _ ?_ (by repeat (first | exact Sr | apply Sc))
    (simp only [retVal, smaller]; congr 1; simp only [decide_eq_true_eq, decide_eq_false_iff_not, beq_iff_eq, beq_eq_false_iff_ne, ne_eq, Int.ofNat_lt, Int.natCast_inj] at *; simp [*])
  · have q1 := q1
    refine R.mov C rfl rfl rfl ?_; refine R.lenSlice C rfl rfl rfl runUnderlying28 ?_; refine R.mov C rfl rfl rfl ?_; refine R.lenSlice C rfl rfl rfl runUnderlying28 ?_; refine R.int C rfl rfl rfl rfl b_eql ?_; refine R.mov C rfl rfl rfl ?_; refine R.fix (t := 16) rfl (fun q2 => ?_) (fun q2 => ?_)
    · have q2 := q2
      refine R.mov C rfl rfl rfl ?_; refine R.mov C rfl rfl rfl ?_; refine R.callP C rfl rfl rfl rfl (cmpL_c hJ ha0 hc0 h1 h2) ?_; refine R.int C rfl rfl rfl rfl b_lss ?_; refine R.pickT C rfl rfl rfl rfl ?_; refine R.pickF C rfl rfl rfl rfl ?_; refine Ad C rfl rfl rfl ?_; refine X.ret C rfl rfl func123 rfl (by exact (.tmp rfl .nil)) ?_; refine hret _ _ ?_ (by repeat (first | exact Sr | apply Sc))
      (simp only [retVal, smaller]; congr 1; simp only [decide_eq_true_eq, decide_eq_false_iff_not, beq_iff_eq, beq_eq_false_iff_ne, ne_eq, Int.ofNat_lt, Int.natCast_inj] at *; simp [*])
    · have q2 := q2
      refine R.pass C rfl rfl ?_; refine R.pass C rfl rfl ?_; refine R.pass C rfl rfl ?_; refine R.pass C rfl rfl ?_; refine R.pickF C rfl rfl rfl rfl ?_; refine R.pickF C rfl rfl rfl rfl ?_; refine Ad C rfl rfl rfl ?_; refine X.ret C rfl rfl func123 rfl (by exact (.tmp rfl .nil)) ?_; refine hret _ _ ?_ (by repeat (first | exact Sr | apply Sc))
      (simp only [retVal, smaller]; congr 1; simp only [decide_eq_true_eq, decide_eq_false_iff_not, beq_iff_eq, beq_eq_false_iff_ne, ne_eq, Int.ofNat_lt, Int.natCast_inj] at *; simp [*])
end Go.Lg.B
namespace Go.Lg.B
open Go Go.Conc Go.Lg Go.Proofs Go.Proofs.Tryz
theorem cmpI_flip (x y : Int) : cmpI y x = - cmpI x y := by unfold cmpI; split <;> split <;> (try split) <;> omega
theorem cmpI_zero {x y : Int} : cmpI x y = 0 ↔ x = y := by unfold cmpI; split <;> (try split) <;> omega
theorem cmpI_neg {x y : Int} : cmpI x y < 0 ↔ x < y := by unfold cmpI; split <;> (try split) <;> omega
theorem cmpL_flip : ∀ a c : List Int, cmpL c a = - cmpL a c
  | [], [] => rfl
  | [], _ :: _ => rfl
  | _ :: _, [] => rfl
  | x :: xs, y :: ys => by
    have h := cmpI_flip x y
    have ih := cmpL_flip xs ys
    simp only [cmpL]
    split <;> split <;> omega
theorem cmpL_zero : ∀ {a c : List Int}, cmpL a c = 0 → a = c
  | [], [], _ => rfl
  | [], _ :: _, h => by simp [cmpL] at h
  | _ :: _, [], h => by simp [cmpL] at h
  | x :: xs, y :: ys, h => by
    simp only [cmpL] at h
    split at h
    · contradiction
    · rename_i hx
      simp only [ne_eq, Decidable.not_not] at hx
      rw [cmpI_zero.1 hx, cmpL_zero h]
theorem cmpL_refl : ∀ a : List Int, cmpL a a = 0
  | [] => rfl
  | x :: xs => by
    have : cmpI x x = 0 := cmpI_zero.2 rfl
    simp [cmpL, this, cmpL_refl xs]
theorem cmpL_trans : ∀ {a c e : List Int}, cmpL a c < 0 → cmpL c e < 0 → cmpL a e < 0
  | [], [], _, h, _ => by simp [cmpL] at h
  | [], _ :: _, [], _, h => by simp [cmpL] at h
  | [], _ :: _, _ :: _, _, _ => by simp [cmpL]
  | _ :: _, [], _, h, _ => by simp [cmpL] at h
  | _ :: _, _ :: _, [], _, h => by simp [cmpL] at h
  | x :: xs, y :: ys, z :: zs, h1, h2 => by
    simp only [cmpL] at h1 h2 ⊢
    by_cases e1 : cmpI x y = 0
    · rw [if_neg (by simp [e1])] at h1
      have := cmpI_zero.1 e1
      subst this
      by_cases e2 : cmpI x z = 0
      · rw [if_neg (by simp [e2])] at h2 ⊢
        exact cmpL_trans h1 h2
      · rw [if_pos e2] at h2 ⊢; exact h2
    · rw [if_pos e1] at h1
      have h3 := cmpI_neg.1 h1
      by_cases e2 : cmpI y z = 0
      · have := cmpI_zero.1 e2
        subst this
        rw [if_pos e1]; exact h1
      · rw [if_pos e2] at h2
        have h4 := cmpI_neg.1 h2
        have h5 : cmpI x z < 0 := cmpI_neg.2 (by omega)
        rw [if_pos (by omega)]; exact h5
theorem smaller_iff {a c : List Int} : smaller a c = true ↔ a.length < c.length ∨ a.length = c.length ∧ cmpL a c < 0 := by simp [smaller]
theorem smaller_trans {a c e : List Int} (h1 : smaller a c = true) (h2 : smaller c e = true) : smaller a e = true := by
  rw [smaller_iff] at *
  rcases h1 with h1 | ⟨h1, h1'⟩
  · rcases h2 with h2 | ⟨h2, _⟩ <;> exact .inl (by omega)
  · rcases h2 with h2 | ⟨h2, h2'⟩
    · exact .inl (by omega)
    · exact .inr ⟨by omega, cmpL_trans h1' h2'⟩
theorem smaller_total {a c : List Int} (h1 : ¬ smaller a c = true) (h2 : ¬ smaller c a = true) : a = c := by
  rw [smaller_iff] at *
  have h3 := cmpL_flip a c
  refine cmpL_zero ?_
  have e1 : a.length = c.length := by omega
  have e2 : ¬ cmpL a c < 0 := fun h => h1 (.inr ⟨e1, h⟩)
  have e3 : ¬ cmpL c a < 0 := fun h => h2 (.inr ⟨e1.symm, h⟩)
  omega
theorem bestFrom_least : ∀ (l : List (List Int)) (o : List Int), bestFrom o l ∈ o :: l ∧ ∀ x ∈ o :: l, ¬ smaller x (bestFrom o l) = true
  | [], o => ⟨by simp [bestFrom], fun x hx => by
    simp only [List.mem_singleton] at hx
    subst hx
    simp [bestFrom, smaller, cmpL_refl]⟩
  | y :: l, o => by
    have ⟨h1, h2⟩ := bestFrom_least l (pick o y)
    have e : bestFrom o (y :: l) = bestFrom (pick o y) l := rfl
    rw [e]
    generalize bestFrom (pick o y) l = r at h1 h2
    unfold pick at h1 h2
    by_cases hs : smaller y o = true
    · rw [if_pos hs] at h1 h2
      refine ⟨?_, fun x hx => ?_⟩
      · rcases List.mem_cons.1 h1 with h | h
        · subst h; simp
        · simp [h]
      · rcases List.mem_cons.1 hx with rfl | hx
        · exact fun h => h2 y List.mem_cons_self (smaller_trans hs h)
        · exact h2 x hx
    · rw [if_neg hs] at h1 h2
      refine ⟨?_, fun x hx => ?_⟩
      · rcases List.mem_cons.1 h1 with h | h
        · subst h; simp
        · simp [h]
      · rcases List.mem_cons.1 hx with rfl | hx
        · exact h2 x List.mem_cons_self
        · rcases List.mem_cons.1 hx with rfl | hx
          · intro h
            by_cases ho : smaller o x = true
            · exact h2 o List.mem_cons_self (smaller_trans ho h)
            · have := smaller_total hs ho
              subst this
              exact h2 x List.mem_cons_self h
          · exact h2 x (List.mem_cons_of_mem _ hx)
theorem bestOf_least {l : List (List Int)} (h : l ≠ []) : bestOf l ∈ l ∧ ∀ x ∈ l, ¬ smaller x (bestOf l) = true := by
  cases l with
  | nil => exact absurd rfl h
  | cons o l => exact bestFrom_least l o
theorem bestOf_unique {l : List (List Int)} {r : List Int} (h1 : r ∈ l) (h2 : ∀ x ∈ l, ¬ smaller x r = true) : bestOf l = r := by
  have ⟨h3, h4⟩ := bestOf_least (l := l) (fun e => by rw [e] at h1; cases h1)
  exact smaller_total (h2 _ h3) (h4 _ h1)
theorem bestOf_perm {l l' : List (List Int)} (h : l.Perm l') : bestOf l = bestOf l' := by
  cases l' with
  | nil => rw [h.eq_nil]
  | cons o l' =>
    have ⟨h3, h4⟩ := bestOf_least (l := o :: l') (by simp)
    exact bestOf_unique (h.mem_iff.2 h3) fun x hx => h4 x (h.mem_iff.1 hx)
theorem bestFrom_take {o : List Int} {l : List (List Int)} {i : Nat} (h : i < l.length) : bestFrom o (l.take (i + 1)) = pick (bestFrom o (l.take i)) l[i] := by
  unfold bestFrom
  rw [List.take_succ_eq_append_getElem h, List.foldl_append]; rfl
variable {main : Bool} {J : Goroutine → Mem → Prop} (hJ : Closed prog main J)
include hJ
theorem best_c {v : Value} {ro : RO} {L : List (List Int)} (h : LsLs ro v L) (hne : L ≠ []) (hn : L.length ≤ 1000000) (hs : ∀ x ∈ L, x.length ≤ 1000000) : CallR prog J (fnv 122) [fnv 123, v] ro (fun w ro' => LsI ro' w (bestOf L)) := by
  obtain ⟨zs, hls, rfl, hz, hcap⟩ := h
  have hzp : 0 < zs.length := by cases zs with
    | nil => exact absurd rfl hne
    | cons => simp
  have hzl : zs.length ≤ 1000000 := by simpa using hn
  obtain ⟨pp, off, cap, ll, t, fq, rfl, hrop, hsub⟩ := hls.at (fun _ => rfl) hzp
  have hcap := hcap _ _ _ rfl
  have hx : ∀ j (hj : j < zs.length), ll[off + j * 1]? = some zs[j].1 := fun j hj => by have := (hsub j hj).get 0 (by decide); simpa using this
  refine CallR.intro hJ (by kernel_rfl) fun c cs tail hret => ?_; refine enter_X (n := 25) func122 rfl rfl (Nl rfl) ?_
  have C : Ctx prog main J (bf 122 .normal) := ⟨hJ, by decide⟩
  refine Xr C rfl rfl ?_; refine Ad C rfl rfl rfl ?_; refine Xr C rfl rfl ?_; refine R.mov C rfl rfl rfl ?_; refine R.indexAddr C rfl rfl rfl rfl runUnderlying149 sizeOf28 (by omega) (by omega) ?_; refine R.loadOneRo C rfl rfl rfl isAgg28 hrop (hx 0 hzp) ?_; refine Ad C rfl rfl rfl ?_; refine Xs C ?_; refine Xr C rfl rfl ?_; refine R.mov C rfl rfl rfl ?_; refine R.sliceFrom C rfl rfl rfl rfl runUnderlying149 sizeOf28 (by omega) (by omega) ?_; refine R.lenSlice C rfl rfl rfl runUnderlying149 ?_; refine R.mov C rfl rfl rfl ?_; refine R.done C ?_; refine X.block C.1 ?_
  obtain ⟨bs, hbs, hbs2⟩ : ∃ bs, bs = (if cap = Int.toNat 1 then some (⟨pp, off, none⟩ : Addr) else (some (⟨pp, off, none⟩ : Addr)).map (·.add (Int.toNat 1 * 1))) ∧ (1 < zs.length → bs = some ⟨pp, off + 1, none⟩) := ⟨_, rfl, fun h => by rw [if_neg (by simp; omega)]; rfl⟩
  have hz0 := hz _ (List.getElem_mem hzp)
  have htl : ((zs.map (·.2)).tail).length = zs.length - 1 := by simp
  have hbo : bestOf (zs.map (·.2)) = bestFrom zs[0].2 ((zs.map (·.2)).tail) := by
    cases zs with
    | nil => simp at hzp
    | cons z zs => rfl
  rw [hbo] at hret
  have hmem : ∀ i, (bestFrom zs[0].2 (((zs.map (·.2)).tail).take i)).length ≤ 1000000 := fun i => by
    have := (bestFrom_least (((zs.map (·.2)).tail).take i) zs[0].2).1
    rcases List.mem_cons.1 this with h | h
    · rw [h]; exact hs _ (List.mem_map.2 ⟨_, List.getElem_mem hzp, rfl⟩)
    · exact hs _ (List.mem_of_mem_tail (List.mem_of_mem_take h))
  refine X.loopI (ι := Nat × Value) C.1 (fun s => s.1 ≤ zs.length - 1 ∧ LsI ro s.2 (bestFrom zs[0].2 (((zs.map (·.2)).tail).take s.1))) (fun s => [(0, fnv 123), (5, s.2), (12, .slice bs (zs.length - 1) (cap - 1)), (13, .int .i64 ((zs.length - 1 : Nat) : Int)), (14, .int .i64 (s.1 : Int))])
    (fun _ => ⟨ro, tail⟩) (fun s => zs.length - 1 - s.1) (0, zs[0].1) ⟨Nat.zero_le _, by simpa [bestFrom] using hz0⟩ rfl ⟨rfl, rfl, by rw [hbs]; rfl, rfl, rfl, trivial⟩ fun s hs' hnext => ?_
  obtain ⟨i, w⟩ := s
  obtain ⟨hi, hw⟩ := hs'
  simp only at hi hw hnext ⊢
  refine Xr C rfl rfl ?_; refine R.int C rfl rfl rfl rfl b_lss ?_; refine R.done C ?_; refine Xs C ?_; refine X.cond C.1 rfl (fun hlt => ?_) (fun hlt => ?_)
  · have hlt := hlt
    simp only [decide_eq_true_eq] at hlt
    have hi' : i + 1 < zs.length := by omega
    have hbs3 := hbs2 (by omega)
    clear hbs
    subst hbs3
    have hbt := bestFrom_take (o := zs[0].2) (l := (zs.map (·.2)).tail) (i := i) (by omega)
    have hget : ((zs.map (·.2)).tail)[i] = zs[i + 1].2 := by simp
    rw [hget] at hbt
    have hy := hz _ (List.getElem_mem hi')
    refine X.skip C.1 ?_; refine Xs C ?_; refine X.block C.1 ?_; refine Xr C rfl rfl ?_; refine R.indexAddr C rfl rfl rfl rfl runUnderlying149 sizeOf28 (by omega) (by omega) ?_; refine R.loadOneRo C rfl rfl rfl isAgg28 hrop (by have := hx (i + 1) hi'; rw [show off + 1 + ((i : Int)).toNat * 1 = off + (i + 1) * 1 by omega]; exact this) ?_; refine Ad C rfl rfl rfl ?_; refine Xr C rfl rfl ?_; refine R.mov C rfl rfl rfl ?_; refine R.mov C rfl rfl rfl ?_; refine R.mov C rfl rfl rfl ?_; refine R.callP C rfl rfl rfl rfl (smaller_c hJ hy hw (hs _ (List.mem_map.2 ⟨_, List.getElem_mem hi', rfl⟩)) (hmem i)) ?_; refine R.done C ?_; refine X.cond C.1 rfl (fun hr => ?_) (fun hr => ?_)
    · have hr := hr
      refine X.region C rfl rfl ?_; refine R.mov C rfl rfl rfl ?_; refine Ad C rfl rfl rfl ?_; refine X.inBlock C.1 ?_; refine X.region C rfl rfl ?_; refine R.int C rfl rfl rfl rfl (b_add (by omega) (by omega)) ?_; refine R.mov C rfl rfl rfl ?_; refine R.done C ?_
      rw [pick, if_pos hr] at hbt
      refine X.weaken ?_ (hnext (i + 1, zs[i + 1].1) ⟨by simp; omega, by simp only; rw [hbt]; exact hy⟩ (by simp; omega))
      exact ⟨rfl, rfl, rfl, rfl, by simp [look], trivial⟩
    · have hr := hr
      refine X.skip C.1 ?_; refine X.inBlock C.1 ?_; refine X.region C rfl rfl ?_; refine R.int C rfl rfl rfl rfl (b_add (by omega) (by omega)) ?_; refine R.mov C rfl rfl rfl ?_; refine R.done C ?_
      rw [pick, if_neg (by simp [hr])] at hbt
      refine X.weaken ?_ (hnext (i + 1, w) ⟨by simp; omega, by simp only; rw [hbt]; exact hw⟩ (by simp; omega))
      exact ⟨rfl, rfl, rfl, rfl, by simp [look], trivial⟩
  · have hlt := hlt
    simp only [decide_eq_false_iff_not] at hlt
    obtain rfl : i = zs.length - 1 := by omega
    rw [List.take_of_length_le (by omega)] at hw
    refine X.exit C.1 rfl ?_; refine Xr C rfl rfl ?_; refine R.mov C rfl rfl rfl ?_; refine Ad C rfl rfl rfl ?_; refine X.ret C rfl rfl func122 rfl (by exact (.tmp rfl .nil)) ?_; refine hret _ _ _ (RO.le_refl _) (by repeat (first | exact Sr | apply Sc)) ?_
    exact hw
end Go.Lg.B
namespace Go.Lg.B
open Go Go.Conc Go.Lg Go.Proofs Go.Proofs.Tryz
def fewP (b : Bk) (m : Nat) : Bool := together b (andNot (everybody b) m)
def clashP (b : Bk) (m : Nat) : Bool := !together b m
def listsOf (b : Bk) (p : Nat → Bool) : List (List Int) := ((List.range (2 ^ b.ws.length)).filter p).map listOf
def fewest (b : Bk) : List Int × Int := if checkChart b ≠ 0 then ([], checkChart b) else (bestOf (listsOf b (fewP b)), 0)
def clash (b : Bk) : List Int × Int := if checkChart b ≠ 0 then ([], checkChart b) else (bestOf (listsOf b (clashP b)), 0)
theorem offs_ne : ∀ (l : List Rc) (i : Nat) (a : Aim), (∀ x ∈ l, x.fine = true) → offs l i a ≠ []
  | [], _, _, _ => by simp [offs]
  | x :: l, i, a, h => by
    have hx := h x List.mem_cons_self
    simp only [Rc.fine, isReach, Bool.and_eq_true, decide_eq_true_eq] at hx
    simp only [offs]
    intro e
    rw [List.flatMap_eq_nil_iff] at e
    obtain ⟨m, hm⟩ : ∃ m, (x.hi + 1 - x.lo).toNat = m + 1 := ⟨(x.hi - x.lo).toNat, by omega⟩
    rw [hm] at e
    exact offs_ne l (i + 1) _ (fun y hy => h y (List.mem_cons_of_mem _ hy)) (e x.lo (by simp [rz]))
theorem aims_ne {b : Bk} (hb : b.good) : aims b ≠ [] := by
  have hw := hb.w
  have hh := hb.h
  intro e
  unfold aims at e
  rw [List.flatMap_eq_nil_iff] at e
  have hwh : 0 < b.w * b.h := Int.mul_pos (by omega) (by omega)
  obtain ⟨m, hm⟩ : ∃ m, (b.w * b.h).toNat = m + 1 := ⟨(b.w * b.h).toNat - 1, by omega⟩
  rw [hm] at e
  exact offs_ne _ _ _ hb.cs (e 0 (by simp [ups]))
theorem together_zero {b : Bk} (hb : b.good) : together b 0 = true := by
  unfold together
  rw [List.any_eq_true]
  cases h : aims b with
  | nil => exact absurd h (aims_ne hb)
  | cons a l => exact ⟨a, List.mem_cons_self, by simp⟩
theorem everybody_lt (b : Bk) : everybody b < 2 ^ b.ws.length := by
  have := Nat.two_pow_pos b.ws.length
  unfold everybody; omega
theorem fewP_all {b : Bk} (hb : b.good) : fewP b (everybody b) = true := by
  unfold fewP andNot
  rw [Nat.and_self, Nat.xor_self]
  exact together_zero hb
theorem listsOf_few {b : Bk} (hb : b.good) : listsOf b (fewP b) ≠ [] := by
  intro e
  have : listOf (everybody b) ∈ listsOf b (fewP b) := List.mem_map.2 ⟨_, List.mem_filter.2 ⟨List.mem_range.2 (everybody_lt b), fewP_all hb⟩, rfl⟩
  rw [e] at this; cases this
theorem listOf_len (m : Nat) : (listOf m).length ≤ 5 := bitsUpto_len m 5
theorem lists_facts {b : Bk} (hb : b.good) {p : Nat → Bool} {L : List (List Int)} {ms : List Nat} (h1 : ms.Perm ((List.range (2 ^ b.ws.length)).filter p)) (h2 : L = ms.map listOf) : L.Perm (listsOf b p) ∧ L.length ≤ 1000000 ∧ ∀ x ∈ L, x.length ≤ 1000000 := by
  subst h2
  have h5 : 2 ^ b.ws.length ≤ 2 ^ 5 := Nat.pow_le_pow_right (by omega) hb.nw
  refine ⟨h1.map _, ?_, fun x hx => ?_⟩
  · rw [List.length_map, h1.length_eq]
    have := List.length_filter_le p (List.range (2 ^ b.ws.length))
    rw [List.length_range] at this
    omega
  · obtain ⟨m, _, rfl⟩ := List.mem_map.1 hx
    have := listOf_len m
    omega
section
variable {main : Bool} {J : Goroutine → Mem → Prop} (hJ : Closed prog main J)
include hJ
theorem few1_c {b : Bk} {vc vw : Value} {ro : RO} {p : Nat} {t : TypeId} {fq : Nat × Nat} (hc : Ls Rc.cells 2 ro vc b.cs) (hw : Ls Wt.cells 5 ro vw b.ws) (hb : b.good) (hp : ro p = some (.cells [.int .i64 b.w, .int .i64 b.h, .int .i64 b.f, vc, vw].toArray t fq)) {m : Nat} (hm : m < 2 ^ 63) :
    CallR prog J (.func (.func 125) #[] [.pointer (some ⟨p, 0, none⟩)].toArray) [.int .i64 (m : Int)] ro (fun w _ => w = .bool (fewP b m)) := by
  have hv : BkV ro (.agg [.int .i64 b.w, .int .i64 b.h, .int .i64 b.f, vc, vw].toArray) b := ⟨vc, vw, rfl, hc, hw⟩
  have hnw := hb.nw
  have hx63 : andNot (everybody b) m < 2 ^ 63 := by
    have h1 : everybody b < 2 ^ 63 := Nat.lt_of_lt_of_le (everybody_lt b) (Nat.pow_le_pow_right (by omega) (by omega))
    exact Nat.xor_lt_two_pow h1 (Nat.and_lt_two_pow _ hm)
  refine CallR.introC hJ (by kernel_rfl) fun c cs tail hret => ?_; refine enter_X (n := 10) func125 rfl rfl (Nl rfl) ?_
  have C : Ctx prog main J (bf 125 .normal) := ⟨hJ, by decide⟩
  refine Xr C rfl rfl ?_; refine Ad C rfl rfl rfl ?_; refine Xs C ?_; refine X.regionD C (by kernel_rfl) (by kernel_rfl) (by kernel_rfl) fun hok => ?_; refine Dl 0 hok rfl (by kernel_rfl) (fun _ _ A h => R.loadAggRo C rfl (A.w rfl rfl) (A.x rfl rfl) isAgg105 sizeOf105 hp (.take (.take (.take (.take (.take .nil))))) h) ?_; refine Dl 1 hok rfl (by kernel_rfl) (fun _ _ A h => R.loadAggRo C rfl (A.w rfl rfl) (A.x rfl rfl) isAgg105 sizeOf105 hp (.take (.take (.take (.take (.take .nil))))) h) ?_; refine Dm C 3 hok rfl (by kernel_rfl) rfl rfl rfl rfl ?_; refine D.eP (i := 2) (dst := (some 6)) [false, true] hok rfl (by kernel_rfl) (by kernel_rfl) (fun σr rest A hk => ?_)
  refine R.callP C rfl (A.w rfl rfl) (A.x rfl rfl) (A.s rfl rfl) (everybody_c hJ (by assumption) (by omega)) (hk _ _ ⟨(QFs.cons (QF.of rfl (fun _ _ A h => R.loadAggRo C rfl (A.w rfl rfl) (A.x rfl rfl) isAgg105 sizeOf105 hp (.take (.take (.take (.take (.take .nil))))) h)) QFs.nil), ?_⟩)
  refine Di C 4 hok rfl (by kernel_rfl) rfl rfl rfl rfl rfl rfl (b_andNot (Nat.lt_of_lt_of_le (everybody_lt b) (Nat.pow_le_pow_right (by omega) (by omega))) hm) ?_; refine D.eP (i := 5) (dst := (some 9)) [false] hok rfl (by kernel_rfl) (by kernel_rfl) (fun σr rest A hk => ?_)
  refine R.callR C rfl (A.w rfl rfl) (A.x rfl rfl) (A.s rfl rfl) ((together_c hJ hv hb hx63)) fun v' ro' hle' hp' => hk _ _ ⟨QFs.nil, ?_⟩
  refine Dp 6 hok rfl (by kernel_rfl) (fun _ _ _ A h => R.asg C rfl (A.w rfl rfl) (A.x rfl rfl) h) ?_; refine D.done C hok (by kernel_rfl) ?_; refine X.ret C rfl rfl func125 rfl (by exact (.tmp rfl .nil)) ?_; refine hret _ _ _ (by assumption) (by repeat (first | exact Sr | apply Sc)) ?_
  subst hp'; rfl
theorem clash1_c {b : Bk} {vc vw : Value} {ro : RO} {p : Nat} {t : TypeId} {fq : Nat × Nat} (hc : Ls Rc.cells 2 ro vc b.cs) (hw : Ls Wt.cells 5 ro vw b.ws) (hb : b.good) (hp : ro p = some (.cells [.int .i64 b.w, .int .i64 b.h, .int .i64 b.f, vc, vw].toArray t fq)) {m : Nat} (hm : m < 2 ^ 63) :
    CallR prog J (.func (.func 130) #[] [.pointer (some ⟨p, 0, none⟩)].toArray) [.int .i64 (m : Int)] ro (fun w _ => w = .bool (clashP b m)) := by
  have hv : BkV ro (.agg [.int .i64 b.w, .int .i64 b.h, .int .i64 b.f, vc, vw].toArray) b := ⟨vc, vw, rfl, hc, hw⟩
  refine CallR.introC hJ (by kernel_rfl) fun c cs tail hret => ?_; refine enter_X (n := 8) func130 rfl rfl (Nl rfl) ?_
  have C : Ctx prog main J (bf 130 .normal) := ⟨hJ, by decide⟩
  refine Xr C rfl rfl ?_; refine Ad C rfl rfl rfl ?_; refine Xr C rfl rfl ?_; refine R.loadAggRo C rfl rfl rfl isAgg105 sizeOf105 hp (.take (.take (.take (.take (.take .nil))))) ?_; refine R.mov C rfl rfl rfl ?_; refine R.callR C rfl rfl rfl rfl (together_c hJ hv hb hm) fun v' ro' hle' hp' => ?_
  subst hp'
  refine R.not C rfl rfl rfl ?_; refine Ad C rfl rfl rfl ?_; refine X.ret C rfl rfl func130 rfl (by exact (.tmp rfl .nil)) ?_; refine hret _ _ _ (by assumption) (by repeat (first | exact Sr | apply Sc)) ?_
  rfl
end
theorem fewest_c {Q : Machine → Outcome → World → Trace → Prop} {b : Bk} {v : Value} {ro : RO} (he : Env ro) (hv : BkV ro v b) (hs : b.short) : CallR prog (JM prog Q) (fnv 51) [v] ro (fun w ro' => ∃ vl, LsI ro' vl (fewest b).1 ∧ w = .tuple [vl, .int .i64 (fewest b).2].toArray) := by
  have hJ : Closed prog true (JM prog Q) := JM.closed
  let main := true
  let J := JM prog Q
  have hvv := hv
  obtain ⟨vc, vw, rfl, hc, hw⟩ := hv
  obtain ⟨cb, cc, rfl⟩ := hc.form
  obtain ⟨wb, wc, rfl⟩ := hw.form
  refine CallR.intro hJ (by kernel_rfl) fun c cs tail hret => ?_; refine enter_X (n := 17) func51 rfl rfl (Nl rfl) ?_
  have C : Ctx prog main J (bf 51 .normal) := ⟨hJ, by decide⟩
  refine Xr C rfl rfl ?_; refine R.box C rfl rfl rfl rfl fun p1 => ?_; refine R.asg C rfl rfl rfl ?_; refine Ad C rfl rfl rfl ?_; refine Xs C ?_; refine Xr C rfl rfl ?_; refine R.loadAgg C rfl rfl rfl isAgg25 sizeOf25 (by repeat (first | exact Mh | apply Mt)) (.take (.take (.take (.take (.take .nil))))) ?_; refine R.callP C rfl rfl rfl rfl (checkChart_c hJ (by assumption) (by assumption) (by assumption)) ?_; refine Ad C rfl rfl rfl ?_; refine Xr C rfl rfl ?_; refine R.mov C rfl rfl rfl ?_; refine R.int C rfl rfl rfl rfl b_neq ?_; refine R.done C ?_; refine X.cond C.1 rfl (fun hh => ?_) (fun hh => ?_)
  · have hh := hh
    simp at hh
    refine Xr C rfl rfl ?_; refine R.mov C rfl rfl rfl ?_; refine R.asg C rfl rfl rfl ?_; refine Ad C rfl rfl rfl ?_; refine X.ret C rfl rfl func51 rfl (by exact (.tmp rfl (.tmp rfl .nil))) ?_; refine hret _ _ _ (RO.le_refl _) (by repeat (first | exact Sr | apply Sc)) ?_
    exact ⟨_, by rw [fewest, if_pos hh]; exact .nil, by rw [fewest, if_pos hh]; rfl⟩
  · have hh := hh
    simp at hh
    have hb := good_iff.1 hh
    have hnw := hb.nw
    refine X.skip C.1 ?_; refine Xr C rfl rfl ?_; refine R.loadAgg C rfl rfl rfl isAgg25 sizeOf25 (by repeat (first | exact Mh | apply Mt)) (.take (.take (.take (.take (.take .nil))))) ?_; refine R.build C rfl rfl rfl zeroValue105 rfl runUnderlying105 (by kernel_rfl) (Fills.part rfl rfl sizeOf25 rfl (.here (.here (.here (.here (.here .nil))))) .nil) ?_; refine R.alloc C rfl rfl zeroValue105 rfl fun p5 => ?_; refine R.store C rfl rfl rfl rfl sizeOf105 rfl rfl rfl (by repeat (first | exact Uh | apply Ut)) (.here (.here (.here (.here (.here .nil))))) ?_; refine R.done C ?_; refine Xr C rfl rfl ?_; refine R.persist C.1 fun ro1 hl1 h5 => ?_
    have hc1 := hc.mono hl1
    have hw1 := hw.mono hl1
    refine R.loadAggRo C rfl rfl rfl isAgg105 sizeOf105 h5 (.take (.take (.take (.take (.take .nil))))) ?_; refine R.makeFunc C rfl rfl rfl rfl ?_; refine R.callR C rfl rfl rfl rfl ((lists_c (p := fewP b) ⟨_, _, rfl, hc1, hw1⟩ (by omega) (fun hJ ro' hl m hm => few1_c hJ (hc1.mono hl) (hw1.mono hl) hb (hl _ _ h5) (Nat.lt_of_lt_of_le hm (Nat.pow_le_pow_right (by omega) (by omega)))) rfl)) fun v2 ro2 hl2 hL => ?_
    obtain ⟨L, hL, ms, hms, hLe⟩ := hL
    obtain ⟨hperm, hlen, hsz⟩ := lists_facts hb hms hLe
    have hne : L ≠ [] := fun e => by
      rw [e] at hperm
      exact listsOf_few hb hperm.symm.eq_nil
    refine R.callR C rfl rfl rfl rfl ((best_c hJ hL hne hlen hsz)) fun v3 ro3 hl3 hb3 => ?_; refine R.asg C rfl rfl rfl ?_; refine Ad C rfl rfl rfl ?_; refine X.ret C rfl rfl func51 rfl (by exact (.tmp rfl (.tmp rfl .nil))) ?_; refine hret _ _ _ (RO.le_trans hl1 (RO.le_trans hl2 hl3)) (by repeat (first | exact Sr | apply Sc)) ?_
    rw [bestOf_perm hperm] at hb3
    exact ⟨_, by rw [fewest, if_neg (by simp [hh])]; exact hb3, by rw [fewest, if_neg (by simp [hh])]; rfl⟩
theorem clash_c {Q : Machine → Outcome → World → Trace → Prop} {b : Bk} {v : Value} {ro : RO} (he : Env ro) (hv : BkV ro v b) (hs : b.short) : CallR prog (JM prog Q) (fnv 63) [v] ro (fun w ro' => ∃ vl, LsI ro' vl (clash b).1 ∧ w = .tuple [vl, .int .i64 (clash b).2].toArray) := by
  have hJ : Closed prog true (JM prog Q) := JM.closed
  let main := true
  let J := JM prog Q
  have hvv := hv
  obtain ⟨vc, vw, rfl, hc, hw⟩ := hv
  obtain ⟨cb, cc, rfl⟩ := hc.form
  obtain ⟨wb, wc, rfl⟩ := hw.form
  refine CallR.intro hJ (by kernel_rfl) fun c cs tail hret => ?_; refine enter_X (n := 22) func63 rfl rfl (Nl rfl) ?_
  have C : Ctx prog main J (bf 63 .normal) := ⟨hJ, by decide⟩
  refine Xr C rfl rfl ?_; refine R.box C rfl rfl rfl rfl fun p1 => ?_; refine R.asg C rfl rfl rfl ?_; refine Ad C rfl rfl rfl ?_; refine Xs C ?_; refine Xr C rfl rfl ?_; refine R.loadAgg C rfl rfl rfl isAgg25 sizeOf25 (by repeat (first | exact Mh | apply Mt)) (.take (.take (.take (.take (.take .nil))))) ?_; refine R.callP C rfl rfl rfl rfl (checkChart_c hJ (by assumption) (by assumption) (by assumption)) ?_; refine Ad C rfl rfl rfl ?_; refine Xr C rfl rfl ?_; refine R.mov C rfl rfl rfl ?_; refine R.int C rfl rfl rfl rfl b_neq ?_; refine R.done C ?_; refine X.cond C.1 rfl (fun hh => ?_) (fun hh => ?_)
  · have hh := hh
    simp at hh
    refine Xr C rfl rfl ?_; refine R.mov C rfl rfl rfl ?_; refine R.asg C rfl rfl rfl ?_; refine Ad C rfl rfl rfl ?_; refine X.ret C rfl rfl func63 rfl (by exact (.tmp rfl (.tmp rfl .nil))) ?_; refine hret _ _ _ (RO.le_refl _) (by repeat (first | exact Sr | apply Sc)) ?_
    exact ⟨_, by rw [clash, if_pos hh]; exact .nil, by rw [clash, if_pos hh]; rfl⟩
  · have hh := hh
    simp at hh
    have hb := good_iff.1 hh
    have hnw := hb.nw
    refine X.skip C.1 ?_; refine Xr C rfl rfl ?_; refine R.loadAgg C rfl rfl rfl isAgg25 sizeOf25 (by repeat (first | exact Mh | apply Mt)) (.take (.take (.take (.take (.take .nil))))) ?_; refine R.build C rfl rfl rfl zeroValue105 rfl runUnderlying105 (by kernel_rfl) (Fills.part rfl rfl sizeOf25 rfl (.here (.here (.here (.here (.here .nil))))) .nil) ?_; refine R.alloc C rfl rfl zeroValue105 rfl fun p5 => ?_; refine R.store C rfl rfl rfl rfl sizeOf105 rfl rfl rfl (by repeat (first | exact Uh | apply Ut)) (.here (.here (.here (.here (.here .nil))))) ?_; refine R.done C ?_; refine Xr C rfl rfl ?_; refine R.persist C.1 fun ro1 hl1 h5 => ?_
    have hc1 := hc.mono hl1
    have hw1 := hw.mono hl1
    refine R.loadAggRo C rfl rfl rfl isAgg105 sizeOf105 h5 (.take (.take (.take (.take (.take .nil))))) ?_; refine R.makeFunc C rfl rfl rfl rfl ?_; refine R.callR C rfl rfl rfl rfl ((lists_c (p := clashP b) ⟨_, _, rfl, hc1, hw1⟩ (by omega) (fun hJ ro' hl m hm => clash1_c hJ (hc1.mono hl) (hw1.mono hl) hb (hl _ _ h5) (Nat.lt_of_lt_of_le hm (Nat.pow_le_pow_right (by omega) (by omega)))) rfl)) fun v2 ro2 hl2 hL => ?_; refine Ad C rfl rfl rfl ?_; refine Xs C ?_; refine Xr C rfl rfl ?_
    obtain ⟨L, hL, ms, hms, hLe⟩ := hL
    obtain ⟨hperm, hlen, hsz⟩ := lists_facts hb hms hLe
    obtain ⟨zs, hzs, hzL, hzr⟩ := hL
    have hlz : zs.length = L.length := by rw [← hzL, List.length_map]
    obtain ⟨lb, lc, hvf⟩ := hzs.form
    rw [hlz] at hvf
    subst hvf
    have hL : LsLs ro2 (.slice lb L.length lc) L := ⟨zs, hzs, hzL, hzr⟩
    refine R.mov C rfl rfl rfl ?_; refine R.lenSlice C rfl rfl rfl runUnderlying149 ?_; refine R.int C rfl rfl rfl rfl b_eql ?_; refine R.done C ?_; refine X.cond C.1 rfl (fun hz => ?_) (fun hz => ?_)
    · have hz := hz
      simp at hz
      refine Xr C rfl rfl ?_; refine R.asg C rfl rfl rfl ?_; refine Ad C rfl rfl rfl ?_; refine X.ret C rfl rfl func63 rfl (by exact (.tmp rfl (.tmp rfl .nil))) ?_; refine hret _ _ _ (RO.le_trans hl1 hl2) (by repeat (first | exact Sr | apply Sc)) ?_
      have e : bestOf (listsOf b (clashP b)) = [] := by rw [← bestOf_perm hperm, hz]; rfl
      exact ⟨_, by rw [clash, if_neg (by simp [hh]), e]; exact .nil, by rw [clash, if_neg (by simp [hh])]; rfl⟩
    · have hz := hz
      simp at hz
      refine X.skip C.1 ?_; refine Xr C rfl rfl ?_; refine R.mov C rfl rfl rfl ?_; refine R.callR C rfl rfl rfl rfl ((best_c hJ hL hz hlen hsz)) fun v3 ro3 hl3 hb3 => ?_; refine R.asg C rfl rfl rfl ?_; refine Ad C rfl rfl rfl ?_; refine X.ret C rfl rfl func63 rfl (by exact (.tmp rfl (.tmp rfl .nil))) ?_; refine hret _ _ _ (RO.le_trans hl1 (RO.le_trans hl2 hl3)) (by repeat (first | exact Sr | apply Sc)) ?_
      rw [bestOf_perm hperm] at hb3
      exact ⟨_, by rw [clash, if_neg (by simp [hh])]; exact hb3, by rw [clash, if_neg (by simp [hh])]; rfl⟩
end Go.Lg.B
namespace Go.Lg.B
open Go Go.Conc Go.Lg Go.Proofs Go.Proofs.Tryz
open Go.Sort (ltInt swp insInner insOuter insertionSort)
def vals (d : Array Int) : List Value := d.toList.map (Value.int .i64)
theorem vals_at {d : Array Int} {sp : List Value} {z : Int} {k : Nat} (hz : z = (k : Int)) (hk : k < d.size) : (vals d ++ sp)[0 + z.toNat * 1]? = some (.int .i64 d[k]!) := by
  subst hz
  rw [Int.toNat_natCast, Nat.mul_one, Nat.zero_add, List.getElem?_append_left (by simpa [vals] using hk)]
  simp [vals, hk]
theorem put_at : ∀ (l : List Value) (k : Nat) (v : Value) (sp : List Value), k < l.length → Put k [v] (l ++ sp) (l.set k v ++ sp)
  | x :: l, 0, v, sp, _ => .here .nil
  | x :: l, k + 1, v, sp, h => .skip (put_at l k v sp (by simpa using h))
theorem vals_put {d : Array Int} {sp : List Value} {z : Int} {k : Nat} {x : Int} (hz : z = (k : Int)) (hk : k < d.size) : Put (0 + z.toNat * 1) [.int .i64 x] (vals d ++ sp) (vals (d.setIfInBounds k x) ++ sp) := by
  subst hz
  have := put_at (vals d) k (.int .i64 x) sp (by simpa [vals] using hk)
  rw [Int.toNat_natCast, Nat.mul_one, Nat.zero_add]
  have e : vals (d.setIfInBounds k x) = (vals d).set k (.int .i64 x) := by simp [vals]
  rw [e]; exact this
def CallS (J : Goroutine → Mem → Prop) (f : FuncId) (p : Nat) (sp : List Value) (d : Array Int) (cap : Nat) (args : List Value) (ro : RO) (v : Value) (d' : Array Int) : Prop :=
  CallV prog J (fnv f) (.slice (some ⟨p, 0, none⟩) d.size cap :: args) ro [(p, .cells (vals d ++ sp).toArray 3 (0, 0))] fun v' ro' pre' => v' = v ∧ ro' = ro ∧ pre' = [(p, .cells (vals d' ++ sp).toArray 3 (0, 0))]
def BackS (J : Goroutine → Mem → Prop) (c : Frame) (cs : List Frame) (ro : RO) (tail : List (Nat × Obj)) (p : Nat) (sp : List Value) (v : Value) (d' : Array Int) : Prop :=
  ∀ v' d2, v' = v → d2 = d' → J (G (c.finish v') cs) ⟨ro, (p, .cells (vals d2 ++ sp).toArray 3 (0, 0)) :: tail⟩
variable {main : Bool} {J : Goroutine → Mem → Prop} (hJ : Closed prog main J)
include hJ
theorem CallS.intro {f : FuncId} {p : Nat} {sp : List Value} {d d' : Array Int} {cap : Nat} {args : List Value} {ro : RO} {v : Value} (hc : callableB prog f = true)
    (h : ∀ c cs tail, BackS J c cs ro tail p sp v d' → J (G (Frame.enter prog f (.slice (some ⟨p, 0, none⟩) d.size cap :: args).toArray .normal) (c :: cs)) ⟨ro, (p, .cells (vals d ++ sp).toArray 3 (0, 0)) :: tail⟩) : CallS J f p sp d cap args ro v d' :=
  CallV.intro (first := []) (cap := []) hJ hc fun c cs tail hret => by
    have := h c cs tail fun v' d2 e1 e2 => hret v' ro [(p, .cells (vals d2 ++ sp).toArray 3 (0, 0))] _ (RO.le_refl _) ⟨e1, rfl, by rw [e2]⟩ (.refl _)
    simpa using this
theorem less_c (x y : Int) (ro : RO) : CallP prog J (fnv 190) [.int .i64 x, .int .i64 y] ro (.bool (ltInt x y)) := by
  refine CallP.intro hJ (by kernel_rfl) fun c cs tail hret => ?_; refine enter_X (n := 17) func190 rfl rfl (Nl rfl) ?_
  have C : Ctx prog main J (bf 190 .normal) := ⟨hJ, by decide⟩
  refine Xr C rfl rfl ?_; refine Ad C rfl rfl rfl ?_; refine Xr C rfl rfl ?_; refine R.mov C rfl rfl rfl ?_; refine R.callP C rfl rfl rfl rfl (isNaN_c hJ _ _) ?_; refine R.fixv (t := 6) (v' := .bool false) rfl (by rfl) ?_; refine R.mov C rfl rfl rfl ?_; refine R.pass C rfl rfl ?_; refine R.pass C rfl rfl ?_; refine R.pass C rfl rfl ?_; refine R.pickF C rfl rfl rfl rfl ?_; refine R.mov C rfl rfl rfl ?_; refine R.mov C rfl rfl rfl ?_; refine R.mov C rfl rfl rfl ?_; refine R.int C rfl rfl rfl rfl b_lss ?_; refine R.pickF C rfl rfl rfl rfl ?_; refine Ad C rfl rfl rfl ?_; refine X.ret C rfl rfl func190 rfl (by exact (.tmp rfl .nil)) ?_; refine hret _ _ ?_ (by repeat (first | exact Sr | apply Sc))
  first | rfl | (simp [retVal, ltInt]; done)
omit hJ in
theorem insInner_stop {a j : Nat} {d : Array Int} (h : j ≤ a ∨ ltInt d[j]! d[j - 1]! = false) : insInner ltInt a j d = d := by
  cases j with
  | zero => rfl
  | succ j =>
    simp only [insInner]
    rw [if_neg]
    rcases h with h | h
    · simp; omega
    · simp at h; simp [h]
omit hJ in
theorem insInner_go {a j : Nat} {d : Array Int} (h1 : a < j) (h2 : ltInt d[j]! d[j - 1]! = true) : insInner ltInt a j d = insInner ltInt a (j - 1) (swp d j (j - 1)) := by
  cases j with
  | zero => omega
  | succ j =>
    have h2 : ltInt d[j + 1]! d[j]! = true := by simpa using h2
    simp only [insInner]
    rw [if_pos (by simp [h2]; omega)]
    rfl
omit hJ in
theorem insOuter_go {a b i : Nat} {d : Array Int} (h : i < b) : insOuter ltInt a b i d = insOuter ltInt a b (i + 1) (insInner ltInt a i d) := by rw [insOuter, if_pos h]
omit hJ in
theorem insOuter_stop {a b i : Nat} {d : Array Int} (h : b ≤ i) : insOuter ltInt a b i d = d := by rw [insOuter, if_neg (by omega)]
theorem insertionSort_c {p : Nat} {sp : List Value} {d : Array Int} {cap a b : Nat} {ro : RO} (hn : d.size ≤ 1000000000) (hab : a ≤ b) (hb : b ≤ d.size) : CallS J 184 p sp d cap [.int .i64 (a : Int), .int .i64 (b : Int)] ro (.tuple #[]) (insertionSort ltInt d a b) := by
  refine CallS.intro hJ (by kernel_rfl) fun c cs tail hret => ?_
  let J := J
  refine enter_X (n := 49) func184 rfl rfl (Nl rfl) ?_
  have C : Ctx prog main J (bf 184 .normal) := ⟨hJ, by decide⟩
  refine Xr C rfl rfl ?_; refine R.mov C rfl rfl rfl ?_; refine R.int C rfl rfl rfl rfl (b_add (by omega) (by omega)) ?_; refine Ad C rfl rfl rfl ?_; refine X.block C.1 ?_; refine X.loopI (ι := Nat × Array Int) C.1 (fun s => s.2.size = d.size ∧ a + 1 ≤ s.1 ∧ insOuter ltInt a b s.1 s.2 = insertionSort ltInt d a b) (fun s => [(0, .slice (some ⟨p, 0, none⟩) d.size cap), (1, .int .i64 (a : Int)), (2, .int .i64 (b : Int)), (6, .int .i64 (s.1 : Int))])
    (fun s => ⟨ro, (p, .cells (vals s.2 ++ sp).toArray 3 (0, 0)) :: tail⟩) (fun s => b - s.1) (a + 1, d) ⟨rfl, Nat.le_refl _, rfl⟩ rfl ⟨rfl, rfl, rfl, by simp [look], trivial⟩ fun s hs hnext => ?_
  obtain ⟨i, d1⟩ := s
  obtain ⟨h1, h2, h3⟩ := hs
  simp only at h1 h2 h3 hnext ⊢
  refine Xs C ?_; refine Xr C rfl rfl ?_; refine R.mov C rfl rfl rfl ?_; refine R.mov C rfl rfl rfl ?_; refine R.int C rfl rfl rfl rfl b_lss ?_; refine R.done C ?_; refine X.cond C.1 rfl (fun hlt => ?_) (fun hlt => ?_)
  · have hlt := hlt
    simp only [decide_eq_true_eq] at hlt
    have hi' : i < b := by omega
    rw [insOuter_go hi'] at h3
    refine X.skip C.1 ?_; refine Xs C ?_; refine X.block C.1 ?_; refine Xr C rfl rfl ?_; refine R.mov C rfl rfl rfl ?_; refine Ad C rfl rfl rfl ?_; refine X.block C.1 ?_; refine X.loopI (ι := Nat × Array Int) C.1 (fun s => s.2.size = d.size ∧ s.1 ≤ i ∧ insInner ltInt a s.1 s.2 = insInner ltInt a i d1) (fun s => [(0, .slice (some ⟨p, 0, none⟩) d.size cap), (1, .int .i64 (a : Int)), (2, .int .i64 (b : Int)), (6, .int .i64 (i : Int)), (7, .int .i64 (s.1 : Int))])
      (fun s => ⟨ro, (p, .cells (vals s.2 ++ sp).toArray 3 (0, 0)) :: tail⟩) (fun s => s.1) (i, d1) ⟨h1, Nat.le_refl _, rfl⟩ rfl ⟨rfl, rfl, rfl, rfl, rfl, trivial⟩ fun s hs hnext2 => ?_
    obtain ⟨j, d2⟩ := s
    obtain ⟨k1, k2, k3⟩ := hs
    simp only at k1 k2 k3 hnext2 ⊢
    refine Xs C ?_; refine Xs C ?_; refine X.regionD C (by kernel_rfl) (by kernel_rfl) (by kernel_rfl) fun hok => ?_; refine Dm C 0 hok rfl (by kernel_rfl) rfl rfl rfl rfl ?_; refine Dm C 1 hok rfl (by kernel_rfl) rfl rfl rfl rfl ?_; refine Di C 2 hok rfl (by kernel_rfl) rfl rfl rfl rfl rfl rfl b_gtr ?_; refine Dm C 3 hok rfl (by kernel_rfl) rfl rfl rfl rfl ?_; refine D.fix (t := 19) rfl (fun hg => ?_) (fun hg => ?_)
    · have hg := hg
      simp only [decide_eq_true_eq] at hg
      refine Dm C 4 hok rfl (by kernel_rfl) rfl rfl rfl rfl ?_; refine Dm C 5 hok rfl (by kernel_rfl) rfl rfl rfl rfl ?_; refine Dp 6 hok rfl (by kernel_rfl) (fun _ _ _ A h => R.indexAddr C rfl (A.w rfl rfl) (A.x rfl rfl) (A.x rfl rfl) runUnderlying28 sizeOf3 (by omega) (by omega) h) ?_; refine Dl 7 hok rfl (by kernel_rfl) (fun _ _ A h => R.loadOne C rfl (A.w rfl rfl) (A.x rfl rfl) isAgg3 (by repeat (first | exact Mh | apply Mt)) (vals_at (k := j) (by omega) (by omega)) h) ?_; refine Dm C 8 hok rfl (by kernel_rfl) rfl rfl rfl rfl ?_; refine Dm C 9 hok rfl (by kernel_rfl) rfl rfl rfl rfl ?_; refine Di C 10 hok rfl (by kernel_rfl) rfl rfl rfl rfl rfl rfl (b_sub (by omega) (by omega)) ?_; refine Dp 11 hok rfl (by kernel_rfl) (fun _ _ _ A h => R.indexAddr C rfl (A.w rfl rfl) (A.x rfl rfl) (A.x rfl rfl) runUnderlying28 sizeOf3 (by omega) (by omega) h) ?_; refine Dl 12 hok rfl (by kernel_rfl) (fun _ _ A h => R.loadOne C rfl (A.w rfl rfl) (A.x rfl rfl) isAgg3 (by repeat (first | exact Mh | apply Mt)) (vals_at (k := j - 1) (by omega) (by omega)) h) ?_; refine D.eP (i := 13) (dst := (some 29)) [false, false] hok rfl (by kernel_rfl) (by kernel_rfl) (fun σr rest A hk => ?_)
      refine R.callP C rfl (A.w rfl rfl) (A.x rfl rfl) (A.s rfl rfl) (less_c hJ _ _ _) (hk _ _ ⟨QFs.nil, ?_⟩)
      refine Dp 14 hok rfl (by kernel_rfl) (fun _ _ _ A h => R.pickT C rfl (A.w rfl rfl) (A.x rfl rfl) (A.x rfl rfl) h) ?_; refine D.done C hok (by kernel_rfl) ?_; refine X.cond C.1 rfl (fun hl => ?_) (fun hl => ?_)
      · have hl := hl
        rw [insInner_go (by omega) hl] at k3
        refine X.skip C.1 ?_; refine Xs C ?_; refine X.block C.1 ?_; refine X.regionD C (by kernel_rfl) (by kernel_rfl) (by kernel_rfl) fun hok => ?_; refine Dm C 0 hok rfl (by kernel_rfl) rfl rfl rfl rfl ?_; refine Dm C 1 hok rfl (by kernel_rfl) rfl rfl rfl rfl ?_; refine Dm C 2 hok rfl (by kernel_rfl) rfl rfl rfl rfl ?_; refine Dm C 3 hok rfl (by kernel_rfl) rfl rfl rfl rfl ?_; refine Di C 4 hok rfl (by kernel_rfl) rfl rfl rfl rfl rfl rfl (b_sub (by omega) (by omega)) ?_; refine Dm C 5 hok rfl (by kernel_rfl) rfl rfl rfl rfl ?_; refine Dm C 6 hok rfl (by kernel_rfl) rfl rfl rfl rfl ?_; refine Di C 7 hok rfl (by kernel_rfl) rfl rfl rfl rfl rfl rfl (b_sub (by omega) (by omega)) ?_; refine Dp 8 hok rfl (by kernel_rfl) (fun _ _ _ A h => R.indexAddr C rfl (A.w rfl rfl) (A.x rfl rfl) (A.x rfl rfl) runUnderlying28 sizeOf3 (by omega) (by omega) h) ?_; refine Dl 9 hok rfl (by kernel_rfl) (fun _ _ A h => R.loadOne C rfl (A.w rfl rfl) (A.x rfl rfl) isAgg3 (by repeat (first | exact Mh | apply Mt)) (vals_at (k := j - 1) (by omega) (by omega)) h) ?_; refine Dm C 10 hok rfl (by kernel_rfl) rfl rfl rfl rfl ?_; refine Dm C 11 hok rfl (by kernel_rfl) rfl rfl rfl rfl ?_; refine Dp 12 hok rfl (by kernel_rfl) (fun _ _ _ A h => R.indexAddr C rfl (A.w rfl rfl) (A.x rfl rfl) (A.x rfl rfl) runUnderlying28 sizeOf3 (by omega) (by omega) h) ?_; refine Dl 13 hok rfl (by kernel_rfl) (fun _ _ A h => R.loadOne C rfl (A.w rfl rfl) (A.x rfl rfl) isAgg3 (by repeat (first | exact Mh | apply Mt)) (vals_at (k := j) (by omega) (by omega)) h) ?_; refine Dp 14 hok rfl (by kernel_rfl) (fun _ _ _ A h => R.indexAddr C rfl (A.w rfl rfl) (A.x rfl rfl) (A.x rfl rfl) runUnderlying28 sizeOf3 (by omega) (by omega) h) ?_; refine D.eP (i := 15) (dst := none) [false, false] hok rfl (by kernel_rfl) (by kernel_rfl) (fun σr rest A hk => ?_)
        refine R.store C rfl (A.w rfl rfl) (A.x rfl rfl) (A.x rfl rfl) sizeOf3 rfl rfl rfl (by repeat (first | exact Uh | apply Ut)) (vals_put (k := j) (by omega) (by omega)) (hk undef _ ⟨QFs.nil, ?_⟩)
        refine Dp 16 hok rfl (by kernel_rfl) (fun _ _ _ A h => R.indexAddr C rfl (A.w rfl rfl) (A.x rfl rfl) (A.x rfl rfl) runUnderlying28 sizeOf3 (by omega) (by omega) h) ?_; refine D.eP (i := 17) (dst := none) [] hok rfl (by kernel_rfl) (by kernel_rfl) (fun σr rest A hk => ?_)
        refine R.store C rfl (A.w rfl rfl) (A.x rfl rfl) (A.x rfl rfl) sizeOf3 rfl rfl rfl (by repeat (first | exact Uh | apply Ut)) (vals_put (k := j - 1) (by omega) (by simp; omega)) (hk undef _ ⟨QFs.nil, ?_⟩)
        refine D.done C hok (by kernel_rfl) ?_; refine X.inBlock C.1 ?_; refine X.region C rfl rfl ?_; refine R.mov C rfl rfl rfl ?_; refine R.int C rfl rfl rfl rfl (b_sub (by omega) (by omega)) ?_; refine Ad C rfl rfl rfl ?_; refine X.weaken ?_ (hnext2 (j - 1, swp d2 j (j - 1)) ⟨by simpa [swp] using k1, by simp; omega, k3⟩ (by simp; omega))
        exact ⟨rfl, rfl, rfl, rfl, congrArg (fun z => some (Value.int .i64 z)) (by omega), trivial⟩
      · have hl := hl
        rw [insInner_stop (.inr hl)] at k3
        refine X.exit C.1 rfl ?_; refine X.inBlock C.1 ?_; refine X.region C rfl rfl ?_; refine R.mov C rfl rfl rfl ?_; refine R.int C rfl rfl rfl rfl (b_add (by omega) (by omega)) ?_; refine Ad C rfl rfl rfl ?_
        rw [← k3] at h3
        refine X.weaken ?_ (hnext (i + 1, d2) ⟨k1, by simp; omega, h3⟩ (by simp; omega))
        exact ⟨rfl, rfl, rfl, by simp [look], trivial⟩
    · have hg := hg
      simp only [decide_eq_false_iff_not] at hg
      rw [insInner_stop (.inl (by omega))] at k3
      refine Dp 4 (v := undef) hok rfl (by kernel_rfl) (fun _ _ _ A h => R.pass C rfl (A.w rfl rfl) h) ?_; refine Dp 5 (v := undef) hok rfl (by kernel_rfl) (fun _ _ _ A h => R.pass C rfl (A.w rfl rfl) h) ?_; refine Dp 6 (v := undef) hok rfl (by kernel_rfl) (fun _ _ _ A h => R.pass C rfl (A.w rfl rfl) h) ?_; refine Dp 7 (v := undef) hok rfl (by kernel_rfl) (fun _ _ _ A h => R.pass C rfl (A.w rfl rfl) h) ?_; refine Dp 8 (v := undef) hok rfl (by kernel_rfl) (fun _ _ _ A h => R.pass C rfl (A.w rfl rfl) h) ?_; refine Dp 9 (v := undef) hok rfl (by kernel_rfl) (fun _ _ _ A h => R.pass C rfl (A.w rfl rfl) h) ?_; refine Dp 10 (v := undef) hok rfl (by kernel_rfl) (fun _ _ _ A h => R.pass C rfl (A.w rfl rfl) h) ?_; refine Dp 11 (v := undef) hok rfl (by kernel_rfl) (fun _ _ _ A h => R.pass C rfl (A.w rfl rfl) h) ?_; refine Dp 12 (v := undef) hok rfl (by kernel_rfl) (fun _ _ _ A h => R.pass C rfl (A.w rfl rfl) h) ?_; refine Dp 13 (v := undef) hok rfl (by kernel_rfl) (fun _ _ _ A h => R.pass C rfl (A.w rfl rfl) h) ?_; refine Dp 14 hok rfl (by kernel_rfl) (fun _ _ _ A h => R.pickF C rfl (A.w rfl rfl) (A.x rfl rfl) (A.x rfl rfl) h) ?_; refine D.done C hok (by kernel_rfl) ?_; refine X.cond C.1 rfl (fun h => nomatch h) (fun _ => ?_)
      refine X.exit C.1 rfl ?_; refine X.inBlock C.1 ?_; refine X.region C rfl rfl ?_; refine R.mov C rfl rfl rfl ?_; refine R.int C rfl rfl rfl rfl (b_add (by omega) (by omega)) ?_; refine Ad C rfl rfl rfl ?_
      rw [← k3] at h3
      refine X.weaken ?_ (hnext (i + 1, d2) ⟨k1, by simp; omega, h3⟩ (by simp; omega))
      exact ⟨rfl, rfl, rfl, by simp [look], trivial⟩
  · have hlt := hlt
    simp only [decide_eq_false_iff_not] at hlt
    rw [insOuter_stop (by omega)] at h3
    refine X.exit C.1 rfl ?_; refine X.fall C rfl rfl func184 rfl (by exact .nil) ?_
    exact hret _ _ rfl h3
end Go.Lg.B
namespace Go.Lg.B
open Go Go.Conc Go.Lg Go.Proofs Go.Proofs.Tryz
open Go.Sort (ltInt swp siftDown heapBuild heapPop heapSort)
theorem sift_end {hi F root : Nat} {d : Array Int} (h : hi ≤ 2 * root + 1) : siftDown ltInt hi F root d = d := by rw [siftDown, dif_pos h]
theorem sift_two {hi F root : Nat} {d : Array Int} (h : 2 * root + 2 < hi) (hl : ltInt d[F + (2 * root + 1)]! d[F + (2 * root + 1) + 1]! = true) :
    siftDown ltInt hi F root d = if !ltInt d[F + root]! d[F + (2 * root + 2)]! then d else siftDown ltInt hi F (2 * root + 2) (swp d (F + root) (F + (2 * root + 2))) := by
  rw [siftDown, dif_neg (by omega), if_pos (by simp [hl]; omega)]
  split <;> rfl
theorem sift_one {hi F root : Nat} {d : Array Int} (h : 2 * root + 1 < hi) (hl : hi ≤ 2 * root + 2 ∨ ltInt d[F + (2 * root + 1)]! d[F + (2 * root + 1) + 1]! = false) :
    siftDown ltInt hi F root d = if !ltInt d[F + root]! d[F + (2 * root + 1)]! then d else siftDown ltInt hi F (2 * root + 1) (swp d (F + root) (F + (2 * root + 1))) := by
  rw [siftDown, dif_neg (by omega), if_neg]
  rcases hl with hl | hl
  · simp; omega
  · simp [hl]
theorem siftDown_size (hi F : Nat) : ∀ (n root : Nat) (d : Array Int), hi - root ≤ n → (siftDown ltInt hi F root d).size = d.size
  | 0, root, d, h => by rw [sift_end (by omega)]
  | n + 1, root, d, h => by
    rw [siftDown]
    split
    · rfl
    · split
      · split
        · rfl
        · split
          · rw [siftDown_size hi F n _ _ (by omega)]; simp [swp]
          · rfl
      · split
        · rfl
        · rw [siftDown_size hi F n _ _ (by omega)]; simp [swp]
variable {main : Bool} {J : Goroutine → Mem → Prop} (hJ : Closed prog main J)
include hJ
theorem siftDown_c {p : Nat} {sp : List Value} {d : Array Int} {cap lo hi F : Nat} {ro : RO} (hn : d.size ≤ 1000000000) (hb : F + hi ≤ d.size) (hlo : lo ≤ d.size) : CallS J 231 p sp d cap [.int .i64 (lo : Int), .int .i64 (hi : Int), .int .i64 (F : Int)] ro (.tuple #[]) (siftDown ltInt hi F lo d) := by
  refine CallS.intro hJ (by kernel_rfl) fun c cs tail hret => ?_
  let J := J
  refine enter_X (n := 76) func231 rfl rfl (Nl rfl) ?_
  have C : Ctx prog main J (bf 231 .normal) := ⟨hJ, by decide⟩
  refine Xr C rfl rfl ?_; refine R.mov C rfl rfl rfl ?_; refine Ad C rfl rfl rfl ?_; refine X.block C.1 ?_; refine X.loopI (ι := Nat × Array Int) C.1 (fun s => s.2.size = d.size ∧ s.1 ≤ d.size ∧ siftDown ltInt hi F s.1 s.2 = siftDown ltInt hi F lo d) (fun s => [(0, .slice (some ⟨p, 0, none⟩) d.size cap), (2, .int .i64 (hi : Int)), (3, .int .i64 (F : Int)), (8, .int .i64 (s.1 : Int))])
    (fun s => ⟨ro, (p, .cells (vals s.2 ++ sp).toArray 3 (0, 0)) :: tail⟩) (fun s => hi - s.1) (lo, d) ⟨rfl, hlo, rfl⟩ rfl ⟨rfl, rfl, rfl, rfl, trivial⟩ fun s hs hnext => ?_
  obtain ⟨root, d1⟩ := s
  obtain ⟨h1, h2, hs⟩ := hs
  simp only at h1 h2 hs hnext ⊢
  refine X.block C.1 ?_; refine Xr C rfl rfl ?_; refine R.mov C rfl rfl rfl ?_; refine R.int C rfl rfl rfl rfl (b_mul (by omega) (by omega)) ?_; refine R.int C rfl rfl rfl rfl (b_add (by omega) (by omega)) ?_; refine Ad C rfl rfl rfl ?_; refine Xs C ?_; refine Xr C rfl rfl ?_; refine R.mov C rfl rfl rfl ?_; refine R.mov C rfl rfl rfl ?_; refine R.int C rfl rfl rfl rfl b_geq ?_; refine R.done C ?_; refine X.cond C.1 rfl (fun hge => ?_) (fun hge => ?_)
  · have hge := hge
    simp only [ge_iff_le, decide_eq_true_eq] at hge
    rw [sift_end (by omega)] at hs
    refine X.exit C.1 rfl ?_; refine X.fall C rfl rfl func231 rfl (by exact .nil) ?_
    exact hret _ _ rfl hs
  · have hge := hge
    simp only [ge_iff_le, decide_eq_false_iff_not] at hge
    refine X.skip C.1 ?_; refine Xs C ?_; refine Xs C ?_; refine X.regionD C (by kernel_rfl) (by kernel_rfl) (by kernel_rfl) fun hok => ?_; refine Dm C 0 hok rfl (by kernel_rfl) rfl rfl rfl rfl ?_; refine Di C 1 hok rfl (by kernel_rfl) rfl rfl rfl rfl rfl rfl (b_add (by omega) (by omega)) ?_; refine Dm C 2 hok rfl (by kernel_rfl) rfl rfl rfl rfl ?_; refine Di C 3 hok rfl (by kernel_rfl) rfl rfl rfl rfl rfl rfl b_lss ?_; refine Dm C 4 hok rfl (by kernel_rfl) rfl rfl rfl rfl ?_; refine D.fix (t := 21) rfl (fun hg => ?_) (fun hg => ?_)
    · have hg := hg
      simp only [decide_eq_true_eq] at hg
      refine Dm C 5 hok rfl (by kernel_rfl) rfl rfl rfl rfl ?_; refine Dm C 6 hok rfl (by kernel_rfl) rfl rfl rfl rfl ?_; refine Dm C 7 hok rfl (by kernel_rfl) rfl rfl rfl rfl ?_; refine Di C 8 hok rfl (by kernel_rfl) rfl rfl rfl rfl rfl rfl (b_add (by omega) (by omega)) ?_; refine Dp 9 hok rfl (by kernel_rfl) (fun _ _ _ A h => R.indexAddr C rfl (A.w rfl rfl) (A.x rfl rfl) (A.x rfl rfl) runUnderlying28 sizeOf3 (by omega) (by omega) h) ?_; refine Dl 10 hok rfl (by kernel_rfl) (fun _ _ A h => R.loadOne C rfl (A.w rfl rfl) (A.x rfl rfl) isAgg3 (by repeat (first | exact Mh | apply Mt)) (vals_at (k := F + (2 * root + 1)) (by omega) (by omega)) h) ?_; refine Dm C 11 hok rfl (by kernel_rfl) rfl rfl rfl rfl ?_; refine Dm C 12 hok rfl (by kernel_rfl) rfl rfl rfl rfl ?_; refine Dm C 13 hok rfl (by kernel_rfl) rfl rfl rfl rfl ?_; refine Di C 14 hok rfl (by kernel_rfl) rfl rfl rfl rfl rfl rfl (b_add (by omega) (by omega)) ?_; refine Di C 15 hok rfl (by kernel_rfl) rfl rfl rfl rfl rfl rfl (b_add (by omega) (by omega)) ?_; refine Dp 16 hok rfl (by kernel_rfl) (fun _ _ _ A h => R.indexAddr C rfl (A.w rfl rfl) (A.x rfl rfl) (A.x rfl rfl) runUnderlying28 sizeOf3 (by omega) (by omega) h) ?_; refine Dl 17 hok rfl (by kernel_rfl) (fun _ _ A h => R.loadOne C rfl (A.w rfl rfl) (A.x rfl rfl) isAgg3 (by repeat (first | exact Mh | apply Mt)) (vals_at (k := F + (2 * root + 1) + 1) (by omega) (by omega)) h) ?_; refine D.eP (i := 18) (dst := (some 35)) [false, false] hok rfl (by kernel_rfl) (by kernel_rfl) (fun σr rest A hk => ?_)
      refine R.callP C rfl (A.w rfl rfl) (A.x rfl rfl) (A.s rfl rfl) (less_c hJ _ _ _) (hk _ _ ⟨QFs.nil, ?_⟩)
      refine Dp 19 hok rfl (by kernel_rfl) (fun _ _ _ A h => R.pickT C rfl (A.w rfl rfl) (A.x rfl rfl) (A.x rfl rfl) h) ?_; refine D.done C hok (by kernel_rfl) ?_; refine X.cond C.1 rfl (fun hch => ?_) (fun hch => ?_)
      · have hch := hch
        rw [sift_two (by omega) hch] at hs
        refine X.region C rfl rfl ?_; refine R.mov C rfl rfl rfl ?_; refine R.int C rfl rfl rfl rfl (b_add (by omega) (by omega)) ?_; refine Ad C rfl rfl rfl ?_; refine Xs C ?_; refine Xs C ?_; refine X.regionD C (by kernel_rfl) (by kernel_rfl) (by kernel_rfl) fun hok => ?_; refine Dm C 0 hok rfl (by kernel_rfl) rfl rfl rfl rfl ?_; refine Dm C 1 hok rfl (by kernel_rfl) rfl rfl rfl rfl ?_; refine Dm C 2 hok rfl (by kernel_rfl) rfl rfl rfl rfl ?_; refine Di C 3 hok rfl (by kernel_rfl) rfl rfl rfl rfl rfl rfl (b_add (by omega) (by omega)) ?_; refine Dp 4 hok rfl (by kernel_rfl) (fun _ _ _ A h => R.indexAddr C rfl (A.w rfl rfl) (A.x rfl rfl) (A.x rfl rfl) runUnderlying28 sizeOf3 (by omega) (by omega) h) ?_; refine Dl 5 hok rfl (by kernel_rfl) (fun _ _ A h => R.loadOne C rfl (A.w rfl rfl) (A.x rfl rfl) isAgg3 (by repeat (first | exact Mh | apply Mt)) (vals_at (k := F + root) (by omega) (by omega)) h) ?_; refine Dm C 6 hok rfl (by kernel_rfl) rfl rfl rfl rfl ?_; refine Dm C 7 hok rfl (by kernel_rfl) rfl rfl rfl rfl ?_; refine Dm C 8 hok rfl (by kernel_rfl) rfl rfl rfl rfl ?_; refine Di C 9 hok rfl (by kernel_rfl) rfl rfl rfl rfl rfl rfl (b_add (by omega) (by omega)) ?_; refine Dp 10 hok rfl (by kernel_rfl) (fun _ _ _ A h => R.indexAddr C rfl (A.w rfl rfl) (A.x rfl rfl) (A.x rfl rfl) runUnderlying28 sizeOf3 (by omega) (by omega) h) ?_; refine Dl 11 hok rfl (by kernel_rfl) (fun _ _ A h => R.loadOne C rfl (A.w rfl rfl) (A.x rfl rfl) isAgg3 (by repeat (first | exact Mh | apply Mt)) (vals_at (k := F + (2 * root + 2)) (by omega) (by omega)) h) ?_; refine D.eP (i := 12) (dst := (some 51)) [false, false] hok rfl (by kernel_rfl) (by kernel_rfl) (fun σr rest A hk => ?_)
        refine R.callP C rfl (A.w rfl rfl) (A.x rfl rfl) (A.s rfl rfl) (less_c hJ _ _ _) (hk _ _ ⟨QFs.nil, ?_⟩)
        refine Dp 13 hok rfl (by kernel_rfl) (fun _ _ _ A h => R.not C rfl (A.w rfl rfl) (A.x rfl rfl) h) ?_; refine D.done C hok (by kernel_rfl) ?_; refine X.cond C.1 rfl (fun hl => ?_) (fun hl => ?_)
        · have hl := hl
          simp only [Bool.not_eq_true'] at hl
          rw [if_pos (by simpa using hl)] at hs
          refine X.ret C rfl rfl func231 rfl (by exact .nil) ?_
          exact hret _ _ rfl hs
        · have hl := hl
          simp only [Bool.not_eq_false'] at hl
          rw [if_neg (by simp [hl])] at hs
          refine X.skip C.1 ?_; refine Xs C ?_; refine X.regionD C (by kernel_rfl) (by kernel_rfl) (by kernel_rfl) fun hok => ?_; refine Dm C 0 hok rfl (by kernel_rfl) rfl rfl rfl rfl ?_; refine Dm C 1 hok rfl (by kernel_rfl) rfl rfl rfl rfl ?_; refine Dm C 2 hok rfl (by kernel_rfl) rfl rfl rfl rfl ?_; refine Di C 3 hok rfl (by kernel_rfl) rfl rfl rfl rfl rfl rfl (b_add (by omega) (by omega)) ?_; refine Dm C 4 hok rfl (by kernel_rfl) rfl rfl rfl rfl ?_; refine Dm C 5 hok rfl (by kernel_rfl) rfl rfl rfl rfl ?_; refine Dm C 6 hok rfl (by kernel_rfl) rfl rfl rfl rfl ?_; refine Di C 7 hok rfl (by kernel_rfl) rfl rfl rfl rfl rfl rfl (b_add (by omega) (by omega)) ?_; refine Dm C 8 hok rfl (by kernel_rfl) rfl rfl rfl rfl ?_; refine Dm C 9 hok rfl (by kernel_rfl) rfl rfl rfl rfl ?_; refine Dm C 10 hok rfl (by kernel_rfl) rfl rfl rfl rfl ?_; refine Di C 11 hok rfl (by kernel_rfl) rfl rfl rfl rfl rfl rfl (b_add (by omega) (by omega)) ?_; refine Dp 12 hok rfl (by kernel_rfl) (fun _ _ _ A h => R.indexAddr C rfl (A.w rfl rfl) (A.x rfl rfl) (A.x rfl rfl) runUnderlying28 sizeOf3 (by omega) (by omega) h) ?_; refine Dl 13 hok rfl (by kernel_rfl) (fun _ _ A h => R.loadOne C rfl (A.w rfl rfl) (A.x rfl rfl) isAgg3 (by repeat (first | exact Mh | apply Mt)) (vals_at (k := F + (2 * root + 2)) (by omega) (by omega)) h) ?_; refine Dm C 14 hok rfl (by kernel_rfl) rfl rfl rfl rfl ?_; refine Dm C 15 hok rfl (by kernel_rfl) rfl rfl rfl rfl ?_; refine Dm C 16 hok rfl (by kernel_rfl) rfl rfl rfl rfl ?_; refine Di C 17 hok rfl (by kernel_rfl) rfl rfl rfl rfl rfl rfl (b_add (by omega) (by omega)) ?_; refine Dp 18 hok rfl (by kernel_rfl) (fun _ _ _ A h => R.indexAddr C rfl (A.w rfl rfl) (A.x rfl rfl) (A.x rfl rfl) runUnderlying28 sizeOf3 (by omega) (by omega) h) ?_; refine Dl 19 hok rfl (by kernel_rfl) (fun _ _ A h => R.loadOne C rfl (A.w rfl rfl) (A.x rfl rfl) isAgg3 (by repeat (first | exact Mh | apply Mt)) (vals_at (k := F + root) (by omega) (by omega)) h) ?_; refine Dp 20 hok rfl (by kernel_rfl) (fun _ _ _ A h => R.indexAddr C rfl (A.w rfl rfl) (A.x rfl rfl) (A.x rfl rfl) runUnderlying28 sizeOf3 (by omega) (by omega) h) ?_; refine D.eP (i := 21) (dst := none) [false, false] hok rfl (by kernel_rfl) (by kernel_rfl) (fun σr rest A hk => ?_)
          refine R.store C rfl (A.w rfl rfl) (A.x rfl rfl) (A.x rfl rfl) sizeOf3 rfl rfl rfl (by repeat (first | exact Uh | apply Ut)) (vals_put (k := F + root) (by omega) (by omega)) (hk undef _ ⟨QFs.nil, ?_⟩)
          refine Dp 22 hok rfl (by kernel_rfl) (fun _ _ _ A h => R.indexAddr C rfl (A.w rfl rfl) (A.x rfl rfl) (A.x rfl rfl) runUnderlying28 sizeOf3 (by omega) (by omega) h) ?_; refine D.eP (i := 23) (dst := none) [] hok rfl (by kernel_rfl) (by kernel_rfl) (fun σr rest A hk => ?_)
          refine R.store C rfl (A.w rfl rfl) (A.x rfl rfl) (A.x rfl rfl) sizeOf3 rfl rfl rfl (by repeat (first | exact Uh | apply Ut)) (vals_put (k := F + (2 * root + 2)) (by omega) (by simp; omega)) (hk undef _ ⟨QFs.nil, ?_⟩)
          refine D.done C hok (by kernel_rfl) ?_; refine X.region C rfl rfl ?_; refine R.mov C rfl rfl rfl ?_; refine Ad C rfl rfl rfl ?_; refine X.inBlock C.1 ?_; refine X.weaken ?_ (hnext ((2 * root + 2), swp d1 (F + root) (F + (2 * root + 2))) ⟨by simpa [swp] using h1, by simp; omega, hs⟩ (by simp; omega))
          exact ⟨rfl, rfl, rfl, congrArg (fun z => some (Value.int .i64 z)) (by omega), trivial⟩
      · have hch := hch
        rw [sift_one (by omega) (.inr hch)] at hs
        refine X.skip C.1 ?_; refine Xs C ?_; refine Xs C ?_; refine X.regionD C (by kernel_rfl) (by kernel_rfl) (by kernel_rfl) fun hok => ?_; refine Dm C 0 hok rfl (by kernel_rfl) rfl rfl rfl rfl ?_; refine Dm C 1 hok rfl (by kernel_rfl) rfl rfl rfl rfl ?_; refine Dm C 2 hok rfl (by kernel_rfl) rfl rfl rfl rfl ?_; refine Di C 3 hok rfl (by kernel_rfl) rfl rfl rfl rfl rfl rfl (b_add (by omega) (by omega)) ?_; refine Dp 4 hok rfl (by kernel_rfl) (fun _ _ _ A h => R.indexAddr C rfl (A.w rfl rfl) (A.x rfl rfl) (A.x rfl rfl) runUnderlying28 sizeOf3 (by omega) (by omega) h) ?_; refine Dl 5 hok rfl (by kernel_rfl) (fun _ _ A h => R.loadOne C rfl (A.w rfl rfl) (A.x rfl rfl) isAgg3 (by repeat (first | exact Mh | apply Mt)) (vals_at (k := F + root) (by omega) (by omega)) h) ?_; refine Dm C 6 hok rfl (by kernel_rfl) rfl rfl rfl rfl ?_; refine Dm C 7 hok rfl (by kernel_rfl) rfl rfl rfl rfl ?_; refine Dm C 8 hok rfl (by kernel_rfl) rfl rfl rfl rfl ?_; refine Di C 9 hok rfl (by kernel_rfl) rfl rfl rfl rfl rfl rfl (b_add (by omega) (by omega)) ?_; refine Dp 10 hok rfl (by kernel_rfl) (fun _ _ _ A h => R.indexAddr C rfl (A.w rfl rfl) (A.x rfl rfl) (A.x rfl rfl) runUnderlying28 sizeOf3 (by omega) (by omega) h) ?_; refine Dl 11 hok rfl (by kernel_rfl) (fun _ _ A h => R.loadOne C rfl (A.w rfl rfl) (A.x rfl rfl) isAgg3 (by repeat (first | exact Mh | apply Mt)) (vals_at (k := F + (2 * root + 1)) (by omega) (by omega)) h) ?_; refine D.eP (i := 12) (dst := (some 51)) [false, false] hok rfl (by kernel_rfl) (by kernel_rfl) (fun σr rest A hk => ?_)
        refine R.callP C rfl (A.w rfl rfl) (A.x rfl rfl) (A.s rfl rfl) (less_c hJ _ _ _) (hk _ _ ⟨QFs.nil, ?_⟩)
        refine Dp 13 hok rfl (by kernel_rfl) (fun _ _ _ A h => R.not C rfl (A.w rfl rfl) (A.x rfl rfl) h) ?_; refine D.done C hok (by kernel_rfl) ?_; refine X.cond C.1 rfl (fun hl => ?_) (fun hl => ?_)
        · have hl := hl
          simp only [Bool.not_eq_true'] at hl
          rw [if_pos (by simpa using hl)] at hs
          refine X.ret C rfl rfl func231 rfl (by exact .nil) ?_
          exact hret _ _ rfl hs
        · have hl := hl
          simp only [Bool.not_eq_false'] at hl
          rw [if_neg (by simp [hl])] at hs
          refine X.skip C.1 ?_; refine Xs C ?_; refine X.regionD C (by kernel_rfl) (by kernel_rfl) (by kernel_rfl) fun hok => ?_; refine Dm C 0 hok rfl (by kernel_rfl) rfl rfl rfl rfl ?_; refine Dm C 1 hok rfl (by kernel_rfl) rfl rfl rfl rfl ?_; refine Dm C 2 hok rfl (by kernel_rfl) rfl rfl rfl rfl ?_; refine Di C 3 hok rfl (by kernel_rfl) rfl rfl rfl rfl rfl rfl (b_add (by omega) (by omega)) ?_; refine Dm C 4 hok rfl (by kernel_rfl) rfl rfl rfl rfl ?_; refine Dm C 5 hok rfl (by kernel_rfl) rfl rfl rfl rfl ?_; refine Dm C 6 hok rfl (by kernel_rfl) rfl rfl rfl rfl ?_; refine Di C 7 hok rfl (by kernel_rfl) rfl rfl rfl rfl rfl rfl (b_add (by omega) (by omega)) ?_; refine Dm C 8 hok rfl (by kernel_rfl) rfl rfl rfl rfl ?_; refine Dm C 9 hok rfl (by kernel_rfl) rfl rfl rfl rfl ?_; refine Dm C 10 hok rfl (by kernel_rfl) rfl rfl rfl rfl ?_; refine Di C 11 hok rfl (by kernel_rfl) rfl rfl rfl rfl rfl rfl (b_add (by omega) (by omega)) ?_; refine Dp 12 hok rfl (by kernel_rfl) (fun _ _ _ A h => R.indexAddr C rfl (A.w rfl rfl) (A.x rfl rfl) (A.x rfl rfl) runUnderlying28 sizeOf3 (by omega) (by omega) h) ?_; refine Dl 13 hok rfl (by kernel_rfl) (fun _ _ A h => R.loadOne C rfl (A.w rfl rfl) (A.x rfl rfl) isAgg3 (by repeat (first | exact Mh | apply Mt)) (vals_at (k := F + (2 * root + 1)) (by omega) (by omega)) h) ?_; refine Dm C 14 hok rfl (by kernel_rfl) rfl rfl rfl rfl ?_; refine Dm C 15 hok rfl (by kernel_rfl) rfl rfl rfl rfl ?_; refine Dm C 16 hok rfl (by kernel_rfl) rfl rfl rfl rfl ?_; refine Di C 17 hok rfl (by kernel_rfl) rfl rfl rfl rfl rfl rfl (b_add (by omega) (by omega)) ?_; refine Dp 18 hok rfl (by kernel_rfl) (fun _ _ _ A h => R.indexAddr C rfl (A.w rfl rfl) (A.x rfl rfl) (A.x rfl rfl) runUnderlying28 sizeOf3 (by omega) (by omega) h) ?_; refine Dl 19 hok rfl (by kernel_rfl) (fun _ _ A h => R.loadOne C rfl (A.w rfl rfl) (A.x rfl rfl) isAgg3 (by repeat (first | exact Mh | apply Mt)) (vals_at (k := F + root) (by omega) (by omega)) h) ?_; refine Dp 20 hok rfl (by kernel_rfl) (fun _ _ _ A h => R.indexAddr C rfl (A.w rfl rfl) (A.x rfl rfl) (A.x rfl rfl) runUnderlying28 sizeOf3 (by omega) (by omega) h) ?_; refine D.eP (i := 21) (dst := none) [false, false] hok rfl (by kernel_rfl) (by kernel_rfl) (fun σr rest A hk => ?_)
          refine R.store C rfl (A.w rfl rfl) (A.x rfl rfl) (A.x rfl rfl) sizeOf3 rfl rfl rfl (by repeat (first | exact Uh | apply Ut)) (vals_put (k := F + root) (by omega) (by omega)) (hk undef _ ⟨QFs.nil, ?_⟩)
          refine Dp 22 hok rfl (by kernel_rfl) (fun _ _ _ A h => R.indexAddr C rfl (A.w rfl rfl) (A.x rfl rfl) (A.x rfl rfl) runUnderlying28 sizeOf3 (by omega) (by omega) h) ?_; refine D.eP (i := 23) (dst := none) [] hok rfl (by kernel_rfl) (by kernel_rfl) (fun σr rest A hk => ?_)
          refine R.store C rfl (A.w rfl rfl) (A.x rfl rfl) (A.x rfl rfl) sizeOf3 rfl rfl rfl (by repeat (first | exact Uh | apply Ut)) (vals_put (k := F + (2 * root + 1)) (by omega) (by simp; omega)) (hk undef _ ⟨QFs.nil, ?_⟩)
          refine D.done C hok (by kernel_rfl) ?_; refine X.region C rfl rfl ?_; refine R.mov C rfl rfl rfl ?_; refine Ad C rfl rfl rfl ?_; refine X.inBlock C.1 ?_; refine X.weaken ?_ (hnext ((2 * root + 1), swp d1 (F + root) (F + (2 * root + 1))) ⟨by simpa [swp] using h1, by simp; omega, hs⟩ (by simp; omega))
          exact ⟨rfl, rfl, rfl, congrArg (fun z => some (Value.int .i64 z)) (by omega), trivial⟩
    · have hg := hg
      simp only [decide_eq_false_iff_not] at hg
      refine Dp 5 (v := undef) hok rfl (by kernel_rfl) (fun _ _ _ A h => R.pass C rfl (A.w rfl rfl) h) ?_; refine Dp 6 (v := undef) hok rfl (by kernel_rfl) (fun _ _ _ A h => R.pass C rfl (A.w rfl rfl) h) ?_; refine Dp 7 (v := undef) hok rfl (by kernel_rfl) (fun _ _ _ A h => R.pass C rfl (A.w rfl rfl) h) ?_; refine Dp 8 (v := undef) hok rfl (by kernel_rfl) (fun _ _ _ A h => R.pass C rfl (A.w rfl rfl) h) ?_; refine Dp 9 (v := undef) hok rfl (by kernel_rfl) (fun _ _ _ A h => R.pass C rfl (A.w rfl rfl) h) ?_; refine Dp 10 (v := undef) hok rfl (by kernel_rfl) (fun _ _ _ A h => R.pass C rfl (A.w rfl rfl) h) ?_; refine Dp 11 (v := undef) hok rfl (by kernel_rfl) (fun _ _ _ A h => R.pass C rfl (A.w rfl rfl) h) ?_; refine Dp 12 (v := undef) hok rfl (by kernel_rfl) (fun _ _ _ A h => R.pass C rfl (A.w rfl rfl) h) ?_; refine Dp 13 (v := undef) hok rfl (by kernel_rfl) (fun _ _ _ A h => R.pass C rfl (A.w rfl rfl) h) ?_; refine Dp 14 (v := undef) hok rfl (by kernel_rfl) (fun _ _ _ A h => R.pass C rfl (A.w rfl rfl) h) ?_; refine Dp 15 (v := undef) hok rfl (by kernel_rfl) (fun _ _ _ A h => R.pass C rfl (A.w rfl rfl) h) ?_; refine Dp 16 (v := undef) hok rfl (by kernel_rfl) (fun _ _ _ A h => R.pass C rfl (A.w rfl rfl) h) ?_; refine Dp 17 (v := undef) hok rfl (by kernel_rfl) (fun _ _ _ A h => R.pass C rfl (A.w rfl rfl) h) ?_; refine Dp 18 (v := undef) hok rfl (by kernel_rfl) (fun _ _ _ A h => R.pass C rfl (A.w rfl rfl) h) ?_; refine Dp 19 hok rfl (by kernel_rfl) (fun _ _ _ A h => R.pickF C rfl (A.w rfl rfl) (A.x rfl rfl) (A.x rfl rfl) h) ?_; refine D.done C hok (by kernel_rfl) ?_; refine X.cond C.1 rfl (fun h => nomatch h) (fun _ => ?_)
      refine X.skip C.1 ?_; refine Xs C ?_; refine Xs C ?_; refine X.regionD C (by kernel_rfl) (by kernel_rfl) (by kernel_rfl) fun hok => ?_; refine Dm C 0 hok rfl (by kernel_rfl) rfl rfl rfl rfl ?_; refine Dm C 1 hok rfl (by kernel_rfl) rfl rfl rfl rfl ?_; refine Dm C 2 hok rfl (by kernel_rfl) rfl rfl rfl rfl ?_; refine Di C 3 hok rfl (by kernel_rfl) rfl rfl rfl rfl rfl rfl (b_add (by omega) (by omega)) ?_; refine Dp 4 hok rfl (by kernel_rfl) (fun _ _ _ A h => R.indexAddr C rfl (A.w rfl rfl) (A.x rfl rfl) (A.x rfl rfl) runUnderlying28 sizeOf3 (by omega) (by omega) h) ?_; refine Dl 5 hok rfl (by kernel_rfl) (fun _ _ A h => R.loadOne C rfl (A.w rfl rfl) (A.x rfl rfl) isAgg3 (by repeat (first | exact Mh | apply Mt)) (vals_at (k := F + root) (by omega) (by omega)) h) ?_; refine Dm C 6 hok rfl (by kernel_rfl) rfl rfl rfl rfl ?_; refine Dm C 7 hok rfl (by kernel_rfl) rfl rfl rfl rfl ?_; refine Dm C 8 hok rfl (by kernel_rfl) rfl rfl rfl rfl ?_; refine Di C 9 hok rfl (by kernel_rfl) rfl rfl rfl rfl rfl rfl (b_add (by omega) (by omega)) ?_; refine Dp 10 hok rfl (by kernel_rfl) (fun _ _ _ A h => R.indexAddr C rfl (A.w rfl rfl) (A.x rfl rfl) (A.x rfl rfl) runUnderlying28 sizeOf3 (by omega) (by omega) h) ?_; refine Dl 11 hok rfl (by kernel_rfl) (fun _ _ A h => R.loadOne C rfl (A.w rfl rfl) (A.x rfl rfl) isAgg3 (by repeat (first | exact Mh | apply Mt)) (vals_at (k := F + (2 * root + 1)) (by omega) (by omega)) h) ?_; refine D.eP (i := 12) (dst := (some 51)) [false, false] hok rfl (by kernel_rfl) (by kernel_rfl) (fun σr rest A hk => ?_)
      refine R.callP C rfl (A.w rfl rfl) (A.x rfl rfl) (A.s rfl rfl) (less_c hJ _ _ _) (hk _ _ ⟨QFs.nil, ?_⟩)
      refine Dp 13 hok rfl (by kernel_rfl) (fun _ _ _ A h => R.not C rfl (A.w rfl rfl) (A.x rfl rfl) h) ?_; refine D.done C hok (by kernel_rfl) ?_
      rw [sift_one (by omega) (.inl (by omega))] at hs
      refine X.cond C.1 rfl (fun hl => ?_) (fun hl => ?_)
      · have hl := hl
        simp only [Bool.not_eq_true'] at hl
        rw [if_pos (by simpa using hl)] at hs
        refine X.ret C rfl rfl func231 rfl (by exact .nil) ?_
        exact hret _ _ rfl hs
      · have hl := hl
        simp only [Bool.not_eq_false'] at hl
        rw [if_neg (by simp [hl])] at hs
        refine X.skip C.1 ?_; refine Xs C ?_; refine X.regionD C (by kernel_rfl) (by kernel_rfl) (by kernel_rfl) fun hok => ?_; refine Dm C 0 hok rfl (by kernel_rfl) rfl rfl rfl rfl ?_; refine Dm C 1 hok rfl (by kernel_rfl) rfl rfl rfl rfl ?_; refine Dm C 2 hok rfl (by kernel_rfl) rfl rfl rfl rfl ?_; refine Di C 3 hok rfl (by kernel_rfl) rfl rfl rfl rfl rfl rfl (b_add (by omega) (by omega)) ?_; refine Dm C 4 hok rfl (by kernel_rfl) rfl rfl rfl rfl ?_; refine Dm C 5 hok rfl (by kernel_rfl) rfl rfl rfl rfl ?_; refine Dm C 6 hok rfl (by kernel_rfl) rfl rfl rfl rfl ?_; refine Di C 7 hok rfl (by kernel_rfl) rfl rfl rfl rfl rfl rfl (b_add (by omega) (by omega)) ?_; refine Dm C 8 hok rfl (by kernel_rfl) rfl rfl rfl rfl ?_; refine Dm C 9 hok rfl (by kernel_rfl) rfl rfl rfl rfl ?_; refine Dm C 10 hok rfl (by kernel_rfl) rfl rfl rfl rfl ?_; refine Di C 11 hok rfl (by kernel_rfl) rfl rfl rfl rfl rfl rfl (b_add (by omega) (by omega)) ?_; refine Dp 12 hok rfl (by kernel_rfl) (fun _ _ _ A h => R.indexAddr C rfl (A.w rfl rfl) (A.x rfl rfl) (A.x rfl rfl) runUnderlying28 sizeOf3 (by omega) (by omega) h) ?_; refine Dl 13 hok rfl (by kernel_rfl) (fun _ _ A h => R.loadOne C rfl (A.w rfl rfl) (A.x rfl rfl) isAgg3 (by repeat (first | exact Mh | apply Mt)) (vals_at (k := F + (2 * root + 1)) (by omega) (by omega)) h) ?_; refine Dm C 14 hok rfl (by kernel_rfl) rfl rfl rfl rfl ?_; refine Dm C 15 hok rfl (by kernel_rfl) rfl rfl rfl rfl ?_; refine Dm C 16 hok rfl (by kernel_rfl) rfl rfl rfl rfl ?_; refine Di C 17 hok rfl (by kernel_rfl) rfl rfl rfl rfl rfl rfl (b_add (by omega) (by omega)) ?_; refine Dp 18 hok rfl (by kernel_rfl) (fun _ _ _ A h => R.indexAddr C rfl (A.w rfl rfl) (A.x rfl rfl) (A.x rfl rfl) runUnderlying28 sizeOf3 (by omega) (by omega) h) ?_; refine Dl 19 hok rfl (by kernel_rfl) (fun _ _ A h => R.loadOne C rfl (A.w rfl rfl) (A.x rfl rfl) isAgg3 (by repeat (first | exact Mh | apply Mt)) (vals_at (k := F + root) (by omega) (by omega)) h) ?_; refine Dp 20 hok rfl (by kernel_rfl) (fun _ _ _ A h => R.indexAddr C rfl (A.w rfl rfl) (A.x rfl rfl) (A.x rfl rfl) runUnderlying28 sizeOf3 (by omega) (by omega) h) ?_; refine D.eP (i := 21) (dst := none) [false, false] hok rfl (by kernel_rfl) (by kernel_rfl) (fun σr rest A hk => ?_)
        refine R.store C rfl (A.w rfl rfl) (A.x rfl rfl) (A.x rfl rfl) sizeOf3 rfl rfl rfl (by repeat (first | exact Uh | apply Ut)) (vals_put (k := F + root) (by omega) (by omega)) (hk undef _ ⟨QFs.nil, ?_⟩)
        refine Dp 22 hok rfl (by kernel_rfl) (fun _ _ _ A h => R.indexAddr C rfl (A.w rfl rfl) (A.x rfl rfl) (A.x rfl rfl) runUnderlying28 sizeOf3 (by omega) (by omega) h) ?_; refine D.eP (i := 23) (dst := none) [] hok rfl (by kernel_rfl) (by kernel_rfl) (fun σr rest A hk => ?_)
        refine R.store C rfl (A.w rfl rfl) (A.x rfl rfl) (A.x rfl rfl) sizeOf3 rfl rfl rfl (by repeat (first | exact Uh | apply Ut)) (vals_put (k := F + (2 * root + 1)) (by omega) (by simp; omega)) (hk undef _ ⟨QFs.nil, ?_⟩)
        refine D.done C hok (by kernel_rfl) ?_; refine X.region C rfl rfl ?_; refine R.mov C rfl rfl rfl ?_; refine Ad C rfl rfl rfl ?_; refine X.inBlock C.1 ?_; refine X.weaken ?_ (hnext ((2 * root + 1), swp d1 (F + root) (F + (2 * root + 1))) ⟨by simpa [swp] using h1, by simp; omega, hs⟩ (by simp; omega))
        exact ⟨rfl, rfl, rfl, congrArg (fun z => some (Value.int .i64 z)) (by omega), trivial⟩
theorem heapSort_c {p : Nat} {sp : List Value} {d : Array Int} {cap a b : Nat} {ro : RO} (hn : d.size ≤ 1000000000) (hab : a ≤ b) (hb : b ≤ d.size) : CallS J 185 p sp d cap [.int .i64 (a : Int), .int .i64 (b : Int)] ro (.tuple #[]) (heapSort ltInt d a b) := by
  refine CallS.intro hJ (by kernel_rfl) fun c cs tail hret => ?_
  let J := J
  have hq : ((b : Int) - a - 1).tdiv 2 = (((b - a - 1) / 2 : Nat) : Int) := by
    rcases Nat.lt_or_eq_of_le hab with h | h
    · rw [Int.tdiv_eq_ediv_of_nonneg (by omega)]; omega
    · subst h; rw [show (a : Int) - a - 1 = -1 by omega, show a - a - 1 = 0 by omega]; rfl
  refine enter_X (n := 56) func185 rfl rfl (Nl rfl) ?_
  have C : Ctx prog main J (bf 185 .normal) := ⟨hJ, by decide⟩
  refine Xr C rfl rfl ?_; refine R.mov C rfl rfl rfl ?_; refine Ad C rfl rfl rfl ?_; refine Xr C rfl rfl ?_; refine Ad C rfl rfl rfl ?_; refine Xr C rfl rfl ?_; refine R.mov C rfl rfl rfl ?_; refine R.mov C rfl rfl rfl ?_; refine R.int C rfl rfl rfl rfl (b_sub (by omega) (by omega)) ?_; refine Ad C rfl rfl rfl ?_; refine Xs C ?_; refine Xr C rfl rfl ?_; refine R.mov C rfl rfl rfl ?_; refine R.int C rfl rfl rfl rfl (b_sub (by omega) (by omega)) ?_; refine R.int C rfl rfl rfl rfl (b_quo (by decide) (by omega) (by omega)) ?_; refine R.fixv (t := 17) (v' := .int .i64 ((((b - a - 1) / 2 : Nat) : Nat) : Int)) rfl (by exact congrArg (Value.int .i64) hq) ?_; refine Ad C rfl rfl rfl ?_; refine X.block C.1 ?_; refine X.loopI (ι := Nat × Array Int) C.1 (fun s => s.2.size = d.size ∧ s.1 ≤ (b - a - 1) / 2 + 1 ∧ heapBuild ltInt (b - a) a s.1 s.2 = heapBuild ltInt (b - a) a ((b - a - 1) / 2 + 1) d) (fun s => [(0, .slice (some ⟨p, 0, none⟩) d.size cap), (6, .int .i64 (a : Int)), (7, .int .i64 0), (8, .int .i64 ((b - a : Nat) : Int)), (9, .int .i64 ((s.1 : Int) - 1))])
    (fun s => ⟨ro, (p, .cells (vals s.2 ++ sp).toArray 3 (0, 0)) :: tail⟩) (fun s => s.1) ((b - a - 1) / 2 + 1, d) ⟨rfl, Nat.le_refl _, rfl⟩ rfl ⟨rfl, rfl, rfl, congrArg (fun z => some (Value.int .i64 z)) (by omega), congrArg (fun z => some (Value.int .i64 z)) (by omega), trivial⟩ fun s hs hnext => ?_
  obtain ⟨k, d1⟩ := s
  obtain ⟨h1, h2, hs⟩ := hs
  simp only at h1 h2 hs hnext ⊢
  refine Xs C ?_; refine Xr C rfl rfl ?_; refine R.mov C rfl rfl rfl ?_; refine R.int C rfl rfl rfl rfl b_geq ?_; refine R.done C ?_; refine X.cond C.1 rfl (fun hge => ?_) (fun hge => ?_)
  · have hge := hge
    simp only [decide_eq_true_eq] at hge
    obtain ⟨k, rfl⟩ : ∃ k', k = k' + 1 := ⟨k - 1, by omega⟩
    have hcall := siftDown_c hJ (p := p) (sp := sp) (d := d1) (cap := cap) (lo := k) (hi := b - a) (F := a) (ro := ro) (by omega) (by omega) (by omega)
    unfold CallS at hcall
    rw [h1] at hcall
    refine X.skip C.1 ?_; refine Xs C ?_; refine X.block C.1 ?_; refine X.region C rfl rfl ?_; refine R.mov C rfl rfl rfl ?_; refine R.mov C rfl rfl rfl ?_; refine R.fixv (t := 23) (v' := .int .i64 (k : Int)) rfl (by (congr 1; omega)) ?_; refine R.mov C rfl rfl rfl ?_; refine R.mov C rfl rfl rfl ?_; refine R.call C rfl rfl rfl rfl rfl hcall fun v' ro' pre' hle' hp' => ?_; refine R.done C ?_; refine X.inBlock C.1 ?_; refine X.region C rfl rfl ?_
    obtain ⟨rfl, rfl, rfl⟩ := hp'
    refine R.mov C rfl rfl rfl ?_; refine R.int C rfl rfl rfl rfl (b_sub (by omega) (by omega)) ?_; refine Ad C rfl rfl rfl ?_; refine X.weaken ?_ (hnext (k, siftDown ltInt (b - a) a k d1) ⟨by rw [siftDown_size _ _ _ _ _ (Nat.le_refl _)]; exact h1, by simp; omega, hs⟩ (by simp))
    exact ⟨rfl, rfl, rfl, rfl, congrArg (fun z => some (Value.int .i64 z)) (by omega), trivial⟩
  · have hge := hge
    simp only [decide_eq_false_iff_not] at hge
    obtain rfl : k = 0 := by omega
    simp only [heapBuild] at hs
    refine X.exit C.1 rfl ?_; refine Xr C rfl rfl ?_; refine R.mov C rfl rfl rfl ?_; refine R.int C rfl rfl rfl rfl (b_sub (by omega) (by omega)) ?_; refine Ad C rfl rfl rfl ?_; refine X.block C.1 ?_; refine X.loopI (ι := Nat × Array Int) C.1 (fun s => s.2.size = d.size ∧ s.1 ≤ b - a ∧ heapPop ltInt a s.1 s.2 = heapSort ltInt d a b) (fun s => [(0, .slice (some ⟨p, 0, none⟩) d.size cap), (6, .int .i64 (a : Int)), (7, .int .i64 0), (10, .int .i64 ((s.1 : Int) - 1))])
      (fun s => ⟨ro, (p, .cells (vals s.2 ++ sp).toArray 3 (0, 0)) :: tail⟩) (fun s => s.1) (b - a, d1) ⟨h1, Nat.le_refl _, by rw [hs]; rfl⟩ rfl ⟨rfl, rfl, rfl, congrArg (fun z => some (Value.int .i64 z)) (by omega), trivial⟩ fun s hs2 hnext2 => ?_
    obtain ⟨k, d2⟩ := s
    obtain ⟨k1, k2, k3⟩ := hs2
    simp only at k1 k2 k3 hnext2 ⊢
    refine Xs C ?_; refine Xr C rfl rfl ?_; refine R.mov C rfl rfl rfl ?_; refine R.int C rfl rfl rfl rfl b_geq ?_; refine R.done C ?_; refine X.cond C.1 rfl (fun hge2 => ?_) (fun hge2 => ?_)
    · have hge2 := hge2
      simp only [decide_eq_true_eq] at hge2
      obtain ⟨k, rfl⟩ : ∃ k', k = k' + 1 := ⟨k - 1, by omega⟩
      have hsz : (swp d2 a (a + k)).size = d.size := by simpa [swp] using k1
      have hcall := siftDown_c hJ (p := p) (sp := sp) (d := swp d2 a (a + k)) (cap := cap) (lo := 0) (hi := k) (F := a) (ro := ro) (by omega) (by omega) (by omega)
      unfold CallS at hcall
      rw [hsz] at hcall
      refine X.skip C.1 ?_; refine Xs C ?_; refine X.block C.1 ?_; refine Xs C ?_; refine X.regionD C (by kernel_rfl) (by kernel_rfl) (by kernel_rfl) fun hok => ?_; refine Dm C 0 hok rfl (by kernel_rfl) rfl rfl rfl rfl ?_; refine Dm C 1 hok rfl (by kernel_rfl) rfl rfl rfl rfl ?_; refine Dm C 2 hok rfl (by kernel_rfl) rfl rfl rfl rfl ?_; refine Dm C 3 hok rfl (by kernel_rfl) rfl rfl rfl rfl ?_; refine Dm C 4 hok rfl (by kernel_rfl) rfl rfl rfl rfl ?_; refine Di C 5 hok rfl (by kernel_rfl) rfl rfl rfl rfl rfl rfl (b_add (by omega) (by omega)) ?_; refine Dm C 6 hok rfl (by kernel_rfl) rfl rfl rfl rfl ?_; refine Dm C 7 hok rfl (by kernel_rfl) rfl rfl rfl rfl ?_; refine Dm C 8 hok rfl (by kernel_rfl) rfl rfl rfl rfl ?_; refine Di C 9 hok rfl (by kernel_rfl) rfl rfl rfl rfl rfl rfl (b_add (by omega) (by omega)) ?_; refine Dp 10 hok rfl (by kernel_rfl) (fun _ _ _ A h => R.indexAddr C rfl (A.w rfl rfl) (A.x rfl rfl) (A.x rfl rfl) runUnderlying28 sizeOf3 (by omega) (by omega) h) ?_; refine Dl 11 hok rfl (by kernel_rfl) (fun _ _ A h => R.loadOne C rfl (A.w rfl rfl) (A.x rfl rfl) isAgg3 (by repeat (first | exact Mh | apply Mt)) (vals_at (k := a + k) (by omega) (by omega)) h) ?_; refine Dm C 12 hok rfl (by kernel_rfl) rfl rfl rfl rfl ?_; refine Dm C 13 hok rfl (by kernel_rfl) rfl rfl rfl rfl ?_; refine Dp 14 hok rfl (by kernel_rfl) (fun _ _ _ A h => R.indexAddr C rfl (A.w rfl rfl) (A.x rfl rfl) (A.x rfl rfl) runUnderlying28 sizeOf3 (by omega) (by omega) h) ?_; refine Dl 15 hok rfl (by kernel_rfl) (fun _ _ A h => R.loadOne C rfl (A.w rfl rfl) (A.x rfl rfl) isAgg3 (by repeat (first | exact Mh | apply Mt)) (vals_at (k := a) (by omega) (by omega)) h) ?_; refine Dp 16 hok rfl (by kernel_rfl) (fun _ _ _ A h => R.indexAddr C rfl (A.w rfl rfl) (A.x rfl rfl) (A.x rfl rfl) runUnderlying28 sizeOf3 (by omega) (by omega) h) ?_; refine D.eP (i := 17) (dst := none) [false, false] hok rfl (by kernel_rfl) (by kernel_rfl) (fun σr rest A hk => ?_)
      refine R.store C rfl (A.w rfl rfl) (A.x rfl rfl) (A.x rfl rfl) sizeOf3 rfl rfl rfl (by repeat (first | exact Uh | apply Ut)) (vals_put (k := a) (by omega) (by omega)) (hk undef _ ⟨QFs.nil, ?_⟩)
      refine Dp 18 hok rfl (by kernel_rfl) (fun _ _ _ A h => R.indexAddr C rfl (A.w rfl rfl) (A.x rfl rfl) (A.x rfl rfl) runUnderlying28 sizeOf3 (by omega) (by omega) h) ?_; refine D.eP (i := 19) (dst := none) [] hok rfl (by kernel_rfl) (by kernel_rfl) (fun σr rest A hk => ?_)
      refine R.store C rfl (A.w rfl rfl) (A.x rfl rfl) (A.x rfl rfl) sizeOf3 rfl rfl rfl (by repeat (first | exact Uh | apply Ut)) (vals_put (k := a + k) (by omega) (by simp; omega)) (hk undef _ ⟨QFs.nil, ?_⟩)
      refine D.done C hok (by kernel_rfl) ?_; refine X.region C rfl rfl ?_; refine R.mov C rfl rfl rfl ?_; refine R.mov C rfl rfl rfl ?_; refine R.mov C rfl rfl rfl ?_; refine R.fixv (t := 53) (v' := .int .i64 (k : Int)) rfl (by (congr 1; omega)) ?_; refine R.mov C rfl rfl rfl ?_; refine R.call C rfl rfl rfl rfl rfl hcall fun v' ro' pre' hle' hp' => ?_; refine R.done C ?_; refine X.inBlock C.1 ?_; refine X.region C rfl rfl ?_
      obtain ⟨rfl, rfl, rfl⟩ := hp'
      refine R.mov C rfl rfl rfl ?_; refine R.int C rfl rfl rfl rfl (b_sub (by omega) (by omega)) ?_; refine Ad C rfl rfl rfl ?_; refine X.weaken ?_ (hnext2 (k, siftDown ltInt k a 0 (swp d2 a (a + k))) ⟨by rw [siftDown_size _ _ _ _ _ (Nat.le_refl _)]; exact hsz, by simp; omega, k3⟩ (by simp))
      exact ⟨rfl, rfl, rfl, congrArg (fun z => some (Value.int .i64 z)) (by omega), trivial⟩
    · have hge2 := hge2
      simp only [decide_eq_false_iff_not] at hge2
      obtain rfl : k = 0 := by omega
      simp only [heapPop] at k3
      refine X.exit C.1 rfl ?_; refine X.fall C rfl rfl func185 rfl (by exact .nil) ?_
      exact hret _ _ rfl k3
end Go.Lg.B
namespace Go.Lg.B
open Go Go.Conc Go.Lg Go.Proofs Go.Proofs.Tryz
open Go.Sort (ltInt swp order2 median medianAdjacent choosePivot reverseLoop reverseRange Hint)
theorem rev_go {i j : Nat} {d : Array Int} (h : i < j) : reverseLoop i j d = reverseLoop (i + 1) (j - 1) (swp d i j) := by rw [reverseLoop, if_pos h]
theorem rev_stop {i j : Nat} {d : Array Int} (h : j ≤ i) : reverseLoop i j d = d := by rw [reverseLoop, if_neg (by omega)]
def CallQ (J : Goroutine → Mem → Prop) (f : FuncId) (p q : Nat) (sp : List Value) (d : Array Int) (s : Nat) (args : List Value) (ro : RO) (v : Value) (s' : Nat) : Prop :=
  CallV prog J (fnv f) args ro [(q, .cells [.int .i64 (s : Int)].toArray 3 (0, 0)), (p, .cells (vals d ++ sp).toArray 3 (0, 0))] fun v' ro' pre' => v' = v ∧ ro' = ro ∧ pre' = [(q, .cells [.int .i64 (s' : Int)].toArray 3 (0, 0)), (p, .cells (vals d ++ sp).toArray 3 (0, 0))]
def BackQ (J : Goroutine → Mem → Prop) (c : Frame) (cs : List Frame) (ro : RO) (tail : List (Nat × Obj)) (p q : Nat) (sp : List Value) (d : Array Int) (v : Value) (s' : Nat) : Prop :=
  ∀ v' s2, v' = v → s2 = s' → J (G (c.finish v') cs) ⟨ro, (q, .cells [.int .i64 (s2 : Int)].toArray 3 (0, 0)) :: (p, .cells (vals d ++ sp).toArray 3 (0, 0)) :: tail⟩
variable {main : Bool} {J : Goroutine → Mem → Prop} (hJ : Closed prog main J)
include hJ
theorem CallQ.intro {f : FuncId} {p q : Nat} {sp : List Value} {d : Array Int} {s s' : Nat} {args : List Value} {ro : RO} {v : Value} (hc : callableB prog f = true)
    (h : ∀ c cs tail, BackQ J c cs ro tail p q sp d v s' → J (G (Frame.enter prog f args.toArray .normal) (c :: cs)) ⟨ro, (q, .cells [.int .i64 (s : Int)].toArray 3 (0, 0)) :: (p, .cells (vals d ++ sp).toArray 3 (0, 0)) :: tail⟩) : CallQ J f p q sp d s args ro v s' :=
  CallV.intro (first := []) (cap := []) hJ hc fun c cs tail hret => by
    have := h c cs tail fun v' s2 e1 e2 => hret v' ro [(q, .cells [.int .i64 (s2 : Int)].toArray 3 (0, 0)), (p, .cells (vals d ++ sp).toArray 3 (0, 0))] _ (RO.le_refl _) ⟨e1, rfl, by rw [e2]⟩ (.refl _)
    simpa using this
theorem reverseRange_c {p : Nat} {sp : List Value} {d : Array Int} {cap a b : Nat} {ro : RO} (hn : d.size ≤ 1000000000) (hab : a < b) (hb : b ≤ d.size) : CallS J 188 p sp d cap [.int .i64 (a : Int), .int .i64 (b : Int)] ro (.tuple #[]) (reverseRange d a b) := by
  refine CallS.intro hJ (by kernel_rfl) fun c cs tail hret => ?_
  let J := J
  refine enter_X (n := 32) func188 rfl rfl (Nl rfl) ?_
  have C : Ctx prog main J (bf 188 .normal) := ⟨hJ, by decide⟩
  refine Xr C rfl rfl ?_; refine R.mov C rfl rfl rfl ?_; refine Ad C rfl rfl rfl ?_; refine Xr C rfl rfl ?_; refine R.mov C rfl rfl rfl ?_; refine R.int C rfl rfl rfl rfl (b_sub (by omega) (by omega)) ?_; refine Ad C rfl rfl rfl ?_; refine X.block C.1 ?_; refine X.loopI (ι := Nat × Nat × Array Int) C.1 (fun s => s.2.2.size = d.size ∧ s.2.1 < d.size ∧ s.1 ≤ d.size ∧ reverseLoop s.1 s.2.1 s.2.2 = reverseRange d a b) (fun s => [(0, .slice (some ⟨p, 0, none⟩) d.size cap), (6, .int .i64 (s.1 : Int)), (7, .int .i64 (s.2.1 : Int))])
    (fun s => ⟨ro, (p, .cells (vals s.2.2 ++ sp).toArray 3 (0, 0)) :: tail⟩) (fun s => s.2.1 - s.1) (a, b - 1, d) ⟨rfl, by show b - 1 < d.size; omega, by show a ≤ d.size; omega, rfl⟩ rfl ⟨rfl, rfl, congrArg (fun z => some (Value.int .i64 z)) (by show (b : Int) - 1 = ((b - 1 : Nat) : Int); omega), trivial⟩ fun s hs hnext => ?_
  obtain ⟨i, j, d1⟩ := s
  obtain ⟨h1, h2, h4, h3⟩ := hs
  simp only at h1 h2 h3 h4 hnext ⊢
  refine Xs C ?_; refine Xr C rfl rfl ?_; refine R.mov C rfl rfl rfl ?_; refine R.mov C rfl rfl rfl ?_; refine R.int C rfl rfl rfl rfl b_lss ?_; refine R.done C ?_; refine X.cond C.1 rfl (fun hlt => ?_) (fun hlt => ?_)
  · have hlt := hlt
    simp only [decide_eq_true_eq] at hlt
    rw [rev_go (by omega)] at h3
    refine X.skip C.1 ?_; refine X.block C.1 ?_; refine Xs C ?_; refine X.regionD C (by kernel_rfl) (by kernel_rfl) (by kernel_rfl) fun hok => ?_; refine Dm C 0 hok rfl (by kernel_rfl) rfl rfl rfl rfl ?_; refine Dm C 1 hok rfl (by kernel_rfl) rfl rfl rfl rfl ?_; refine Dm C 2 hok rfl (by kernel_rfl) rfl rfl rfl rfl ?_; refine Dm C 3 hok rfl (by kernel_rfl) rfl rfl rfl rfl ?_; refine Dm C 4 hok rfl (by kernel_rfl) rfl rfl rfl rfl ?_; refine Dm C 5 hok rfl (by kernel_rfl) rfl rfl rfl rfl ?_; refine Dp 6 hok rfl (by kernel_rfl) (fun _ _ _ A h => R.indexAddr C rfl (A.w rfl rfl) (A.x rfl rfl) (A.x rfl rfl) runUnderlying28 sizeOf3 (by omega) (by omega) h) ?_; refine Dl 7 hok rfl (by kernel_rfl) (fun _ _ A h => R.loadOne C rfl (A.w rfl rfl) (A.x rfl rfl) isAgg3 (by repeat (first | exact Mh | apply Mt)) (vals_at (k := j) (by omega) (by omega)) h) ?_; refine Dm C 8 hok rfl (by kernel_rfl) rfl rfl rfl rfl ?_; refine Dm C 9 hok rfl (by kernel_rfl) rfl rfl rfl rfl ?_; refine Dp 10 hok rfl (by kernel_rfl) (fun _ _ _ A h => R.indexAddr C rfl (A.w rfl rfl) (A.x rfl rfl) (A.x rfl rfl) runUnderlying28 sizeOf3 (by omega) (by omega) h) ?_; refine Dl 11 hok rfl (by kernel_rfl) (fun _ _ A h => R.loadOne C rfl (A.w rfl rfl) (A.x rfl rfl) isAgg3 (by repeat (first | exact Mh | apply Mt)) (vals_at (k := i) (by omega) (by omega)) h) ?_; refine Dp 12 hok rfl (by kernel_rfl) (fun _ _ _ A h => R.indexAddr C rfl (A.w rfl rfl) (A.x rfl rfl) (A.x rfl rfl) runUnderlying28 sizeOf3 (by omega) (by omega) h) ?_; refine D.eP (i := 13) (dst := none) [false, false] hok rfl (by kernel_rfl) (by kernel_rfl) (fun σr rest A hk => ?_)
    refine R.store C rfl (A.w rfl rfl) (A.x rfl rfl) (A.x rfl rfl) sizeOf3 rfl rfl rfl (by repeat (first | exact Uh | apply Ut)) (vals_put (k := i) (by omega) (by omega)) (hk undef _ ⟨QFs.nil, ?_⟩)
    refine Dp 14 hok rfl (by kernel_rfl) (fun _ _ _ A h => R.indexAddr C rfl (A.w rfl rfl) (A.x rfl rfl) (A.x rfl rfl) runUnderlying28 sizeOf3 (by omega) (by omega) h) ?_; refine D.eP (i := 15) (dst := none) [] hok rfl (by kernel_rfl) (by kernel_rfl) (fun σr rest A hk => ?_)
    refine R.store C rfl (A.w rfl rfl) (A.x rfl rfl) (A.x rfl rfl) sizeOf3 rfl rfl rfl (by repeat (first | exact Uh | apply Ut)) (vals_put (k := j) (by omega) (by simp; omega)) (hk undef _ ⟨QFs.nil, ?_⟩)
    refine D.done C hok (by kernel_rfl) ?_; refine Xr C rfl rfl ?_; refine R.mov C rfl rfl rfl ?_; refine R.int C rfl rfl rfl rfl (b_add (by omega) (by omega)) ?_; refine Ad C rfl rfl rfl ?_; refine X.region C rfl rfl ?_; refine R.mov C rfl rfl rfl ?_; refine R.int C rfl rfl rfl rfl (b_sub (by omega) (by omega)) ?_; refine Ad C rfl rfl rfl ?_; refine X.inBlock C.1 ?_; refine X.weaken ?_ (hnext (i + 1, j - 1, swp d1 i j) ⟨by simpa [swp] using h1, by show j - 1 < d.size; omega, by show i + 1 ≤ d.size; omega, h3⟩ (by simp; omega))
    exact ⟨rfl, by simp [look], congrArg (fun z => some (Value.int .i64 z)) (by show (j : Int) - 1 = ((j - 1 : Nat) : Int); omega), trivial⟩
  · have hlt := hlt
    simp only [decide_eq_false_iff_not] at hlt
    rw [rev_stop (by omega)] at h3
    refine X.exit C.1 rfl ?_; refine X.fall C rfl rfl func188 rfl (by exact .nil) ?_
    exact hret _ _ rfl h3
theorem order2_c {p q : Nat} {sp : List Value} {d : Array Int} {n cap a b s : Nat} {ro : RO} (hn : d.size = n) (hn2 : n ≤ 1000000000) (ha : a < n) (hb : b < n) (hs : s ≤ 1000) :
    CallQ J 256 p q sp d s [.slice (some ⟨p, 0, none⟩) n cap, .int .i64 (a : Int), .int .i64 (b : Int), .pointer (some ⟨q, 0, none⟩)] ro (.tuple [.int .i64 ((order2 ltInt d a b s).1 : Int), .int .i64 ((order2 ltInt d a b s).2.1 : Int)].toArray) (order2 ltInt d a b s).2.2 := by
  refine CallQ.intro hJ (by kernel_rfl) fun c cs tail hret => ?_
  let J := J
  refine enter_X (n := 28) func256 rfl rfl (Nl rfl) ?_
  have C : Ctx prog main J (bf 256 .normal) := ⟨hJ, by decide⟩
  refine Xr C rfl rfl ?_; refine R.asg C rfl rfl rfl ?_; refine Ad C rfl rfl rfl ?_; refine Xs C ?_; refine Xs C ?_; refine X.regionD C (by kernel_rfl) (by kernel_rfl) (by kernel_rfl) fun hok => ?_; refine Dm C 0 hok rfl (by kernel_rfl) rfl rfl rfl rfl ?_; refine Dm C 1 hok rfl (by kernel_rfl) rfl rfl rfl rfl ?_; refine Dp 2 hok rfl (by kernel_rfl) (fun _ _ _ A h => R.indexAddr C rfl (A.w rfl rfl) (A.x rfl rfl) (A.x rfl rfl) runUnderlying28 sizeOf3 (by omega) (by omega) h) ?_; refine Dl 3 hok rfl (by kernel_rfl) (fun _ _ A h => R.loadOne C rfl (A.w rfl rfl) (A.x rfl rfl) isAgg3 (by repeat (first | exact Mh | apply Mt)) (vals_at (k := b) (by omega) (by omega)) h) ?_; refine Dm C 4 hok rfl (by kernel_rfl) rfl rfl rfl rfl ?_; refine Dm C 5 hok rfl (by kernel_rfl) rfl rfl rfl rfl ?_; refine Dp 6 hok rfl (by kernel_rfl) (fun _ _ _ A h => R.indexAddr C rfl (A.w rfl rfl) (A.x rfl rfl) (A.x rfl rfl) runUnderlying28 sizeOf3 (by omega) (by omega) h) ?_; refine Dl 7 hok rfl (by kernel_rfl) (fun _ _ A h => R.loadOne C rfl (A.w rfl rfl) (A.x rfl rfl) isAgg3 (by repeat (first | exact Mh | apply Mt)) (vals_at (k := a) (by omega) (by omega)) h) ?_; refine D.eP (i := 8) (dst := (some 18)) [false, false] hok rfl (by kernel_rfl) (by kernel_rfl) (fun σr rest A hk => ?_)
  refine R.callP C rfl (A.w rfl rfl) (A.x rfl rfl) (A.s rfl rfl) (less_c hJ _ _ _) (hk _ _ ⟨QFs.nil, ?_⟩)
  refine D.done C hok (by kernel_rfl) ?_; refine X.cond C.1 rfl (fun hl => ?_) (fun hl => ?_)
  · have hl := hl
    have e : order2 ltInt d a b s = (b, a, s + 1) := by rw [order2, if_pos hl]
    rw [e] at hret
    refine Xr C rfl rfl ?_; refine R.mov C rfl rfl rfl ?_; refine R.nilCheck C rfl rfl rfl ?_; refine R.loadOne C rfl rfl rfl isAgg3 (by repeat (first | exact Mh | apply Mt)) rfl ?_; refine R.int C rfl rfl rfl rfl (b_add (by omega) (by omega)) ?_; refine R.nilCheck C rfl rfl rfl ?_; refine R.store C rfl rfl rfl rfl sizeOf3 rfl rfl rfl (by repeat (first | exact Uh | apply Ut)) (.here .nil) ?_; refine R.done C ?_; refine Xr C rfl rfl ?_; refine R.mov C rfl rfl rfl ?_; refine R.mov C rfl rfl rfl ?_; refine R.asg C rfl rfl rfl ?_; refine Ad C rfl rfl rfl ?_; refine X.ret C rfl rfl func256 rfl (by exact .tmp rfl (.tmp rfl .nil)) ?_
    exact hret _ (s + 1) rfl rfl
  · have hl := hl
    have e : order2 ltInt d a b s = (a, b, s) := by rw [order2, if_neg (by simp [hl])]
    rw [e] at hret
    refine X.skip C.1 ?_; refine Xr C rfl rfl ?_; refine R.mov C rfl rfl rfl ?_; refine R.mov C rfl rfl rfl ?_; refine R.asg C rfl rfl rfl ?_; refine Ad C rfl rfl rfl ?_; refine X.ret C rfl rfl func256 rfl (by exact .tmp rfl (.tmp rfl .nil)) ?_
    exact hret _ s rfl rfl
omit hJ in
theorem order2_lt {d : Array Int} {a b s n : Nat} (ha : a < n) (hb : b < n) : (order2 ltInt d a b s).1 < n ∧ (order2 ltInt d a b s).2.1 < n := by
  rcases Go.Sort.order2_mem ltInt d a b s with ⟨h1, h2⟩ | ⟨h1, h2⟩ <;> rw [h1, h2] <;> exact ⟨by assumption, by assumption⟩
theorem median_c {p q : Nat} {sp : List Value} {d : Array Int} {n cap a b e s : Nat} {ro : RO} (hn : d.size = n) (hn2 : n ≤ 1000000000) (ha : a < n) (hb : b < n) (he : e < n) (hs : s ≤ 900) :
    CallQ J 235 p q sp d s [.slice (some ⟨p, 0, none⟩) n cap, .int .i64 (a : Int), .int .i64 (b : Int), .int .i64 (e : Int), .pointer (some ⟨q, 0, none⟩)] ro (.int .i64 ((median ltInt d a b e s).1 : Int)) (median ltInt d a b e s).2 := by
  refine CallQ.intro hJ (by kernel_rfl) fun c cs tail hret => ?_
  let J := J
  have hm : median ltInt d a b e s = ((order2 ltInt d (order2 ltInt d a b s).1 (order2 ltInt d (order2 ltInt d a b s).2.1 e (order2 ltInt d a b s).2.2).1 (order2 ltInt d (order2 ltInt d a b s).2.1 e (order2 ltInt d a b s).2.2).2.2).2.1, (order2 ltInt d (order2 ltInt d a b s).1 (order2 ltInt d (order2 ltInt d a b s).2.1 e (order2 ltInt d a b s).2.2).1 (order2 ltInt d (order2 ltInt d a b s).2.1 e (order2 ltInt d a b s).2.2).2.2).2.2) := rfl
  rw [hm] at hret
  have hr1 := order2_lt (d := d) (s := s) ha hb
  have hc1 := Go.Sort.order2_count (lt := ltInt) d a b s
  have k1 := order2_c hJ (p := p) (q := q) (sp := sp) (cap := cap) (ro := ro) hn hn2 ha hb (s := s) (by omega)
  generalize order2 ltInt d a b s = r1 at hret hr1 hc1 k1
  have hr2 := order2_lt (d := d) (s := r1.2.2) hr1.2 he
  have hc2 := Go.Sort.order2_count (lt := ltInt) d r1.2.1 e r1.2.2
  have k2 := order2_c hJ (p := p) (q := q) (sp := sp) (cap := cap) (ro := ro) hn hn2 hr1.2 he (s := r1.2.2) (by omega)
  generalize order2 ltInt d r1.2.1 e r1.2.2 = r2 at hret hr2 hc2 k2
  have hr3 := order2_lt (d := d) (s := r2.2.2) hr1.1 hr2.1
  have k3 := order2_c hJ (p := p) (q := q) (sp := sp) (cap := cap) (ro := ro) hn hn2 hr1.1 hr2.1 (s := r2.2.2) (by omega)
  generalize order2 ltInt d r1.1 r2.1 r2.2.2 = r3 at hret hr3 k3
  refine enter_X (n := 36) func235 rfl rfl (Nl rfl) ?_
  have C : Ctx prog main J (bf 235 .normal) := ⟨hJ, by decide⟩
  refine Xr C rfl rfl ?_; refine Ad C rfl rfl rfl ?_; refine Xr C rfl rfl ?_; refine R.mov C rfl rfl rfl ?_; refine R.mov C rfl rfl rfl ?_; refine R.mov C rfl rfl rfl ?_; refine R.mov C rfl rfl rfl ?_; refine R.call C rfl rfl rfl rfl rfl k1 fun v1 ro1 pre1 hle1 hp1 => ?_
  obtain ⟨rfl, rfl, rfl⟩ := hp1
  refine R.mov C rfl rfl rfl ?_; refine R.ext C rfl rfl rfl rfl ?_; refine R.ext C rfl rfl rfl rfl ?_; refine R.asg C rfl rfl rfl ?_; refine Ad C rfl rfl rfl ?_; refine Xr C rfl rfl ?_; refine R.mov C rfl rfl rfl ?_; refine R.mov C rfl rfl rfl ?_; refine R.mov C rfl rfl rfl ?_; refine R.mov C rfl rfl rfl ?_; refine R.call C rfl rfl rfl rfl rfl k2 fun v1 ro1 pre1 hle1 hp1 => ?_
  obtain ⟨rfl, rfl, rfl⟩ := hp1
  refine R.mov C rfl rfl rfl ?_; refine R.ext C rfl rfl rfl rfl ?_; refine R.ext C rfl rfl rfl rfl ?_; refine R.asg C rfl rfl rfl ?_; refine Ad C rfl rfl rfl ?_; refine Xr C rfl rfl ?_; refine R.mov C rfl rfl rfl ?_; refine R.mov C rfl rfl rfl ?_; refine R.mov C rfl rfl rfl ?_; refine R.mov C rfl rfl rfl ?_; refine R.call C rfl rfl rfl rfl rfl k3 fun v1 ro1 pre1 hle1 hp1 => ?_
  obtain ⟨rfl, rfl, rfl⟩ := hp1
  refine R.mov C rfl rfl rfl ?_; refine R.ext C rfl rfl rfl rfl ?_; refine R.ext C rfl rfl rfl rfl ?_; refine R.asg C rfl rfl rfl ?_; refine Ad C rfl rfl rfl ?_; refine Xr C rfl rfl ?_; refine R.mov C rfl rfl rfl ?_; refine Ad C rfl rfl rfl ?_; refine X.ret C rfl rfl func235 rfl (by exact .tmp rfl .nil) ?_
  exact hret _ _ rfl rfl
theorem medianAdjacent_c {p q : Nat} {sp : List Value} {d : Array Int} {n cap a s : Nat} {ro : RO} (hn : d.size = n) (hn2 : n ≤ 1000000000) (ha : 1 ≤ a) (hb : a + 1 < n) (hs : s ≤ 900) :
    CallQ J 234 p q sp d s [.slice (some ⟨p, 0, none⟩) n cap, .int .i64 (a : Int), .pointer (some ⟨q, 0, none⟩)] ro (.int .i64 ((medianAdjacent ltInt d a s).1 : Int)) (medianAdjacent ltInt d a s).2 := by
  refine CallQ.intro hJ (by kernel_rfl) fun c cs tail hret => ?_
  let J := J
  have k1 := median_c hJ (p := p) (q := q) (sp := sp) (cap := cap) (ro := ro) (d := d) (a := a - 1) (b := a) (e := a + 1) hn hn2 (by omega) (by omega) (by omega) hs
  refine enter_X (n := 15) func234 rfl rfl (Nl rfl) ?_
  have C : Ctx prog main J (bf 234 .normal) := ⟨hJ, by decide⟩
  refine Xr C rfl rfl ?_; refine Ad C rfl rfl rfl ?_; refine Xr C rfl rfl ?_; refine R.mov C rfl rfl rfl ?_; refine R.mov C rfl rfl rfl ?_; refine R.int C rfl rfl rfl rfl (b_sub (by omega) (by omega)) ?_; refine R.fixv (t := 9) (v' := .int .i64 ((a - 1 : Nat) : Int)) rfl (by (congr 1; omega)) ?_; refine R.mov C rfl rfl rfl ?_; refine R.mov C rfl rfl rfl ?_; refine R.int C rfl rfl rfl rfl (b_add (by omega) (by omega)) ?_; refine R.fixv (t := 12) (v' := .int .i64 ((a + 1 : Nat) : Int)) rfl (by rfl) ?_; refine R.mov C rfl rfl rfl ?_; refine R.call C rfl rfl rfl rfl rfl k1 fun v1 ro1 pre1 hle1 hp1 => ?_
  obtain ⟨rfl, rfl, rfl⟩ := hp1
  refine Ad C rfl rfl rfl ?_; refine X.ret C rfl rfl func234 rfl (by exact .tmp rfl .nil) ?_
  exact hret _ _ rfl rfl
omit hJ in
def hintZ : Hint → Int
  | .unknown => 0
  | .increasing => 1
  | .decreasing => 2
theorem choosePivot_c {p : Nat} {sp : List Value} {d : Array Int} {cap a b : Nat} {ro : RO} (hn : d.size ≤ 1000000000) (hab : a < b) (hb : b ≤ d.size) : CallS J 187 p sp d cap [.int .i64 (a : Int), .int .i64 (b : Int)] ro (.tuple [.int .i64 ((choosePivot ltInt d a b).1 : Int), .int .i64 (hintZ (choosePivot ltInt d a b).2)].toArray) d := by
  refine CallS.intro hJ (by kernel_rfl) fun c cs tail hret => ?_
  let J := J
  refine enter_X (n := 57) func187 rfl rfl (Nl rfl) ?_
  have C : Ctx prog main J (bf 187 .normal) := ⟨hJ, by decide⟩
  refine Xr C rfl rfl ?_; refine R.asg C rfl rfl rfl ?_; refine Ad C rfl rfl rfl ?_; refine Xr C rfl rfl ?_; refine R.mov C rfl rfl rfl ?_; refine R.mov C rfl rfl rfl ?_; refine R.int C rfl rfl rfl rfl (b_sub (by omega) (by omega)) ?_; refine Ad C rfl rfl rfl ?_; refine Xr C rfl rfl ?_; refine R.alloc C rfl rfl zeroValue3 rfl fun p9 => ?_; refine R.done C ?_; refine Xr C rfl rfl ?_; refine R.mov C rfl rfl rfl ?_; refine R.mov C rfl rfl rfl ?_; refine R.int C rfl rfl rfl rfl (b_quoP (by omega) (by omega) (by decide)) ?_; refine R.int C rfl rfl rfl rfl (b_mul (by omega) (by omega)) ?_; refine R.int C rfl rfl rfl rfl (b_add (by omega) (by omega)) ?_; refine R.fixv (t := 20) (v' := .int .i64 ((a + (b - a) / 4 * 1 : Nat) : Int)) rfl (by (congr 1; omega)) ?_; refine Ad C rfl rfl rfl ?_; refine Xr C rfl rfl ?_; refine R.mov C rfl rfl rfl ?_; refine R.mov C rfl rfl rfl ?_; refine R.int C rfl rfl rfl rfl (b_quoP (by omega) (by omega) (by decide)) ?_; refine R.int C rfl rfl rfl rfl (b_mul (by omega) (by omega)) ?_; refine R.int C rfl rfl rfl rfl (b_add (by omega) (by omega)) ?_; refine R.fixv (t := 25) (v' := .int .i64 ((a + (b - a) / 4 * 2 : Nat) : Int)) rfl (by (congr 1; omega)) ?_; refine Ad C rfl rfl rfl ?_; refine Xr C rfl rfl ?_; refine R.mov C rfl rfl rfl ?_; refine R.mov C rfl rfl rfl ?_; refine R.int C rfl rfl rfl rfl (b_quoP (by omega) (by omega) (by decide)) ?_; refine R.int C rfl rfl rfl rfl (b_mul (by omega) (by omega)) ?_; refine R.int C rfl rfl rfl rfl (b_add (by omega) (by omega)) ?_; refine R.fixv (t := 30) (v' := .int .i64 ((a + (b - a) / 4 * 3 : Nat) : Int)) rfl (by (congr 1; omega)) ?_; refine Ad C rfl rfl rfl ?_; refine Xs C ?_; refine Xr C rfl rfl ?_; refine R.mov C rfl rfl rfl ?_; refine R.int C rfl rfl rfl rfl b_geq ?_; refine R.done C ?_; refine X.cond C.1 rfl (fun h8 => ?_) (fun h8 => ?_)
  · have h8 := h8
    simp only [ge_iff_le, decide_eq_true_eq] at h8
    refine Xs C ?_; refine Xr C rfl rfl ?_; refine R.mov C rfl rfl rfl ?_; refine R.int C rfl rfl rfl rfl b_geq ?_; refine R.done C ?_; refine X.cond C.1 rfl (fun h50 => ?_) (fun h50 => ?_)
    · have h50 := h50
      simp only [ge_iff_le, decide_eq_true_eq] at h50
      have ki := fun q => medianAdjacent_c hJ (p := p) (q := q) (sp := sp) (cap := cap) (ro := ro) (d := d) (a := a + (b - a) / 4 * 1) (s := 0) rfl hn (by omega) (by omega) (by omega)
      have mi := Go.Sort.medianAdjacent_mem ltInt d (a + (b - a) / 4 * 1) 0
      have ci := Go.Sort.medianAdjacent_count (lt := ltInt) d (a + (b - a) / 4 * 1) 0
      have hcp0 : choosePivot ltInt d a b = ((median ltInt d (medianAdjacent ltInt d (a + (b - a) / 4 * 1) 0).1 (medianAdjacent ltInt d (a + (b - a) / 4 * 2) (medianAdjacent ltInt d (a + (b - a) / 4 * 1) 0).2).1 (medianAdjacent ltInt d (a + (b - a) / 4 * 3) (medianAdjacent ltInt d (a + (b - a) / 4 * 2) (medianAdjacent ltInt d (a + (b - a) / 4 * 1) 0).2).2).1 (medianAdjacent ltInt d (a + (b - a) / 4 * 3) (medianAdjacent ltInt d (a + (b - a) / 4 * 2) (medianAdjacent ltInt d (a + (b - a) / 4 * 1) 0).2).2).2).1,
          if (median ltInt d (medianAdjacent ltInt d (a + (b - a) / 4 * 1) 0).1 (medianAdjacent ltInt d (a + (b - a) / 4 * 2) (medianAdjacent ltInt d (a + (b - a) / 4 * 1) 0).2).1 (medianAdjacent ltInt d (a + (b - a) / 4 * 3) (medianAdjacent ltInt d (a + (b - a) / 4 * 2) (medianAdjacent ltInt d (a + (b - a) / 4 * 1) 0).2).2).1 (medianAdjacent ltInt d (a + (b - a) / 4 * 3) (medianAdjacent ltInt d (a + (b - a) / 4 * 2) (medianAdjacent ltInt d (a + (b - a) / 4 * 1) 0).2).2).2).2 = 0 then Hint.increasing else if (median ltInt d (medianAdjacent ltInt d (a + (b - a) / 4 * 1) 0).1 (medianAdjacent ltInt d (a + (b - a) / 4 * 2) (medianAdjacent ltInt d (a + (b - a) / 4 * 1) 0).2).1 (medianAdjacent ltInt d (a + (b - a) / 4 * 3) (medianAdjacent ltInt d (a + (b - a) / 4 * 2) (medianAdjacent ltInt d (a + (b - a) / 4 * 1) 0).2).2).1 (medianAdjacent ltInt d (a + (b - a) / 4 * 3) (medianAdjacent ltInt d (a + (b - a) / 4 * 2) (medianAdjacent ltInt d (a + (b - a) / 4 * 1) 0).2).2).2).2 = 12 then .decreasing else .unknown) := by
        unfold choosePivot
        simp only [ge_iff_le, if_pos (show 8 ≤ b - a by omega), if_pos (show 50 ≤ b - a by omega)]
      generalize medianAdjacent ltInt d (a + (b - a) / 4 * 1) 0 = ri at *
      have kj := fun q => medianAdjacent_c hJ (p := p) (q := q) (sp := sp) (cap := cap) (ro := ro) (d := d) (a := a + (b - a) / 4 * 2) (s := ri.2) rfl hn (by omega) (by omega) (by omega)
      have mj := Go.Sort.medianAdjacent_mem ltInt d (a + (b - a) / 4 * 2) ri.2
      have cj := Go.Sort.medianAdjacent_count (lt := ltInt) d (a + (b - a) / 4 * 2) ri.2
      generalize medianAdjacent ltInt d (a + (b - a) / 4 * 2) ri.2 = rj at *
      have kk := fun q => medianAdjacent_c hJ (p := p) (q := q) (sp := sp) (cap := cap) (ro := ro) (d := d) (a := a + (b - a) / 4 * 3) (s := rj.2) rfl hn (by omega) (by omega) (by omega)
      have mk := Go.Sort.medianAdjacent_mem ltInt d (a + (b - a) / 4 * 3) rj.2
      have ck := Go.Sort.medianAdjacent_count (lt := ltInt) d (a + (b - a) / 4 * 3) rj.2
      generalize medianAdjacent ltInt d (a + (b - a) / 4 * 3) rj.2 = rk at *
      have km := fun q => median_c hJ (p := p) (q := q) (sp := sp) (cap := cap) (ro := ro) (d := d) (a := ri.1) (b := rj.1) (e := rk.1) (s := rk.2) rfl hn (by omega) (by omega) (by omega) (by omega)
      generalize median ltInt d ri.1 rj.1 rk.1 rk.2 = rr at *
      have hcp : choosePivot ltInt d a b = (rr.1, if rr.2 = 0 then Hint.increasing else if rr.2 = 12 then .decreasing else .unknown) := hcp0
      refine Xr C rfl rfl ?_; refine R.mov C rfl rfl rfl ?_; refine R.mov C rfl rfl rfl ?_; refine R.call C rfl rfl rfl rfl rfl (ki p9) fun v1 ro1 pre1 hle1 hp1 => ?_
      obtain ⟨rfl, rfl, rfl⟩ := hp1
      refine Ad C rfl rfl rfl ?_; refine Xr C rfl rfl ?_; refine R.mov C rfl rfl rfl ?_; refine R.mov C rfl rfl rfl ?_; refine R.call C rfl rfl rfl rfl rfl (kj p9) fun v1 ro1 pre1 hle1 hp1 => ?_
      obtain ⟨rfl, rfl, rfl⟩ := hp1
      refine Ad C rfl rfl rfl ?_; refine X.region C rfl rfl ?_; refine R.mov C rfl rfl rfl ?_; refine R.mov C rfl rfl rfl ?_; refine R.call C rfl rfl rfl rfl rfl (kk p9) fun v1 ro1 pre1 hle1 hp1 => ?_
      obtain ⟨rfl, rfl, rfl⟩ := hp1
      refine Ad C rfl rfl rfl ?_; refine X.region C rfl rfl ?_; refine R.mov C rfl rfl rfl ?_; refine R.mov C rfl rfl rfl ?_; refine R.mov C rfl rfl rfl ?_; refine R.mov C rfl rfl rfl ?_; refine R.call C rfl rfl rfl rfl rfl (km p9) fun v1 ro1 pre1 hle1 hp1 => ?_
      obtain ⟨rfl, rfl, rfl⟩ := hp1
      refine Ad C rfl rfl rfl ?_; refine Xr C rfl rfl ?_; refine R.loadOne C rfl rfl rfl isAgg3 (by repeat (first | exact Mh | apply Mt)) rfl ?_; refine R.done C ?_; refine X.block C.1 ?_; refine Xr C rfl rfl ?_; refine R.int C rfl rfl rfl rfl b_eql ?_; refine Ad C rfl rfl rfl ?_; refine X.cond C.1 rfl (fun hz => ?_) (fun hz => ?_)
      · have hz := hz
        have hz' : rr.2 = 0 := by simpa using hz
        rw [hcp, if_pos hz'] at hret
        refine Xr C rfl rfl ?_; refine R.mov C rfl rfl rfl ?_; refine R.asg C rfl rfl rfl ?_; refine Ad C rfl rfl rfl ?_; refine X.drop C.1 (own' := _ :: tail) (List.sublist_cons_self _ _) ?_; refine X.ret C rfl rfl func187 rfl (by exact .tmp rfl (.tmp rfl .nil)) ?_
        exact hret _ _ rfl rfl
      · have hz := hz
        have hz' : ¬ rr.2 = 0 := by simpa using hz
        rw [hcp, if_neg hz'] at hret
        refine Xr C rfl rfl ?_; refine R.int C rfl rfl rfl rfl b_eql ?_; refine Ad C rfl rfl rfl ?_; refine X.cond C.1 rfl (fun hy => ?_) (fun hy => ?_)
        · have hy := hy
          have hy' : rr.2 = 12 := by simp at hy; omega
          rw [if_pos hy'] at hret
          refine Xr C rfl rfl ?_; refine R.mov C rfl rfl rfl ?_; refine R.asg C rfl rfl rfl ?_; refine Ad C rfl rfl rfl ?_; refine X.drop C.1 (own' := _ :: tail) (List.sublist_cons_self _ _) ?_; refine X.ret C rfl rfl func187 rfl (by exact .tmp rfl (.tmp rfl .nil)) ?_
          exact hret _ _ rfl rfl
        · have hy := hy
          have hy' : ¬ rr.2 = 12 := by simp at hy; omega
          rw [if_neg hy'] at hret
          refine Xr C rfl rfl ?_; refine R.mov C rfl rfl rfl ?_; refine R.asg C rfl rfl rfl ?_; refine Ad C rfl rfl rfl ?_; refine X.drop C.1 (own' := _ :: tail) (List.sublist_cons_self _ _) ?_; refine X.ret C rfl rfl func187 rfl (by exact .tmp rfl (.tmp rfl .nil)) ?_
          exact hret _ _ rfl rfl
    · have h50 := h50
      simp only [ge_iff_le, decide_eq_false_iff_not] at h50
      have km := fun q => median_c hJ (p := p) (q := q) (sp := sp) (cap := cap) (ro := ro) (d := d) (a := a + (b - a) / 4 * 1) (b := a + (b - a) / 4 * 2) (e := a + (b - a) / 4 * 3) (s := 0) rfl hn (by omega) (by omega) (by omega) (by omega)
      have hcp0 : choosePivot ltInt d a b = ((median ltInt d (a + (b - a) / 4 * 1) (a + (b - a) / 4 * 2) (a + (b - a) / 4 * 3) 0).1, if (median ltInt d (a + (b - a) / 4 * 1) (a + (b - a) / 4 * 2) (a + (b - a) / 4 * 3) 0).2 = 0 then Hint.increasing else if (median ltInt d (a + (b - a) / 4 * 1) (a + (b - a) / 4 * 2) (a + (b - a) / 4 * 3) 0).2 = 12 then .decreasing else .unknown) := by
        unfold choosePivot
        simp only [ge_iff_le, if_pos (show 8 ≤ b - a by omega), if_neg (show ¬ 50 ≤ b - a by omega)]
      generalize median ltInt d (a + (b - a) / 4 * 1) (a + (b - a) / 4 * 2) (a + (b - a) / 4 * 3) 0 = rr at *
      have hcp := hcp0
      refine X.skip C.1 ?_; refine X.region C rfl rfl ?_; refine R.mov C rfl rfl rfl ?_; refine R.mov C rfl rfl rfl ?_; refine R.mov C rfl rfl rfl ?_; refine R.mov C rfl rfl rfl ?_; refine R.call C rfl rfl rfl rfl rfl (km p9) fun v1 ro1 pre1 hle1 hp1 => ?_
      obtain ⟨rfl, rfl, rfl⟩ := hp1
      refine Ad C rfl rfl rfl ?_; refine Xr C rfl rfl ?_; refine R.loadOne C rfl rfl rfl isAgg3 (by repeat (first | exact Mh | apply Mt)) rfl ?_; refine R.done C ?_; refine X.block C.1 ?_; refine Xr C rfl rfl ?_; refine R.int C rfl rfl rfl rfl b_eql ?_; refine Ad C rfl rfl rfl ?_; refine X.cond C.1 rfl (fun hz => ?_) (fun hz => ?_)
      · have hz := hz
        have hz' : rr.2 = 0 := by simpa using hz
        rw [hcp, if_pos hz'] at hret
        refine Xr C rfl rfl ?_; refine R.mov C rfl rfl rfl ?_; refine R.asg C rfl rfl rfl ?_; refine Ad C rfl rfl rfl ?_; refine X.drop C.1 (own' := _ :: tail) (List.sublist_cons_self _ _) ?_; refine X.ret C rfl rfl func187 rfl (by exact .tmp rfl (.tmp rfl .nil)) ?_
        exact hret _ _ rfl rfl
      · have hz := hz
        have hz' : ¬ rr.2 = 0 := by simpa using hz
        rw [hcp, if_neg hz'] at hret
        refine Xr C rfl rfl ?_; refine R.int C rfl rfl rfl rfl b_eql ?_; refine Ad C rfl rfl rfl ?_; refine X.cond C.1 rfl (fun hy => ?_) (fun hy => ?_)
        · have hy := hy
          have hy' : rr.2 = 12 := by simp at hy; omega
          rw [if_pos hy'] at hret
          refine Xr C rfl rfl ?_; refine R.mov C rfl rfl rfl ?_; refine R.asg C rfl rfl rfl ?_; refine Ad C rfl rfl rfl ?_; refine X.drop C.1 (own' := _ :: tail) (List.sublist_cons_self _ _) ?_; refine X.ret C rfl rfl func187 rfl (by exact .tmp rfl (.tmp rfl .nil)) ?_
          exact hret _ _ rfl rfl
        · have hy := hy
          have hy' : ¬ rr.2 = 12 := by simp at hy; omega
          rw [if_neg hy'] at hret
          refine Xr C rfl rfl ?_; refine R.mov C rfl rfl rfl ?_; refine R.asg C rfl rfl rfl ?_; refine Ad C rfl rfl rfl ?_; refine X.drop C.1 (own' := _ :: tail) (List.sublist_cons_self _ _) ?_; refine X.ret C rfl rfl func187 rfl (by exact .tmp rfl (.tmp rfl .nil)) ?_
          exact hret _ _ rfl rfl
  · have h8 := h8
    simp only [ge_iff_le, decide_eq_false_iff_not] at h8
    have hcp : choosePivot ltInt d a b = (a + (b - a) / 4 * 2, Hint.increasing) := by
      unfold choosePivot
      simp only [ge_iff_le, if_neg (show ¬ 8 ≤ b - a by omega)]
      rfl
    rw [hcp] at hret
    refine X.skip C.1 ?_; refine Xr C rfl rfl ?_; refine R.loadOne C rfl rfl rfl isAgg3 (by repeat (first | exact Mh | apply Mt)) rfl ?_; refine R.done C ?_; refine X.block C.1 ?_; refine Xr C rfl rfl ?_; refine R.int C rfl rfl rfl rfl b_eql ?_; refine Ad C rfl rfl rfl ?_; refine X.cond C.1 rfl (fun hz => ?_) (fun hz => ?_)
    · have hz := hz
      refine Xr C rfl rfl ?_; refine R.mov C rfl rfl rfl ?_; refine R.asg C rfl rfl rfl ?_; refine Ad C rfl rfl rfl ?_; refine X.drop C.1 (own' := _ :: tail) (List.sublist_cons_self _ _) ?_; refine X.ret C rfl rfl func187 rfl (by exact .tmp rfl (.tmp rfl .nil)) ?_
      exact hret _ _ rfl rfl
    · have hz := hz
      simp at hz
end Go.Lg.B
namespace Go.Lg
open Go Go.Conc
theorem X.loopB {P : Program} {main : Bool} {J : Goroutine → Mem → Prop} {b : Frame} {cs : List Frame} {n : Nat} {ds : List Deferred} {σ : Slots} {M : Mem} {k : List Item} {id : Nat} {ι : Type} {c : Code} (hJ : Closed P main J) (Inv : ι → Prop) (σf : ι → Slots) (Mf : ι → Mem) (μ : ι → Nat) (i₀ : ι) (E : ι → Prop) (h0 : Inv i₀) (hM : M = Mf i₀) (hs : keeps σ (σf i₀))
    (hexit : ∀ i, E i → X J b cs n k ds (σf i) (Mf i))
    (step : ∀ i, Inv i → (∀ j, Inv j → μ j < μ i → X J b cs n (.inLoop c :: .inBlock id :: k) ds (σf j) (Mf j)) → (∀ j, E j → X J b cs n k ds (σf j) (Mf j)) → X J b cs n (.code c :: .inLoop c :: .inBlock id :: k) ds (σf i) (Mf i)) : X J b cs n (.code (.loop c) :: .inBlock id :: k) ds σ M :=
  X.loopI hJ Inv σf Mf μ i₀ h0 hM hs fun i hi hn => step i hi hn hexit
end Go.Lg
namespace Go.Lg.B
open Go Go.Conc Go.Lg Go.Proofs Go.Proofs.Tryz
open Go.Sort (ltInt swp scanUp scanDown partLoop partEqLoop partition partitionEqual)
theorem scanUp_go {p : Int → Bool} {d : Array Int} {i j : Nat} (h : i ≤ j) (hp : p d[i]! = true) : scanUp p d j i = scanUp p d j (i + 1) := by rw [scanUp, if_pos (by simp [h, hp])]
theorem scanUp_stop {p : Int → Bool} {d : Array Int} {i j : Nat} (h : j < i ∨ p d[i]! = false) : scanUp p d j i = i := by
  rw [scanUp, if_neg]
  rcases h with h | h
  · simp; omega
  · simp [h]
theorem scanDown_go {p : Int → Bool} {d : Array Int} {i j : Nat} (h : i ≤ j) (hj : 0 < j) (hp : p d[j]! = true) : scanDown p d i j = scanDown p d i (j - 1) := by
  obtain ⟨j, rfl⟩ : ∃ k, j = k + 1 := ⟨j - 1, by omega⟩
  rw [scanDown, if_pos (by simp [h, hp])]; rfl
theorem scanDown_stop {p : Int → Bool} {d : Array Int} {i j : Nat} (h : j < i ∨ p d[j]! = false) : scanDown p d i j = j := by
  cases j with
  | zero => rfl
  | succ j =>
    rw [scanDown, if_neg]
    rcases h with h | h
    · simp; omega
    · simp [h]
theorem swp_sz {d : Array Int} {i j : Nat} : (swp d i j).size = d.size := by simp [swp]
theorem part_now {d d1 : Array Int} {a b pv i j : Nat} (h1 : d1 = swp d a pv) (hi : i = scanUp (fun x => ltInt x d1[a]!) d1 (b - 1) (a + 1)) (hj : j = scanDown (fun x => !ltInt x d1[a]!) d1 i (b - 1)) (h : j < i) : partition ltInt d a b pv = (j, true, swp d1 j a) := by
  subst h1; subst hi; subst hj
  unfold partition
  simp only
  rw [if_pos h]
theorem part_later {d d1 : Array Int} {a b pv i j : Nat} (h1 : d1 = swp d a pv) (hi : i = scanUp (fun x => ltInt x d1[a]!) d1 (b - 1) (a + 1)) (hj : j = scanDown (fun x => !ltInt x d1[a]!) d1 i (b - 1)) (h : ¬ j < i) : partition ltInt d a b pv = ((partLoop ltInt a (i + 1) (j - 1) (swp d1 i j)).1, false, swp (partLoop ltInt a (i + 1) (j - 1) (swp d1 i j)).2 (partLoop ltInt a (i + 1) (j - 1) (swp d1 i j)).1 a) := by
  subst h1; subst hi; subst hj
  unfold partition
  simp only
  rw [if_neg h]
theorem scan_ne {p q : Int → Bool} (hq : ∀ x, q x = !p x) {d : Array Int} {i0 j0 i j : Nat} (hi : i = scanUp p d j0 i0) (hj : j = scanDown q d i j0) (h : i ≤ j) (h0 : 0 < j) : i < j := by
  refine Nat.lt_of_le_of_ne h fun e => ?_
  have h1 := (Go.Sort.scanUp_spec p d j0 _ i0 rfl).2.2.2
  have h2 := Go.Sort.scanDown_spec q d i j0
  rw [← hi] at h1
  rw [← hj] at h2
  have h3 := h1 (by omega)
  have h4 := h2.2.2.2 h h0
  rw [hq, ← e, h3] at h4
  cases h4
variable {main : Bool} {J : Goroutine → Mem → Prop} (hJ : Closed prog main J)
include hJ
theorem partition_c {p : Nat} {sp : List Value} {d : Array Int} {cap a b pv : Nat} {ro : RO} (hn : d.size ≤ 1000000000) (hp1 : a ≤ pv) (hp2 : pv < b) (hb : b ≤ d.size) : CallS J 192 p sp d cap [.int .i64 (a : Int), .int .i64 (b : Int), .int .i64 (pv : Int)] ro (.tuple [.int .i64 ((partition ltInt d a b pv).1 : Int), .bool (partition ltInt d a b pv).2.1].toArray) (partition ltInt d a b pv).2.2 := by
  refine CallS.intro hJ (by kernel_rfl) fun c cs tail hret => ?_
  let J := J
  refine enter_X (n := 168) func192 rfl rfl (Nl rfl) ?_
  have C : Ctx prog main J (bf 192 .normal) := ⟨hJ, by decide⟩
  refine Xr C rfl rfl ?_; refine R.asg C rfl rfl rfl ?_; refine Ad C rfl rfl rfl ?_; refine Xs C ?_; refine X.regionD C (by kernel_rfl) (by kernel_rfl) (by kernel_rfl) fun hok => ?_; refine Dm C 0 hok rfl (by kernel_rfl) rfl rfl rfl rfl ?_; refine Dm C 1 hok rfl (by kernel_rfl) rfl rfl rfl rfl ?_; refine Dm C 2 hok rfl (by kernel_rfl) rfl rfl rfl rfl ?_; refine Dm C 3 hok rfl (by kernel_rfl) rfl rfl rfl rfl ?_; refine Dm C 4 hok rfl (by kernel_rfl) rfl rfl rfl rfl ?_; refine Dm C 5 hok rfl (by kernel_rfl) rfl rfl rfl rfl ?_; refine Dp 6 hok rfl (by kernel_rfl) (fun _ _ _ A h => R.indexAddr C rfl (A.w rfl rfl) (A.x rfl rfl) (A.x rfl rfl) runUnderlying28 sizeOf3 (by omega) (by omega) h) ?_; refine Dl 7 hok rfl (by kernel_rfl) (fun _ _ A h => R.loadOne C rfl (A.w rfl rfl) (A.x rfl rfl) isAgg3 (by repeat (first | exact Mh | apply Mt)) (vals_at (k := pv) (by omega) (by omega)) h) ?_; refine Dm C 8 hok rfl (by kernel_rfl) rfl rfl rfl rfl ?_; refine Dm C 9 hok rfl (by kernel_rfl) rfl rfl rfl rfl ?_; refine Dp 10 hok rfl (by kernel_rfl) (fun _ _ _ A h => R.indexAddr C rfl (A.w rfl rfl) (A.x rfl rfl) (A.x rfl rfl) runUnderlying28 sizeOf3 (by omega) (by omega) h) ?_; refine Dl 11 hok rfl (by kernel_rfl) (fun _ _ A h => R.loadOne C rfl (A.w rfl rfl) (A.x rfl rfl) isAgg3 (by repeat (first | exact Mh | apply Mt)) (vals_at (k := a) (by omega) (by omega)) h) ?_; refine Dp 12 hok rfl (by kernel_rfl) (fun _ _ _ A h => R.indexAddr C rfl (A.w rfl rfl) (A.x rfl rfl) (A.x rfl rfl) runUnderlying28 sizeOf3 (by omega) (by omega) h) ?_; refine D.eP (i := 13) (dst := none) [false, false] hok rfl (by kernel_rfl) (by kernel_rfl) (fun σr rest A hk => ?_)
  refine R.store C rfl (A.w rfl rfl) (A.x rfl rfl) (A.x rfl rfl) sizeOf3 rfl rfl rfl (by repeat (first | exact Uh | apply Ut)) (vals_put (k := a) (by omega) (by omega)) (hk undef _ ⟨QFs.nil, ?_⟩)
  refine Dp 14 hok rfl (by kernel_rfl) (fun _ _ _ A h => R.indexAddr C rfl (A.w rfl rfl) (A.x rfl rfl) (A.x rfl rfl) runUnderlying28 sizeOf3 (by omega) (by omega) h) ?_; refine D.eP (i := 15) (dst := none) [] hok rfl (by kernel_rfl) (by kernel_rfl) (fun σr rest A hk => ?_)
  refine R.store C rfl (A.w rfl rfl) (A.x rfl rfl) (A.x rfl rfl) sizeOf3 rfl rfl rfl (by repeat (first | exact Uh | apply Ut)) (vals_put (k := pv) (by omega) (by simp; omega)) (hk undef _ ⟨QFs.nil, ?_⟩)
  refine D.done C hok (by kernel_rfl) ?_; refine Xr C rfl rfl ?_
  obtain ⟨d1, hd1e⟩ : ∃ d1, d1 = swp d a pv := ⟨_, rfl⟩
  have hd1 : d1.size = d.size := by rw [hd1e, swp_sz]
  have hd1v : (d.setIfInBounds a d[pv]!).setIfInBounds pv d[a]! = d1 := hd1e.symm
  rw [hd1v]
  refine R.mov C rfl rfl rfl ?_; refine R.int C rfl rfl rfl rfl (b_add (by omega) (by omega)) ?_; refine R.fixv (t := 27) (v' := .int .i64 ((a + 1 : Nat) : Int)) rfl (by rfl) ?_; refine R.mov C rfl rfl rfl ?_; refine R.int C rfl rfl rfl rfl (b_sub (by omega) (by omega)) ?_; refine R.fixv (t := 29) (v' := .int .i64 ((b - 1 : Nat) : Int)) rfl (by (congr 1; omega)) ?_; refine R.asg C rfl rfl rfl ?_; refine Ad C rfl rfl rfl ?_; refine Xs C ?_; refine X.block C.1 ?_; refine X.loopB (ι := Nat) C.1 (fun i => a < i ∧ i ≤ (b - 1) + 1 ∧ (a + 1) ≤ i ∧ scanUp (fun x => ltInt x d1[a]!) d1 (b - 1) i = scanUp (fun x => ltInt x d1[a]!) d1 (b - 1) (a + 1)) (fun i => [(0, .slice (some ⟨p, 0, none⟩) d.size cap), (1, .int .i64 (a : Int)), (10, .int .i64 ((i : Nat) : Int)), (11, .int .i64 (((b - 1) : Nat) : Int))])
    (fun _ => ⟨ro, (p, .cells (vals d1 ++ sp).toArray 3 (0, 0)) :: tail⟩) (fun i => (b - 1) + 1 - i) ((a + 1)) (fun i => a < i ∧ i ≤ (b - 1) + 1 ∧ (a + 1) ≤ i ∧ i = scanUp (fun x => ltInt x d1[a]!) d1 (b - 1) (a + 1)) ⟨by omega, by omega, by omega, rfl⟩ rfl ⟨rfl, rfl, rfl, rfl, trivial⟩ (fun i1 hi1 => ?_) fun i1 hi1 hnx hex => ?_
  · obtain ⟨i1a, i1b, i1c, i1d⟩ := hi1
    refine Xs C ?_; refine X.block C.1 ?_; refine X.loopB (ι := Nat) C.1 (fun j => j < b ∧ i1 ≤ j + 1 ∧ j ≤ (b - 1) ∧ scanDown (fun x => !ltInt x d1[a]!) d1 i1 j = scanDown (fun x => !ltInt x d1[a]!) d1 i1 (b - 1)) (fun j => [(0, .slice (some ⟨p, 0, none⟩) d.size cap), (1, .int .i64 (a : Int)), (10, .int .i64 ((i1 : Nat) : Int)), (11, .int .i64 ((j : Nat) : Int))])
      (fun _ => ⟨ro, (p, .cells (vals d1 ++ sp).toArray 3 (0, 0)) :: tail⟩) (fun j => j) ((b - 1)) (fun j => j < b ∧ i1 ≤ j + 1 ∧ j ≤ (b - 1) ∧ j = scanDown (fun x => !ltInt x d1[a]!) d1 i1 (b - 1)) ⟨by omega, by omega, by omega, rfl⟩ rfl ⟨rfl, rfl, rfl, rfl, trivial⟩ (fun j2 hj2 => ?_) fun j2 hj2 hnx hex => ?_
    · obtain ⟨j2a, j2b, j2c, j2d⟩ := hj2
      refine Xs C ?_; refine Xr C rfl rfl ?_; refine R.mov C rfl rfl rfl ?_; refine R.mov C rfl rfl rfl ?_; refine R.int C rfl rfl rfl rfl b_gtr ?_; refine R.done C ?_; refine X.cond C.1 rfl (fun hgt => ?_) (fun hgt => ?_)
      · have hgt := hgt
        simp only [decide_eq_true_eq] at hgt
        rw [part_now hd1e i1d j2d (by omega)] at hret
        refine Xs C ?_; refine X.regionD C (by kernel_rfl) (by kernel_rfl) (by kernel_rfl) fun hok => ?_; refine Dm C 0 hok rfl (by kernel_rfl) rfl rfl rfl rfl ?_; refine Dm C 1 hok rfl (by kernel_rfl) rfl rfl rfl rfl ?_; refine Dm C 2 hok rfl (by kernel_rfl) rfl rfl rfl rfl ?_; refine Dm C 3 hok rfl (by kernel_rfl) rfl rfl rfl rfl ?_; refine Dm C 4 hok rfl (by kernel_rfl) rfl rfl rfl rfl ?_; refine Dm C 5 hok rfl (by kernel_rfl) rfl rfl rfl rfl ?_; refine Dp 6 hok rfl (by kernel_rfl) (fun _ _ _ A h => R.indexAddr C rfl (A.w rfl rfl) (A.x rfl rfl) (A.x rfl rfl) runUnderlying28 sizeOf3 (by omega) (by omega) h) ?_; refine Dl 7 hok rfl (by kernel_rfl) (fun _ _ A h => R.loadOne C rfl (A.w rfl rfl) (A.x rfl rfl) isAgg3 (by repeat (first | exact Mh | apply Mt)) (vals_at (k := a) (by omega) (by omega)) h) ?_; refine Dm C 8 hok rfl (by kernel_rfl) rfl rfl rfl rfl ?_; refine Dm C 9 hok rfl (by kernel_rfl) rfl rfl rfl rfl ?_; refine Dp 10 hok rfl (by kernel_rfl) (fun _ _ _ A h => R.indexAddr C rfl (A.w rfl rfl) (A.x rfl rfl) (A.x rfl rfl) runUnderlying28 sizeOf3 (by omega) (by omega) h) ?_; refine Dl 11 hok rfl (by kernel_rfl) (fun _ _ A h => R.loadOne C rfl (A.w rfl rfl) (A.x rfl rfl) isAgg3 (by repeat (first | exact Mh | apply Mt)) (vals_at (k := j2) (by omega) (by omega)) h) ?_; refine Dp 12 hok rfl (by kernel_rfl) (fun _ _ _ A h => R.indexAddr C rfl (A.w rfl rfl) (A.x rfl rfl) (A.x rfl rfl) runUnderlying28 sizeOf3 (by omega) (by omega) h) ?_; refine D.eP (i := 13) (dst := none) [false, false] hok rfl (by kernel_rfl) (by kernel_rfl) (fun σr rest A hk => ?_)
        refine R.store C rfl (A.w rfl rfl) (A.x rfl rfl) (A.x rfl rfl) sizeOf3 rfl rfl rfl (by repeat (first | exact Uh | apply Ut)) (vals_put (k := j2) (by omega) (by omega)) (hk undef _ ⟨QFs.nil, ?_⟩)
        refine Dp 14 hok rfl (by kernel_rfl) (fun _ _ _ A h => R.indexAddr C rfl (A.w rfl rfl) (A.x rfl rfl) (A.x rfl rfl) runUnderlying28 sizeOf3 (by omega) (by omega) h) ?_; refine D.eP (i := 15) (dst := none) [] hok rfl (by kernel_rfl) (by kernel_rfl) (fun σr rest A hk => ?_)
        refine R.store C rfl (A.w rfl rfl) (A.x rfl rfl) (A.x rfl rfl) sizeOf3 rfl rfl rfl (by repeat (first | exact Uh | apply Ut)) (vals_put (k := a) (by omega) (by simp; omega)) (hk undef _ ⟨QFs.nil, ?_⟩)
        refine D.done C hok (by kernel_rfl) ?_; refine Xr C rfl rfl ?_; refine R.mov C rfl rfl rfl ?_; refine R.asg C rfl rfl rfl ?_; refine Ad C rfl rfl rfl ?_; refine X.ret C rfl rfl func192 rfl (by exact .tmp rfl (.tmp rfl .nil)) ?_
        exact hret _ _ rfl rfl
      · have hgt := hgt
        simp only [decide_eq_false_iff_not] at hgt
        have hne := scan_ne (fun _ => rfl) i1d j2d (by omega) (by omega)
        rw [part_later hd1e i1d j2d (by omega)] at hret
        refine X.skip C.1 ?_; refine Xs C ?_; refine X.regionD C (by kernel_rfl) (by kernel_rfl) (by kernel_rfl) fun hok => ?_; refine Dm C 0 hok rfl (by kernel_rfl) rfl rfl rfl rfl ?_; refine Dm C 1 hok rfl (by kernel_rfl) rfl rfl rfl rfl ?_; refine Dm C 2 hok rfl (by kernel_rfl) rfl rfl rfl rfl ?_; refine Dm C 3 hok rfl (by kernel_rfl) rfl rfl rfl rfl ?_; refine Dm C 4 hok rfl (by kernel_rfl) rfl rfl rfl rfl ?_; refine Dm C 5 hok rfl (by kernel_rfl) rfl rfl rfl rfl ?_; refine Dp 6 hok rfl (by kernel_rfl) (fun _ _ _ A h => R.indexAddr C rfl (A.w rfl rfl) (A.x rfl rfl) (A.x rfl rfl) runUnderlying28 sizeOf3 (by omega) (by omega) h) ?_; refine Dl 7 hok rfl (by kernel_rfl) (fun _ _ A h => R.loadOne C rfl (A.w rfl rfl) (A.x rfl rfl) isAgg3 (by repeat (first | exact Mh | apply Mt)) (vals_at (k := j2) (by omega) (by omega)) h) ?_; refine Dm C 8 hok rfl (by kernel_rfl) rfl rfl rfl rfl ?_; refine Dm C 9 hok rfl (by kernel_rfl) rfl rfl rfl rfl ?_; refine Dp 10 hok rfl (by kernel_rfl) (fun _ _ _ A h => R.indexAddr C rfl (A.w rfl rfl) (A.x rfl rfl) (A.x rfl rfl) runUnderlying28 sizeOf3 (by omega) (by omega) h) ?_; refine Dl 11 hok rfl (by kernel_rfl) (fun _ _ A h => R.loadOne C rfl (A.w rfl rfl) (A.x rfl rfl) isAgg3 (by repeat (first | exact Mh | apply Mt)) (vals_at (k := i1) (by omega) (by omega)) h) ?_; refine Dp 12 hok rfl (by kernel_rfl) (fun _ _ _ A h => R.indexAddr C rfl (A.w rfl rfl) (A.x rfl rfl) (A.x rfl rfl) runUnderlying28 sizeOf3 (by omega) (by omega) h) ?_; refine D.eP (i := 13) (dst := none) [false, false] hok rfl (by kernel_rfl) (by kernel_rfl) (fun σr rest A hk => ?_)
        refine R.store C rfl (A.w rfl rfl) (A.x rfl rfl) (A.x rfl rfl) sizeOf3 rfl rfl rfl (by repeat (first | exact Uh | apply Ut)) (vals_put (k := i1) (by omega) (by omega)) (hk undef _ ⟨QFs.nil, ?_⟩)
        refine Dp 14 hok rfl (by kernel_rfl) (fun _ _ _ A h => R.indexAddr C rfl (A.w rfl rfl) (A.x rfl rfl) (A.x rfl rfl) runUnderlying28 sizeOf3 (by omega) (by omega) h) ?_; refine D.eP (i := 15) (dst := none) [] hok rfl (by kernel_rfl) (by kernel_rfl) (fun σr rest A hk => ?_)
        refine R.store C rfl (A.w rfl rfl) (A.x rfl rfl) (A.x rfl rfl) sizeOf3 rfl rfl rfl (by repeat (first | exact Uh | apply Ut)) (vals_put (k := j2) (by omega) (by simp; omega)) (hk undef _ ⟨QFs.nil, ?_⟩)
        refine D.done C hok (by kernel_rfl) ?_; refine Xr C rfl rfl ?_; refine R.mov C rfl rfl rfl ?_; refine R.int C rfl rfl rfl rfl (b_add (by omega) (by omega)) ?_; refine R.fixv (t := 96) (v' := .int .i64 ((i1 + 1 : Nat) : Int)) rfl (by rfl) ?_; refine Ad C rfl rfl rfl ?_; refine Xr C rfl rfl ?_; refine R.mov C rfl rfl rfl ?_; refine R.int C rfl rfl rfl rfl (b_sub (by omega) (by omega)) ?_; refine R.fixv (t := 98) (v' := .int .i64 ((j2 - 1 : Nat) : Int)) rfl (by (congr 1; omega)) ?_; refine Ad C rfl rfl rfl ?_; refine Xs C ?_; refine X.block C.1 ?_; refine X.loopB (ι := Nat × Nat × Array Int) C.1 (fun s => a < s.1 ∧ s.1 ≤ s.2.1 + 1 ∧ s.2.1 < b ∧ s.2.2.size = d.size ∧ partLoop ltInt a s.1 s.2.1 s.2.2 = partLoop ltInt a (i1 + 1) (j2 - 1) (swp d1 i1 j2)) (fun s => [(0, .slice (some ⟨p, 0, none⟩) d.size cap), (1, .int .i64 (a : Int)), (10, .int .i64 ((s.1 : Nat) : Int)), (11, .int .i64 ((s.2.1 : Nat) : Int))])
          (fun s => ⟨ro, (p, .cells (vals s.2.2 ++ sp).toArray 3 (0, 0)) :: tail⟩) (fun s => s.2.1 + 1 - s.1) (i1 + 1, j2 - 1, swp d1 i1 j2) (fun s => s.2.1 < b ∧ s.2.2.size = d.size ∧ a ≤ s.2.1 ∧ partLoop ltInt a (i1 + 1) (j2 - 1) (swp d1 i1 j2) = (s.2.1, s.2.2)) ⟨by show a < i1 + 1; omega, by show i1 + 1 ≤ j2 - 1 + 1; omega, by show j2 - 1 < b; omega, by rw [swp_sz]; exact hd1, rfl⟩ rfl ⟨rfl, rfl, rfl, rfl, trivial⟩ (fun s hs => ?_) fun s hs hnxM hexM => ?_
        · obtain ⟨i3, j3, d2⟩ := s
          obtain ⟨h1, h2, h4, h3⟩ := hs
          simp only at h1 h2 h3 h4 ⊢
          rw [h3] at hret
          refine Xs C ?_; refine X.regionD C (by kernel_rfl) (by kernel_rfl) (by kernel_rfl) fun hok => ?_; refine Dm C 0 hok rfl (by kernel_rfl) rfl rfl rfl rfl ?_; refine Dm C 1 hok rfl (by kernel_rfl) rfl rfl rfl rfl ?_; refine Dm C 2 hok rfl (by kernel_rfl) rfl rfl rfl rfl ?_; refine Dm C 3 hok rfl (by kernel_rfl) rfl rfl rfl rfl ?_; refine Dm C 4 hok rfl (by kernel_rfl) rfl rfl rfl rfl ?_; refine Dm C 5 hok rfl (by kernel_rfl) rfl rfl rfl rfl ?_; refine Dp 6 hok rfl (by kernel_rfl) (fun _ _ _ A h => R.indexAddr C rfl (A.w rfl rfl) (A.x rfl rfl) (A.x rfl rfl) runUnderlying28 sizeOf3 (by omega) (by omega) h) ?_; refine Dl 7 hok rfl (by kernel_rfl) (fun _ _ A h => R.loadOne C rfl (A.w rfl rfl) (A.x rfl rfl) isAgg3 (by repeat (first | exact Mh | apply Mt)) (vals_at (k := a) (by omega) (by omega)) h) ?_; refine Dm C 8 hok rfl (by kernel_rfl) rfl rfl rfl rfl ?_; refine Dm C 9 hok rfl (by kernel_rfl) rfl rfl rfl rfl ?_; refine Dp 10 hok rfl (by kernel_rfl) (fun _ _ _ A h => R.indexAddr C rfl (A.w rfl rfl) (A.x rfl rfl) (A.x rfl rfl) runUnderlying28 sizeOf3 (by omega) (by omega) h) ?_; refine Dl 11 hok rfl (by kernel_rfl) (fun _ _ A h => R.loadOne C rfl (A.w rfl rfl) (A.x rfl rfl) isAgg3 (by repeat (first | exact Mh | apply Mt)) (vals_at (k := j3) (by omega) (by omega)) h) ?_; refine Dp 12 hok rfl (by kernel_rfl) (fun _ _ _ A h => R.indexAddr C rfl (A.w rfl rfl) (A.x rfl rfl) (A.x rfl rfl) runUnderlying28 sizeOf3 (by omega) (by omega) h) ?_; refine D.eP (i := 13) (dst := none) [false, false] hok rfl (by kernel_rfl) (by kernel_rfl) (fun σr rest A hk => ?_)
          refine R.store C rfl (A.w rfl rfl) (A.x rfl rfl) (A.x rfl rfl) sizeOf3 rfl rfl rfl (by repeat (first | exact Uh | apply Ut)) (vals_put (k := j3) (by omega) (by omega)) (hk undef _ ⟨QFs.nil, ?_⟩)
          refine Dp 14 hok rfl (by kernel_rfl) (fun _ _ _ A h => R.indexAddr C rfl (A.w rfl rfl) (A.x rfl rfl) (A.x rfl rfl) runUnderlying28 sizeOf3 (by omega) (by omega) h) ?_; refine D.eP (i := 15) (dst := none) [] hok rfl (by kernel_rfl) (by kernel_rfl) (fun σr rest A hk => ?_)
          refine R.store C rfl (A.w rfl rfl) (A.x rfl rfl) (A.x rfl rfl) sizeOf3 rfl rfl rfl (by repeat (first | exact Uh | apply Ut)) (vals_put (k := a) (by omega) (by simp; omega)) (hk undef _ ⟨QFs.nil, ?_⟩)
          refine D.done C hok (by kernel_rfl) ?_; refine Xr C rfl rfl ?_; refine R.mov C rfl rfl rfl ?_; refine R.asg C rfl rfl rfl ?_; refine Ad C rfl rfl rfl ?_; refine X.ret C rfl rfl func192 rfl (by exact .tmp rfl (.tmp rfl .nil)) ?_
          exact hret _ _ rfl rfl
        · obtain ⟨i3, j3, d2⟩ := s
          obtain ⟨h1, h3, h4, h2, h5⟩ := hs
          simp only at h1 h2 h3 h4 h5 hnxM hexM ⊢
          refine X.block C.1 ?_; refine Xs C ?_; refine X.block C.1 ?_; refine X.loopB (ι := Nat) C.1 (fun i => a < i ∧ i ≤ j3 + 1 ∧ i3 ≤ i ∧ scanUp (fun x => ltInt x d2[a]!) d2 j3 i = scanUp (fun x => ltInt x d2[a]!) d2 j3 i3) (fun i => [(0, .slice (some ⟨p, 0, none⟩) d.size cap), (1, .int .i64 (a : Int)), (10, .int .i64 ((i : Nat) : Int)), (11, .int .i64 ((j3 : Nat) : Int))])
            (fun _ => ⟨ro, (p, .cells (vals d2 ++ sp).toArray 3 (0, 0)) :: tail⟩) (fun i => j3 + 1 - i) (i3) (fun i => a < i ∧ i ≤ j3 + 1 ∧ i3 ≤ i ∧ i = scanUp (fun x => ltInt x d2[a]!) d2 j3 i3) ⟨by omega, by omega, by omega, rfl⟩ rfl ⟨rfl, rfl, rfl, rfl, trivial⟩ (fun i4 hi4 => ?_) fun i4 hi4 hnx hex => ?_
          · obtain ⟨i4a, i4b, i4c, i4d⟩ := hi4
            refine Xs C ?_; refine X.block C.1 ?_; refine X.loopB (ι := Nat) C.1 (fun j => j < b ∧ i4 ≤ j + 1 ∧ j ≤ j3 ∧ scanDown (fun x => !ltInt x d2[a]!) d2 i4 j = scanDown (fun x => !ltInt x d2[a]!) d2 i4 j3) (fun j => [(0, .slice (some ⟨p, 0, none⟩) d.size cap), (1, .int .i64 (a : Int)), (10, .int .i64 ((i4 : Nat) : Int)), (11, .int .i64 ((j : Nat) : Int))])
              (fun _ => ⟨ro, (p, .cells (vals d2 ++ sp).toArray 3 (0, 0)) :: tail⟩) (fun j => j) (j3) (fun j => j < b ∧ i4 ≤ j + 1 ∧ j ≤ j3 ∧ j = scanDown (fun x => !ltInt x d2[a]!) d2 i4 j3) ⟨by omega, by omega, by omega, rfl⟩ rfl ⟨rfl, rfl, rfl, rfl, trivial⟩ (fun j5 hj5 => ?_) fun j5 hj5 hnx hex => ?_
            · obtain ⟨j5a, j5b, j5c, j5d⟩ := hj5
              refine Xs C ?_; refine Xr C rfl rfl ?_; refine R.mov C rfl rfl rfl ?_; refine R.mov C rfl rfl rfl ?_; refine R.int C rfl rfl rfl rfl b_gtr ?_; refine R.done C ?_; refine X.cond C.1 rfl (fun hgt => ?_) (fun hgt => ?_)
              · have hgt := hgt
                simp only [decide_eq_true_eq] at hgt
                refine X.exit C.1 rfl ?_; refine X.weaken ?_ (hexM (i4, j5, d2) ⟨by show j5 < b; omega, h2, by show a ≤ j5; omega, by rw [← h5, Go.Sort.partLoop_eq, ← i4d, ← j5d, if_pos (by omega)]⟩)
                exact ⟨rfl, rfl, rfl, rfl, trivial⟩
              · have hgt := hgt
                simp only [decide_eq_false_iff_not] at hgt
                have hne := scan_ne (fun _ => rfl) i4d j5d (by omega) (by omega)
                refine X.skip C.1 ?_; refine Xs C ?_; refine X.regionD C (by kernel_rfl) (by kernel_rfl) (by kernel_rfl) fun hok => ?_; refine Dm C 0 hok rfl (by kernel_rfl) rfl rfl rfl rfl ?_; refine Dm C 1 hok rfl (by kernel_rfl) rfl rfl rfl rfl ?_; refine Dm C 2 hok rfl (by kernel_rfl) rfl rfl rfl rfl ?_; refine Dm C 3 hok rfl (by kernel_rfl) rfl rfl rfl rfl ?_; refine Dm C 4 hok rfl (by kernel_rfl) rfl rfl rfl rfl ?_; refine Dm C 5 hok rfl (by kernel_rfl) rfl rfl rfl rfl ?_; refine Dp 6 hok rfl (by kernel_rfl) (fun _ _ _ A h => R.indexAddr C rfl (A.w rfl rfl) (A.x rfl rfl) (A.x rfl rfl) runUnderlying28 sizeOf3 (by omega) (by omega) h) ?_; refine Dl 7 hok rfl (by kernel_rfl) (fun _ _ A h => R.loadOne C rfl (A.w rfl rfl) (A.x rfl rfl) isAgg3 (by repeat (first | exact Mh | apply Mt)) (vals_at (k := j5) (by omega) (by omega)) h) ?_; refine Dm C 8 hok rfl (by kernel_rfl) rfl rfl rfl rfl ?_; refine Dm C 9 hok rfl (by kernel_rfl) rfl rfl rfl rfl ?_; refine Dp 10 hok rfl (by kernel_rfl) (fun _ _ _ A h => R.indexAddr C rfl (A.w rfl rfl) (A.x rfl rfl) (A.x rfl rfl) runUnderlying28 sizeOf3 (by omega) (by omega) h) ?_; refine Dl 11 hok rfl (by kernel_rfl) (fun _ _ A h => R.loadOne C rfl (A.w rfl rfl) (A.x rfl rfl) isAgg3 (by repeat (first | exact Mh | apply Mt)) (vals_at (k := i4) (by omega) (by omega)) h) ?_; refine Dp 12 hok rfl (by kernel_rfl) (fun _ _ _ A h => R.indexAddr C rfl (A.w rfl rfl) (A.x rfl rfl) (A.x rfl rfl) runUnderlying28 sizeOf3 (by omega) (by omega) h) ?_; refine D.eP (i := 13) (dst := none) [false, false] hok rfl (by kernel_rfl) (by kernel_rfl) (fun σr rest A hk => ?_)
                refine R.store C rfl (A.w rfl rfl) (A.x rfl rfl) (A.x rfl rfl) sizeOf3 rfl rfl rfl (by repeat (first | exact Uh | apply Ut)) (vals_put (k := i4) (by omega) (by omega)) (hk undef _ ⟨QFs.nil, ?_⟩)
                refine Dp 14 hok rfl (by kernel_rfl) (fun _ _ _ A h => R.indexAddr C rfl (A.w rfl rfl) (A.x rfl rfl) (A.x rfl rfl) runUnderlying28 sizeOf3 (by omega) (by omega) h) ?_; refine D.eP (i := 15) (dst := none) [] hok rfl (by kernel_rfl) (by kernel_rfl) (fun σr rest A hk => ?_)
                refine R.store C rfl (A.w rfl rfl) (A.x rfl rfl) (A.x rfl rfl) sizeOf3 rfl rfl rfl (by repeat (first | exact Uh | apply Ut)) (vals_put (k := j5) (by omega) (by simp; omega)) (hk undef _ ⟨QFs.nil, ?_⟩)
                refine D.done C hok (by kernel_rfl) ?_; refine Xr C rfl rfl ?_; refine R.mov C rfl rfl rfl ?_; refine R.int C rfl rfl rfl rfl (b_add (by omega) (by omega)) ?_; refine Ad C rfl rfl rfl ?_; refine X.region C rfl rfl ?_; refine R.mov C rfl rfl rfl ?_; refine R.int C rfl rfl rfl rfl (b_sub (by omega) (by omega)) ?_; refine Ad C rfl rfl rfl ?_; refine X.inBlock C.1 ?_; refine X.weaken ?_ (hnxM (i4 + 1, j5 - 1, swp d2 i4 j5) ⟨by show a < i4 + 1; omega, by show i4 + 1 ≤ j5 - 1 + 1; omega, by show j5 - 1 < b; omega, by rw [swp_sz]; exact h2, by rw [← h5, Go.Sort.partLoop_eq (d := d2), ← i4d, ← j5d, if_neg (by omega)]⟩ (by show j5 - 1 + 1 - (i4 + 1) < j3 + 1 - i3; omega))
                exact ⟨rfl, rfl, by simp [look], congrArg (fun z => some (Value.int .i64 z)) (by show (j5 : Int) - 1 = ((j5 - 1 : Nat) : Int); omega), trivial⟩
            · obtain ⟨j5a, j5b, j5c, j5d⟩ := hj5
              refine Xs C ?_; refine Xs C ?_; refine X.regionD C (by kernel_rfl) (by kernel_rfl) (by kernel_rfl) fun hok => ?_; refine Dm C 0 hok rfl (by kernel_rfl) rfl rfl rfl rfl ?_; refine Dm C 1 hok rfl (by kernel_rfl) rfl rfl rfl rfl ?_; refine Di C 2 hok rfl (by kernel_rfl) rfl rfl rfl rfl rfl rfl b_leq ?_; refine Dm C 3 hok rfl (by kernel_rfl) rfl rfl rfl rfl ?_; refine D.fix (t := 118) rfl (fun hg => ?_) (fun hg => ?_)
              · have hg := hg
                simp only [decide_eq_true_eq] at hg
                refine Dm C 4 hok rfl (by kernel_rfl) rfl rfl rfl rfl ?_; refine Dm C 5 hok rfl (by kernel_rfl) rfl rfl rfl rfl ?_; refine Dp 6 hok rfl (by kernel_rfl) (fun _ _ _ A h => R.indexAddr C rfl (A.w rfl rfl) (A.x rfl rfl) (A.x rfl rfl) runUnderlying28 sizeOf3 (by omega) (by omega) h) ?_; refine Dl 7 hok rfl (by kernel_rfl) (fun _ _ A h => R.loadOne C rfl (A.w rfl rfl) (A.x rfl rfl) isAgg3 (by repeat (first | exact Mh | apply Mt)) (vals_at (k := j5) (by omega) (by omega)) h) ?_; refine Dm C 8 hok rfl (by kernel_rfl) rfl rfl rfl rfl ?_; refine Dm C 9 hok rfl (by kernel_rfl) rfl rfl rfl rfl ?_; refine Dp 10 hok rfl (by kernel_rfl) (fun _ _ _ A h => R.indexAddr C rfl (A.w rfl rfl) (A.x rfl rfl) (A.x rfl rfl) runUnderlying28 sizeOf3 (by omega) (by omega) h) ?_; refine Dl 11 hok rfl (by kernel_rfl) (fun _ _ A h => R.loadOne C rfl (A.w rfl rfl) (A.x rfl rfl) isAgg3 (by repeat (first | exact Mh | apply Mt)) (vals_at (k := a) (by omega) (by omega)) h) ?_; refine D.eP (i := 12) (dst := (some 127)) [false, false] hok rfl (by kernel_rfl) (by kernel_rfl) (fun σr rest A hk => ?_)
                refine R.callP C rfl (A.w rfl rfl) (A.x rfl rfl) (A.s rfl rfl) (less_c hJ _ _ _) (hk _ _ ⟨QFs.nil, ?_⟩)
                refine Dp 13 hok rfl (by kernel_rfl) (fun _ _ _ A h => R.not C rfl (A.w rfl rfl) (A.x rfl rfl) h) ?_; refine Dp 14 hok rfl (by kernel_rfl) (fun _ _ _ A h => R.pickT C rfl (A.w rfl rfl) (A.x rfl rfl) (A.x rfl rfl) h) ?_; refine D.done C hok (by kernel_rfl) ?_; refine X.cond C.1 rfl (fun hl => ?_) (fun hl => ?_)
                · have hl := hl
                  refine X.skip C.1 ?_; refine X.block C.1 ?_; refine X.region C rfl rfl ?_; refine R.mov C rfl rfl rfl ?_; refine R.int C rfl rfl rfl rfl (b_sub (by omega) (by omega)) ?_; refine Ad C rfl rfl rfl ?_; refine X.inBlock C.1 ?_; refine X.weaken ?_ (hnx (j5 - 1) ⟨by omega, by omega, by omega, ?_⟩ (by omega))
                  · exact ⟨rfl, rfl, rfl, congrArg (fun z => some (Value.int .i64 z)) (by omega), trivial⟩
                  · exact (scanDown_go (p := (fun x => !ltInt x d2[a]!)) (by omega) (by omega) hl).symm.trans j5d
                · have hl := hl
                  refine X.exit C.1 rfl ?_; refine X.weaken ?_ (hex j5 ⟨by omega, by omega, by omega, (scanDown_stop (p := (fun x => !ltInt x d2[a]!)) (.inr hl)).symm.trans j5d⟩)
                  exact ⟨rfl, rfl, rfl, rfl, trivial⟩
              · have hg := hg
                simp only [decide_eq_false_iff_not] at hg
                refine Dp 4 (v := undef) hok rfl (by kernel_rfl) (fun _ _ _ A h => R.pass C rfl (A.w rfl rfl) h) ?_; refine Dp 5 (v := undef) hok rfl (by kernel_rfl) (fun _ _ _ A h => R.pass C rfl (A.w rfl rfl) h) ?_; refine Dp 6 (v := undef) hok rfl (by kernel_rfl) (fun _ _ _ A h => R.pass C rfl (A.w rfl rfl) h) ?_; refine Dp 7 (v := undef) hok rfl (by kernel_rfl) (fun _ _ _ A h => R.pass C rfl (A.w rfl rfl) h) ?_; refine Dp 8 (v := undef) hok rfl (by kernel_rfl) (fun _ _ _ A h => R.pass C rfl (A.w rfl rfl) h) ?_; refine Dp 9 (v := undef) hok rfl (by kernel_rfl) (fun _ _ _ A h => R.pass C rfl (A.w rfl rfl) h) ?_; refine Dp 10 (v := undef) hok rfl (by kernel_rfl) (fun _ _ _ A h => R.pass C rfl (A.w rfl rfl) h) ?_; refine Dp 11 (v := undef) hok rfl (by kernel_rfl) (fun _ _ _ A h => R.pass C rfl (A.w rfl rfl) h) ?_; refine Dp 12 (v := undef) hok rfl (by kernel_rfl) (fun _ _ _ A h => R.pass C rfl (A.w rfl rfl) h) ?_; refine Dp 13 (v := undef) hok rfl (by kernel_rfl) (fun _ _ _ A h => R.pass C rfl (A.w rfl rfl) h) ?_; refine Dp 14 hok rfl (by kernel_rfl) (fun _ _ _ A h => R.pickF C rfl (A.w rfl rfl) (A.x rfl rfl) (A.x rfl rfl) h) ?_; refine D.done C hok (by kernel_rfl) ?_; refine X.cond C.1 rfl (fun h => nomatch h) (fun _ => ?_)
                refine X.exit C.1 rfl ?_; refine X.weaken ?_ (hex j5 ⟨by omega, by omega, by omega, (scanDown_stop (p := (fun x => !ltInt x d2[a]!)) (.inl (by omega))).symm.trans j5d⟩)
                exact ⟨rfl, rfl, rfl, rfl, trivial⟩
          · obtain ⟨i4a, i4b, i4c, i4d⟩ := hi4
            refine Xs C ?_; refine Xs C ?_; refine X.regionD C (by kernel_rfl) (by kernel_rfl) (by kernel_rfl) fun hok => ?_; refine Dm C 0 hok rfl (by kernel_rfl) rfl rfl rfl rfl ?_; refine Dm C 1 hok rfl (by kernel_rfl) rfl rfl rfl rfl ?_; refine Di C 2 hok rfl (by kernel_rfl) rfl rfl rfl rfl rfl rfl b_leq ?_; refine Dm C 3 hok rfl (by kernel_rfl) rfl rfl rfl rfl ?_; refine D.fix (t := 102) rfl (fun hg => ?_) (fun hg => ?_)
            · have hg := hg
              simp only [decide_eq_true_eq] at hg
              refine Dm C 4 hok rfl (by kernel_rfl) rfl rfl rfl rfl ?_; refine Dm C 5 hok rfl (by kernel_rfl) rfl rfl rfl rfl ?_; refine Dp 6 hok rfl (by kernel_rfl) (fun _ _ _ A h => R.indexAddr C rfl (A.w rfl rfl) (A.x rfl rfl) (A.x rfl rfl) runUnderlying28 sizeOf3 (by omega) (by omega) h) ?_; refine Dl 7 hok rfl (by kernel_rfl) (fun _ _ A h => R.loadOne C rfl (A.w rfl rfl) (A.x rfl rfl) isAgg3 (by repeat (first | exact Mh | apply Mt)) (vals_at (k := i4) (by omega) (by omega)) h) ?_; refine Dm C 8 hok rfl (by kernel_rfl) rfl rfl rfl rfl ?_; refine Dm C 9 hok rfl (by kernel_rfl) rfl rfl rfl rfl ?_; refine Dp 10 hok rfl (by kernel_rfl) (fun _ _ _ A h => R.indexAddr C rfl (A.w rfl rfl) (A.x rfl rfl) (A.x rfl rfl) runUnderlying28 sizeOf3 (by omega) (by omega) h) ?_; refine Dl 11 hok rfl (by kernel_rfl) (fun _ _ A h => R.loadOne C rfl (A.w rfl rfl) (A.x rfl rfl) isAgg3 (by repeat (first | exact Mh | apply Mt)) (vals_at (k := a) (by omega) (by omega)) h) ?_; refine D.eP (i := 12) (dst := (some 111)) [false, false] hok rfl (by kernel_rfl) (by kernel_rfl) (fun σr rest A hk => ?_)
              refine R.callP C rfl (A.w rfl rfl) (A.x rfl rfl) (A.s rfl rfl) (less_c hJ _ _ _) (hk _ _ ⟨QFs.nil, ?_⟩)
              refine Dp 13 hok rfl (by kernel_rfl) (fun _ _ _ A h => R.pickT C rfl (A.w rfl rfl) (A.x rfl rfl) (A.x rfl rfl) h) ?_; refine D.done C hok (by kernel_rfl) ?_; refine X.cond C.1 rfl (fun hl => ?_) (fun hl => ?_)
              · have hl := hl
                refine X.skip C.1 ?_; refine X.block C.1 ?_; refine X.region C rfl rfl ?_; refine R.mov C rfl rfl rfl ?_; refine R.int C rfl rfl rfl rfl (b_add (by omega) (by omega)) ?_; refine Ad C rfl rfl rfl ?_; refine X.inBlock C.1 ?_; refine X.weaken ?_ (hnx (i4 + 1) ⟨by omega, by omega, by omega, ?_⟩ (by omega))
                · exact ⟨rfl, rfl, by simp [look], rfl, trivial⟩
                · exact (scanUp_go (p := (fun x => ltInt x d2[a]!)) (by omega) hl).symm.trans i4d
              · have hl := hl
                refine X.exit C.1 rfl ?_; refine X.weaken ?_ (hex i4 ⟨by omega, by omega, by omega, (scanUp_stop (p := (fun x => ltInt x d2[a]!)) (.inr hl)).symm.trans i4d⟩)
                exact ⟨rfl, rfl, rfl, rfl, trivial⟩
            · have hg := hg
              simp only [decide_eq_false_iff_not] at hg
              refine Dp 4 (v := undef) hok rfl (by kernel_rfl) (fun _ _ _ A h => R.pass C rfl (A.w rfl rfl) h) ?_; refine Dp 5 (v := undef) hok rfl (by kernel_rfl) (fun _ _ _ A h => R.pass C rfl (A.w rfl rfl) h) ?_; refine Dp 6 (v := undef) hok rfl (by kernel_rfl) (fun _ _ _ A h => R.pass C rfl (A.w rfl rfl) h) ?_; refine Dp 7 (v := undef) hok rfl (by kernel_rfl) (fun _ _ _ A h => R.pass C rfl (A.w rfl rfl) h) ?_; refine Dp 8 (v := undef) hok rfl (by kernel_rfl) (fun _ _ _ A h => R.pass C rfl (A.w rfl rfl) h) ?_; refine Dp 9 (v := undef) hok rfl (by kernel_rfl) (fun _ _ _ A h => R.pass C rfl (A.w rfl rfl) h) ?_; refine Dp 10 (v := undef) hok rfl (by kernel_rfl) (fun _ _ _ A h => R.pass C rfl (A.w rfl rfl) h) ?_; refine Dp 11 (v := undef) hok rfl (by kernel_rfl) (fun _ _ _ A h => R.pass C rfl (A.w rfl rfl) h) ?_; refine Dp 12 (v := undef) hok rfl (by kernel_rfl) (fun _ _ _ A h => R.pass C rfl (A.w rfl rfl) h) ?_; refine Dp 13 hok rfl (by kernel_rfl) (fun _ _ _ A h => R.pickF C rfl (A.w rfl rfl) (A.x rfl rfl) (A.x rfl rfl) h) ?_; refine D.done C hok (by kernel_rfl) ?_; refine X.cond C.1 rfl (fun h => nomatch h) (fun _ => ?_)
              refine X.exit C.1 rfl ?_; refine X.weaken ?_ (hex i4 ⟨by omega, by omega, by omega, (scanUp_stop (p := (fun x => ltInt x d2[a]!)) (.inl (by omega))).symm.trans i4d⟩)
              exact ⟨rfl, rfl, rfl, rfl, trivial⟩
    · obtain ⟨j2a, j2b, j2c, j2d⟩ := hj2
      refine Xs C ?_; refine Xs C ?_; refine X.regionD C (by kernel_rfl) (by kernel_rfl) (by kernel_rfl) fun hok => ?_; refine Dm C 0 hok rfl (by kernel_rfl) rfl rfl rfl rfl ?_; refine Dm C 1 hok rfl (by kernel_rfl) rfl rfl rfl rfl ?_; refine Di C 2 hok rfl (by kernel_rfl) rfl rfl rfl rfl rfl rfl b_leq ?_; refine Dm C 3 hok rfl (by kernel_rfl) rfl rfl rfl rfl ?_; refine D.fix (t := 49) rfl (fun hg => ?_) (fun hg => ?_)
      · have hg := hg
        simp only [decide_eq_true_eq] at hg
        refine Dm C 4 hok rfl (by kernel_rfl) rfl rfl rfl rfl ?_; refine Dm C 5 hok rfl (by kernel_rfl) rfl rfl rfl rfl ?_; refine Dp 6 hok rfl (by kernel_rfl) (fun _ _ _ A h => R.indexAddr C rfl (A.w rfl rfl) (A.x rfl rfl) (A.x rfl rfl) runUnderlying28 sizeOf3 (by omega) (by omega) h) ?_; refine Dl 7 hok rfl (by kernel_rfl) (fun _ _ A h => R.loadOne C rfl (A.w rfl rfl) (A.x rfl rfl) isAgg3 (by repeat (first | exact Mh | apply Mt)) (vals_at (k := j2) (by omega) (by omega)) h) ?_; refine Dm C 8 hok rfl (by kernel_rfl) rfl rfl rfl rfl ?_; refine Dm C 9 hok rfl (by kernel_rfl) rfl rfl rfl rfl ?_; refine Dp 10 hok rfl (by kernel_rfl) (fun _ _ _ A h => R.indexAddr C rfl (A.w rfl rfl) (A.x rfl rfl) (A.x rfl rfl) runUnderlying28 sizeOf3 (by omega) (by omega) h) ?_; refine Dl 11 hok rfl (by kernel_rfl) (fun _ _ A h => R.loadOne C rfl (A.w rfl rfl) (A.x rfl rfl) isAgg3 (by repeat (first | exact Mh | apply Mt)) (vals_at (k := a) (by omega) (by omega)) h) ?_; refine D.eP (i := 12) (dst := (some 58)) [false, false] hok rfl (by kernel_rfl) (by kernel_rfl) (fun σr rest A hk => ?_)
        refine R.callP C rfl (A.w rfl rfl) (A.x rfl rfl) (A.s rfl rfl) (less_c hJ _ _ _) (hk _ _ ⟨QFs.nil, ?_⟩)
        refine Dp 13 hok rfl (by kernel_rfl) (fun _ _ _ A h => R.not C rfl (A.w rfl rfl) (A.x rfl rfl) h) ?_; refine Dp 14 hok rfl (by kernel_rfl) (fun _ _ _ A h => R.pickT C rfl (A.w rfl rfl) (A.x rfl rfl) (A.x rfl rfl) h) ?_; refine D.done C hok (by kernel_rfl) ?_; refine X.cond C.1 rfl (fun hl => ?_) (fun hl => ?_)
        · have hl := hl
          refine X.skip C.1 ?_; refine X.block C.1 ?_; refine X.region C rfl rfl ?_; refine R.mov C rfl rfl rfl ?_; refine R.int C rfl rfl rfl rfl (b_sub (by omega) (by omega)) ?_; refine Ad C rfl rfl rfl ?_; refine X.inBlock C.1 ?_; refine X.weaken ?_ (hnx (j2 - 1) ⟨by omega, by omega, by omega, ?_⟩ (by omega))
          · exact ⟨rfl, rfl, rfl, congrArg (fun z => some (Value.int .i64 z)) (by omega), trivial⟩
          · exact (scanDown_go (p := (fun x => !ltInt x d1[a]!)) (by omega) (by omega) hl).symm.trans j2d
        · have hl := hl
          refine X.exit C.1 rfl ?_; refine X.weaken ?_ (hex j2 ⟨by omega, by omega, by omega, (scanDown_stop (p := (fun x => !ltInt x d1[a]!)) (.inr hl)).symm.trans j2d⟩)
          exact ⟨rfl, rfl, rfl, rfl, trivial⟩
      · have hg := hg
        simp only [decide_eq_false_iff_not] at hg
        refine Dp 4 (v := undef) hok rfl (by kernel_rfl) (fun _ _ _ A h => R.pass C rfl (A.w rfl rfl) h) ?_; refine Dp 5 (v := undef) hok rfl (by kernel_rfl) (fun _ _ _ A h => R.pass C rfl (A.w rfl rfl) h) ?_; refine Dp 6 (v := undef) hok rfl (by kernel_rfl) (fun _ _ _ A h => R.pass C rfl (A.w rfl rfl) h) ?_; refine Dp 7 (v := undef) hok rfl (by kernel_rfl) (fun _ _ _ A h => R.pass C rfl (A.w rfl rfl) h) ?_; refine Dp 8 (v := undef) hok rfl (by kernel_rfl) (fun _ _ _ A h => R.pass C rfl (A.w rfl rfl) h) ?_; refine Dp 9 (v := undef) hok rfl (by kernel_rfl) (fun _ _ _ A h => R.pass C rfl (A.w rfl rfl) h) ?_; refine Dp 10 (v := undef) hok rfl (by kernel_rfl) (fun _ _ _ A h => R.pass C rfl (A.w rfl rfl) h) ?_; refine Dp 11 (v := undef) hok rfl (by kernel_rfl) (fun _ _ _ A h => R.pass C rfl (A.w rfl rfl) h) ?_; refine Dp 12 (v := undef) hok rfl (by kernel_rfl) (fun _ _ _ A h => R.pass C rfl (A.w rfl rfl) h) ?_; refine Dp 13 (v := undef) hok rfl (by kernel_rfl) (fun _ _ _ A h => R.pass C rfl (A.w rfl rfl) h) ?_; refine Dp 14 hok rfl (by kernel_rfl) (fun _ _ _ A h => R.pickF C rfl (A.w rfl rfl) (A.x rfl rfl) (A.x rfl rfl) h) ?_; refine D.done C hok (by kernel_rfl) ?_; refine X.cond C.1 rfl (fun h => nomatch h) (fun _ => ?_)
        refine X.exit C.1 rfl ?_; refine X.weaken ?_ (hex j2 ⟨by omega, by omega, by omega, (scanDown_stop (p := (fun x => !ltInt x d1[a]!)) (.inl (by omega))).symm.trans j2d⟩)
        exact ⟨rfl, rfl, rfl, rfl, trivial⟩
  · obtain ⟨i1a, i1b, i1c, i1d⟩ := hi1
    refine Xs C ?_; refine Xs C ?_; refine X.regionD C (by kernel_rfl) (by kernel_rfl) (by kernel_rfl) fun hok => ?_; refine Dm C 0 hok rfl (by kernel_rfl) rfl rfl rfl rfl ?_; refine Dm C 1 hok rfl (by kernel_rfl) rfl rfl rfl rfl ?_; refine Di C 2 hok rfl (by kernel_rfl) rfl rfl rfl rfl rfl rfl b_leq ?_; refine Dm C 3 hok rfl (by kernel_rfl) rfl rfl rfl rfl ?_; refine D.fix (t := 33) rfl (fun hg => ?_) (fun hg => ?_)
    · have hg := hg
      simp only [decide_eq_true_eq] at hg
      refine Dm C 4 hok rfl (by kernel_rfl) rfl rfl rfl rfl ?_; refine Dm C 5 hok rfl (by kernel_rfl) rfl rfl rfl rfl ?_; refine Dp 6 hok rfl (by kernel_rfl) (fun _ _ _ A h => R.indexAddr C rfl (A.w rfl rfl) (A.x rfl rfl) (A.x rfl rfl) runUnderlying28 sizeOf3 (by omega) (by omega) h) ?_; refine Dl 7 hok rfl (by kernel_rfl) (fun _ _ A h => R.loadOne C rfl (A.w rfl rfl) (A.x rfl rfl) isAgg3 (by repeat (first | exact Mh | apply Mt)) (vals_at (k := i1) (by omega) (by omega)) h) ?_; refine Dm C 8 hok rfl (by kernel_rfl) rfl rfl rfl rfl ?_; refine Dm C 9 hok rfl (by kernel_rfl) rfl rfl rfl rfl ?_; refine Dp 10 hok rfl (by kernel_rfl) (fun _ _ _ A h => R.indexAddr C rfl (A.w rfl rfl) (A.x rfl rfl) (A.x rfl rfl) runUnderlying28 sizeOf3 (by omega) (by omega) h) ?_; refine Dl 11 hok rfl (by kernel_rfl) (fun _ _ A h => R.loadOne C rfl (A.w rfl rfl) (A.x rfl rfl) isAgg3 (by repeat (first | exact Mh | apply Mt)) (vals_at (k := a) (by omega) (by omega)) h) ?_; refine D.eP (i := 12) (dst := (some 42)) [false, false] hok rfl (by kernel_rfl) (by kernel_rfl) (fun σr rest A hk => ?_)
      refine R.callP C rfl (A.w rfl rfl) (A.x rfl rfl) (A.s rfl rfl) (less_c hJ _ _ _) (hk _ _ ⟨QFs.nil, ?_⟩)
      refine Dp 13 hok rfl (by kernel_rfl) (fun _ _ _ A h => R.pickT C rfl (A.w rfl rfl) (A.x rfl rfl) (A.x rfl rfl) h) ?_; refine D.done C hok (by kernel_rfl) ?_; refine X.cond C.1 rfl (fun hl => ?_) (fun hl => ?_)
      · have hl := hl
        refine X.skip C.1 ?_; refine X.block C.1 ?_; refine X.region C rfl rfl ?_; refine R.mov C rfl rfl rfl ?_; refine R.int C rfl rfl rfl rfl (b_add (by omega) (by omega)) ?_; refine Ad C rfl rfl rfl ?_; refine X.inBlock C.1 ?_; refine X.weaken ?_ (hnx (i1 + 1) ⟨by omega, by omega, by omega, ?_⟩ (by omega))
        · exact ⟨rfl, rfl, by simp [look], rfl, trivial⟩
        · exact (scanUp_go (p := (fun x => ltInt x d1[a]!)) (by omega) hl).symm.trans i1d
      · have hl := hl
        refine X.exit C.1 rfl ?_; refine X.weaken ?_ (hex i1 ⟨by omega, by omega, by omega, (scanUp_stop (p := (fun x => ltInt x d1[a]!)) (.inr hl)).symm.trans i1d⟩)
        exact ⟨rfl, rfl, rfl, rfl, trivial⟩
    · have hg := hg
      simp only [decide_eq_false_iff_not] at hg
      refine Dp 4 (v := undef) hok rfl (by kernel_rfl) (fun _ _ _ A h => R.pass C rfl (A.w rfl rfl) h) ?_; refine Dp 5 (v := undef) hok rfl (by kernel_rfl) (fun _ _ _ A h => R.pass C rfl (A.w rfl rfl) h) ?_; refine Dp 6 (v := undef) hok rfl (by kernel_rfl) (fun _ _ _ A h => R.pass C rfl (A.w rfl rfl) h) ?_; refine Dp 7 (v := undef) hok rfl (by kernel_rfl) (fun _ _ _ A h => R.pass C rfl (A.w rfl rfl) h) ?_; refine Dp 8 (v := undef) hok rfl (by kernel_rfl) (fun _ _ _ A h => R.pass C rfl (A.w rfl rfl) h) ?_; refine Dp 9 (v := undef) hok rfl (by kernel_rfl) (fun _ _ _ A h => R.pass C rfl (A.w rfl rfl) h) ?_; refine Dp 10 (v := undef) hok rfl (by kernel_rfl) (fun _ _ _ A h => R.pass C rfl (A.w rfl rfl) h) ?_; refine Dp 11 (v := undef) hok rfl (by kernel_rfl) (fun _ _ _ A h => R.pass C rfl (A.w rfl rfl) h) ?_; refine Dp 12 (v := undef) hok rfl (by kernel_rfl) (fun _ _ _ A h => R.pass C rfl (A.w rfl rfl) h) ?_; refine Dp 13 hok rfl (by kernel_rfl) (fun _ _ _ A h => R.pickF C rfl (A.w rfl rfl) (A.x rfl rfl) (A.x rfl rfl) h) ?_; refine D.done C hok (by kernel_rfl) ?_; refine X.cond C.1 rfl (fun h => nomatch h) (fun _ => ?_)
      refine X.exit C.1 rfl ?_; refine X.weaken ?_ (hex i1 ⟨by omega, by omega, by omega, (scanUp_stop (p := (fun x => ltInt x d1[a]!)) (.inl (by omega))).symm.trans i1d⟩)
      exact ⟨rfl, rfl, rfl, rfl, trivial⟩
theorem partitionEqual_c {p : Nat} {sp : List Value} {d : Array Int} {cap a b pv : Nat} {ro : RO} (hn : d.size ≤ 1000000000) (hp1 : a ≤ pv) (hp2 : pv < b) (hb : b ≤ d.size) : CallS J 191 p sp d cap [.int .i64 (a : Int), .int .i64 (b : Int), .int .i64 (pv : Int)] ro (.int .i64 ((partitionEqual ltInt d a b pv).1 : Int)) (partitionEqual ltInt d a b pv).2 := by
  refine CallS.intro hJ (by kernel_rfl) fun c cs tail hret => ?_
  let J := J
  refine enter_X (n := 84) func191 rfl rfl (Nl rfl) ?_
  have C : Ctx prog main J (bf 191 .normal) := ⟨hJ, by decide⟩
  refine Xr C rfl rfl ?_; refine Ad C rfl rfl rfl ?_; refine Xs C ?_; refine X.regionD C (by kernel_rfl) (by kernel_rfl) (by kernel_rfl) fun hok => ?_; refine Dm C 0 hok rfl (by kernel_rfl) rfl rfl rfl rfl ?_; refine Dm C 1 hok rfl (by kernel_rfl) rfl rfl rfl rfl ?_; refine Dm C 2 hok rfl (by kernel_rfl) rfl rfl rfl rfl ?_; refine Dm C 3 hok rfl (by kernel_rfl) rfl rfl rfl rfl ?_; refine Dm C 4 hok rfl (by kernel_rfl) rfl rfl rfl rfl ?_; refine Dm C 5 hok rfl (by kernel_rfl) rfl rfl rfl rfl ?_; refine Dp 6 hok rfl (by kernel_rfl) (fun _ _ _ A h => R.indexAddr C rfl (A.w rfl rfl) (A.x rfl rfl) (A.x rfl rfl) runUnderlying28 sizeOf3 (by omega) (by omega) h) ?_; refine Dl 7 hok rfl (by kernel_rfl) (fun _ _ A h => R.loadOne C rfl (A.w rfl rfl) (A.x rfl rfl) isAgg3 (by repeat (first | exact Mh | apply Mt)) (vals_at (k := pv) (by omega) (by omega)) h) ?_; refine Dm C 8 hok rfl (by kernel_rfl) rfl rfl rfl rfl ?_; refine Dm C 9 hok rfl (by kernel_rfl) rfl rfl rfl rfl ?_; refine Dp 10 hok rfl (by kernel_rfl) (fun _ _ _ A h => R.indexAddr C rfl (A.w rfl rfl) (A.x rfl rfl) (A.x rfl rfl) runUnderlying28 sizeOf3 (by omega) (by omega) h) ?_; refine Dl 11 hok rfl (by kernel_rfl) (fun _ _ A h => R.loadOne C rfl (A.w rfl rfl) (A.x rfl rfl) isAgg3 (by repeat (first | exact Mh | apply Mt)) (vals_at (k := a) (by omega) (by omega)) h) ?_; refine Dp 12 hok rfl (by kernel_rfl) (fun _ _ _ A h => R.indexAddr C rfl (A.w rfl rfl) (A.x rfl rfl) (A.x rfl rfl) runUnderlying28 sizeOf3 (by omega) (by omega) h) ?_; refine D.eP (i := 13) (dst := none) [false, false] hok rfl (by kernel_rfl) (by kernel_rfl) (fun σr rest A hk => ?_)
  refine R.store C rfl (A.w rfl rfl) (A.x rfl rfl) (A.x rfl rfl) sizeOf3 rfl rfl rfl (by repeat (first | exact Uh | apply Ut)) (vals_put (k := a) (by omega) (by omega)) (hk undef _ ⟨QFs.nil, ?_⟩)
  refine Dp 14 hok rfl (by kernel_rfl) (fun _ _ _ A h => R.indexAddr C rfl (A.w rfl rfl) (A.x rfl rfl) (A.x rfl rfl) runUnderlying28 sizeOf3 (by omega) (by omega) h) ?_; refine D.eP (i := 15) (dst := none) [] hok rfl (by kernel_rfl) (by kernel_rfl) (fun σr rest A hk => ?_)
  refine R.store C rfl (A.w rfl rfl) (A.x rfl rfl) (A.x rfl rfl) sizeOf3 rfl rfl rfl (by repeat (first | exact Uh | apply Ut)) (vals_put (k := pv) (by omega) (by simp; omega)) (hk undef _ ⟨QFs.nil, ?_⟩)
  refine D.done C hok (by kernel_rfl) ?_; refine Xr C rfl rfl ?_
  have hdef : partitionEqual ltInt d a b pv = partEqLoop ltInt a (a + 1) (b - 1) (swp d a pv) := rfl
  rw [hdef] at hret
  obtain ⟨d1, hd1e⟩ : ∃ d1, d1 = swp d a pv := ⟨_, rfl⟩
  have hd1 : d1.size = d.size := by rw [hd1e, swp_sz]
  have hd1v : (d.setIfInBounds a d[pv]!).setIfInBounds pv d[a]! = d1 := hd1e.symm
  rw [hd1v]
  rw [← hd1e] at hret
  refine R.mov C rfl rfl rfl ?_; refine R.int C rfl rfl rfl rfl (b_add (by omega) (by omega)) ?_; refine R.fixv (t := 26) (v' := .int .i64 ((a + 1 : Nat) : Int)) rfl (by rfl) ?_; refine R.mov C rfl rfl rfl ?_; refine R.int C rfl rfl rfl rfl (b_sub (by omega) (by omega)) ?_; refine R.fixv (t := 28) (v' := .int .i64 ((b - 1 : Nat) : Int)) rfl (by (congr 1; omega)) ?_; refine R.asg C rfl rfl rfl ?_; refine Ad C rfl rfl rfl ?_; refine Xs C ?_; refine X.block C.1 ?_; refine X.loopB (ι := Nat × Nat × Array Int) C.1 (fun s => a < s.1 ∧ s.1 ≤ s.2.1 + 1 ∧ s.2.1 < b ∧ s.2.2.size = d.size ∧ partEqLoop ltInt a s.1 s.2.1 s.2.2 = partEqLoop ltInt a (a + 1) (b - 1) d1) (fun s => [(0, .slice (some ⟨p, 0, none⟩) d.size cap), (1, .int .i64 (a : Int)), (9, .int .i64 ((s.1 : Nat) : Int)), (10, .int .i64 ((s.2.1 : Nat) : Int))])
    (fun s => ⟨ro, (p, .cells (vals s.2.2 ++ sp).toArray 3 (0, 0)) :: tail⟩) (fun s => s.2.1 + 1 - s.1) (a + 1, b - 1, d1) (fun s => s.2.2.size = d.size ∧ s.1 ≤ d.size ∧ partEqLoop ltInt a (a + 1) (b - 1) d1 = (s.1, s.2.2)) ⟨by show a < a + 1; omega, by show a + 1 ≤ b - 1 + 1; omega, by show b - 1 < b; omega, hd1, rfl⟩ rfl ⟨rfl, rfl, rfl, rfl, trivial⟩ (fun s hs => ?_) fun s hs hnxM hexM => ?_
  · obtain ⟨i3, j3, d2⟩ := s
    obtain ⟨h1, h2, h3⟩ := hs
    simp only at h1 h2 h3 ⊢
    rw [h3] at hret
    refine Xr C rfl rfl ?_; refine R.mov C rfl rfl rfl ?_; refine Ad C rfl rfl rfl ?_; refine X.ret C rfl rfl func191 rfl (by exact .tmp rfl .nil) ?_
    exact hret _ _ rfl rfl
  · obtain ⟨i3, j3, d2⟩ := s
    obtain ⟨h1, h3, h4, h2, h5⟩ := hs
    simp only at h1 h2 h3 h4 h5 hnxM hexM ⊢
    refine X.block C.1 ?_; refine Xs C ?_; refine X.block C.1 ?_; refine X.loopB (ι := Nat) C.1 (fun i => a < i ∧ i ≤ j3 + 1 ∧ i3 ≤ i ∧ scanUp (fun x => !ltInt d2[a]! x) d2 j3 i = scanUp (fun x => !ltInt d2[a]! x) d2 j3 i3) (fun i => [(0, .slice (some ⟨p, 0, none⟩) d.size cap), (1, .int .i64 (a : Int)), (9, .int .i64 ((i : Nat) : Int)), (10, .int .i64 ((j3 : Nat) : Int))])
      (fun _ => ⟨ro, (p, .cells (vals d2 ++ sp).toArray 3 (0, 0)) :: tail⟩) (fun i => j3 + 1 - i) (i3) (fun i => a < i ∧ i ≤ j3 + 1 ∧ i3 ≤ i ∧ i = scanUp (fun x => !ltInt d2[a]! x) d2 j3 i3) ⟨by omega, by omega, by omega, rfl⟩ rfl ⟨rfl, rfl, rfl, rfl, trivial⟩ (fun i4 hi4 => ?_) fun i4 hi4 hnx hex => ?_
    · obtain ⟨i4a, i4b, i4c, i4d⟩ := hi4
      refine Xs C ?_; refine X.block C.1 ?_; refine X.loopB (ι := Nat) C.1 (fun j => j < b ∧ i4 ≤ j + 1 ∧ j ≤ j3 ∧ scanDown (fun x => ltInt d2[a]! x) d2 i4 j = scanDown (fun x => ltInt d2[a]! x) d2 i4 j3) (fun j => [(0, .slice (some ⟨p, 0, none⟩) d.size cap), (1, .int .i64 (a : Int)), (9, .int .i64 ((i4 : Nat) : Int)), (10, .int .i64 ((j : Nat) : Int))])
        (fun _ => ⟨ro, (p, .cells (vals d2 ++ sp).toArray 3 (0, 0)) :: tail⟩) (fun j => j) (j3) (fun j => j < b ∧ i4 ≤ j + 1 ∧ j ≤ j3 ∧ j = scanDown (fun x => ltInt d2[a]! x) d2 i4 j3) ⟨by omega, by omega, by omega, rfl⟩ rfl ⟨rfl, rfl, rfl, rfl, trivial⟩ (fun j5 hj5 => ?_) fun j5 hj5 hnx hex => ?_
      · obtain ⟨j5a, j5b, j5c, j5d⟩ := hj5
        refine Xs C ?_; refine Xr C rfl rfl ?_; refine R.mov C rfl rfl rfl ?_; refine R.mov C rfl rfl rfl ?_; refine R.int C rfl rfl rfl rfl b_gtr ?_; refine R.done C ?_; refine X.cond C.1 rfl (fun hgt => ?_) (fun hgt => ?_)
        · have hgt := hgt
          simp only [decide_eq_true_eq] at hgt
          refine X.exit C.1 rfl ?_; refine X.weaken ?_ (hexM (i4, j5, d2) ⟨h2, by show i4 ≤ d.size; omega, by rw [← h5, Go.Sort.partEqLoop_eq, ← i4d, ← j5d, if_pos (by omega)]⟩)
          exact ⟨rfl, rfl, rfl, rfl, trivial⟩
        · have hgt := hgt
          simp only [decide_eq_false_iff_not] at hgt
          have hne := scan_ne (fun _ => (Bool.not_not _).symm) i4d j5d (by omega) (by omega)
          refine X.skip C.1 ?_; refine Xs C ?_; refine X.regionD C (by kernel_rfl) (by kernel_rfl) (by kernel_rfl) fun hok => ?_; refine Dm C 0 hok rfl (by kernel_rfl) rfl rfl rfl rfl ?_; refine Dm C 1 hok rfl (by kernel_rfl) rfl rfl rfl rfl ?_; refine Dm C 2 hok rfl (by kernel_rfl) rfl rfl rfl rfl ?_; refine Dm C 3 hok rfl (by kernel_rfl) rfl rfl rfl rfl ?_; refine Dm C 4 hok rfl (by kernel_rfl) rfl rfl rfl rfl ?_; refine Dm C 5 hok rfl (by kernel_rfl) rfl rfl rfl rfl ?_; refine Dp 6 hok rfl (by kernel_rfl) (fun _ _ _ A h => R.indexAddr C rfl (A.w rfl rfl) (A.x rfl rfl) (A.x rfl rfl) runUnderlying28 sizeOf3 (by omega) (by omega) h) ?_; refine Dl 7 hok rfl (by kernel_rfl) (fun _ _ A h => R.loadOne C rfl (A.w rfl rfl) (A.x rfl rfl) isAgg3 (by repeat (first | exact Mh | apply Mt)) (vals_at (k := j5) (by omega) (by omega)) h) ?_; refine Dm C 8 hok rfl (by kernel_rfl) rfl rfl rfl rfl ?_; refine Dm C 9 hok rfl (by kernel_rfl) rfl rfl rfl rfl ?_; refine Dp 10 hok rfl (by kernel_rfl) (fun _ _ _ A h => R.indexAddr C rfl (A.w rfl rfl) (A.x rfl rfl) (A.x rfl rfl) runUnderlying28 sizeOf3 (by omega) (by omega) h) ?_; refine Dl 11 hok rfl (by kernel_rfl) (fun _ _ A h => R.loadOne C rfl (A.w rfl rfl) (A.x rfl rfl) isAgg3 (by repeat (first | exact Mh | apply Mt)) (vals_at (k := i4) (by omega) (by omega)) h) ?_; refine Dp 12 hok rfl (by kernel_rfl) (fun _ _ _ A h => R.indexAddr C rfl (A.w rfl rfl) (A.x rfl rfl) (A.x rfl rfl) runUnderlying28 sizeOf3 (by omega) (by omega) h) ?_; refine D.eP (i := 13) (dst := none) [false, false] hok rfl (by kernel_rfl) (by kernel_rfl) (fun σr rest A hk => ?_)
          refine R.store C rfl (A.w rfl rfl) (A.x rfl rfl) (A.x rfl rfl) sizeOf3 rfl rfl rfl (by repeat (first | exact Uh | apply Ut)) (vals_put (k := i4) (by omega) (by omega)) (hk undef _ ⟨QFs.nil, ?_⟩)
          refine Dp 14 hok rfl (by kernel_rfl) (fun _ _ _ A h => R.indexAddr C rfl (A.w rfl rfl) (A.x rfl rfl) (A.x rfl rfl) runUnderlying28 sizeOf3 (by omega) (by omega) h) ?_; refine D.eP (i := 15) (dst := none) [] hok rfl (by kernel_rfl) (by kernel_rfl) (fun σr rest A hk => ?_)
          refine R.store C rfl (A.w rfl rfl) (A.x rfl rfl) (A.x rfl rfl) sizeOf3 rfl rfl rfl (by repeat (first | exact Uh | apply Ut)) (vals_put (k := j5) (by omega) (by simp; omega)) (hk undef _ ⟨QFs.nil, ?_⟩)
          refine D.done C hok (by kernel_rfl) ?_; refine Xr C rfl rfl ?_; refine R.mov C rfl rfl rfl ?_; refine R.int C rfl rfl rfl rfl (b_add (by omega) (by omega)) ?_; refine Ad C rfl rfl rfl ?_; refine X.region C rfl rfl ?_; refine R.mov C rfl rfl rfl ?_; refine R.int C rfl rfl rfl rfl (b_sub (by omega) (by omega)) ?_; refine Ad C rfl rfl rfl ?_; refine X.inBlock C.1 ?_; refine X.weaken ?_ (hnxM (i4 + 1, j5 - 1, swp d2 i4 j5) ⟨by show a < i4 + 1; omega, by show i4 + 1 ≤ j5 - 1 + 1; omega, by show j5 - 1 < b; omega, by rw [swp_sz]; exact h2, by rw [← h5, Go.Sort.partEqLoop_eq (d := d2), ← i4d, ← j5d, if_neg (by omega)]⟩ (by show j5 - 1 + 1 - (i4 + 1) < j3 + 1 - i3; omega))
          exact ⟨rfl, rfl, by simp [look], congrArg (fun z => some (Value.int .i64 z)) (by show (j5 : Int) - 1 = ((j5 - 1 : Nat) : Int); omega), trivial⟩
      · obtain ⟨j5a, j5b, j5c, j5d⟩ := hj5
        refine Xs C ?_; refine Xs C ?_; refine X.regionD C (by kernel_rfl) (by kernel_rfl) (by kernel_rfl) fun hok => ?_; refine Dm C 0 hok rfl (by kernel_rfl) rfl rfl rfl rfl ?_; refine Dm C 1 hok rfl (by kernel_rfl) rfl rfl rfl rfl ?_; refine Di C 2 hok rfl (by kernel_rfl) rfl rfl rfl rfl rfl rfl b_leq ?_; refine Dm C 3 hok rfl (by kernel_rfl) rfl rfl rfl rfl ?_; refine D.fix (t := 49) rfl (fun hg => ?_) (fun hg => ?_)
        · have hg := hg
          simp only [decide_eq_true_eq] at hg
          refine Dm C 4 hok rfl (by kernel_rfl) rfl rfl rfl rfl ?_; refine Dm C 5 hok rfl (by kernel_rfl) rfl rfl rfl rfl ?_; refine Dp 6 hok rfl (by kernel_rfl) (fun _ _ _ A h => R.indexAddr C rfl (A.w rfl rfl) (A.x rfl rfl) (A.x rfl rfl) runUnderlying28 sizeOf3 (by omega) (by omega) h) ?_; refine Dl 7 hok rfl (by kernel_rfl) (fun _ _ A h => R.loadOne C rfl (A.w rfl rfl) (A.x rfl rfl) isAgg3 (by repeat (first | exact Mh | apply Mt)) (vals_at (k := a) (by omega) (by omega)) h) ?_; refine Dm C 8 hok rfl (by kernel_rfl) rfl rfl rfl rfl ?_; refine Dm C 9 hok rfl (by kernel_rfl) rfl rfl rfl rfl ?_; refine Dp 10 hok rfl (by kernel_rfl) (fun _ _ _ A h => R.indexAddr C rfl (A.w rfl rfl) (A.x rfl rfl) (A.x rfl rfl) runUnderlying28 sizeOf3 (by omega) (by omega) h) ?_; refine Dl 11 hok rfl (by kernel_rfl) (fun _ _ A h => R.loadOne C rfl (A.w rfl rfl) (A.x rfl rfl) isAgg3 (by repeat (first | exact Mh | apply Mt)) (vals_at (k := j5) (by omega) (by omega)) h) ?_; refine D.eP (i := 12) (dst := (some 58)) [false, false] hok rfl (by kernel_rfl) (by kernel_rfl) (fun σr rest A hk => ?_)
          refine R.callP C rfl (A.w rfl rfl) (A.x rfl rfl) (A.s rfl rfl) (less_c hJ _ _ _) (hk _ _ ⟨QFs.nil, ?_⟩)
          refine Dp 13 hok rfl (by kernel_rfl) (fun _ _ _ A h => R.pickT C rfl (A.w rfl rfl) (A.x rfl rfl) (A.x rfl rfl) h) ?_; refine D.done C hok (by kernel_rfl) ?_; refine X.cond C.1 rfl (fun hl => ?_) (fun hl => ?_)
          · have hl := hl
            refine X.skip C.1 ?_; refine X.block C.1 ?_; refine X.region C rfl rfl ?_; refine R.mov C rfl rfl rfl ?_; refine R.int C rfl rfl rfl rfl (b_sub (by omega) (by omega)) ?_; refine Ad C rfl rfl rfl ?_; refine X.inBlock C.1 ?_; refine X.weaken ?_ (hnx (j5 - 1) ⟨by omega, by omega, by omega, ?_⟩ (by omega))
            · exact ⟨rfl, rfl, rfl, congrArg (fun z => some (Value.int .i64 z)) (by omega), trivial⟩
            · exact (scanDown_go (p := (fun x => ltInt d2[a]! x)) (by omega) (by omega) hl).symm.trans j5d
          · have hl := hl
            refine X.exit C.1 rfl ?_; refine X.weaken ?_ (hex j5 ⟨by omega, by omega, by omega, (scanDown_stop (p := (fun x => ltInt d2[a]! x)) (.inr hl)).symm.trans j5d⟩)
            exact ⟨rfl, rfl, rfl, rfl, trivial⟩
        · have hg := hg
          simp only [decide_eq_false_iff_not] at hg
          refine Dp 4 (v := undef) hok rfl (by kernel_rfl) (fun _ _ _ A h => R.pass C rfl (A.w rfl rfl) h) ?_; refine Dp 5 (v := undef) hok rfl (by kernel_rfl) (fun _ _ _ A h => R.pass C rfl (A.w rfl rfl) h) ?_; refine Dp 6 (v := undef) hok rfl (by kernel_rfl) (fun _ _ _ A h => R.pass C rfl (A.w rfl rfl) h) ?_; refine Dp 7 (v := undef) hok rfl (by kernel_rfl) (fun _ _ _ A h => R.pass C rfl (A.w rfl rfl) h) ?_; refine Dp 8 (v := undef) hok rfl (by kernel_rfl) (fun _ _ _ A h => R.pass C rfl (A.w rfl rfl) h) ?_; refine Dp 9 (v := undef) hok rfl (by kernel_rfl) (fun _ _ _ A h => R.pass C rfl (A.w rfl rfl) h) ?_; refine Dp 10 (v := undef) hok rfl (by kernel_rfl) (fun _ _ _ A h => R.pass C rfl (A.w rfl rfl) h) ?_; refine Dp 11 (v := undef) hok rfl (by kernel_rfl) (fun _ _ _ A h => R.pass C rfl (A.w rfl rfl) h) ?_; refine Dp 12 (v := undef) hok rfl (by kernel_rfl) (fun _ _ _ A h => R.pass C rfl (A.w rfl rfl) h) ?_; refine Dp 13 hok rfl (by kernel_rfl) (fun _ _ _ A h => R.pickF C rfl (A.w rfl rfl) (A.x rfl rfl) (A.x rfl rfl) h) ?_; refine D.done C hok (by kernel_rfl) ?_; refine X.cond C.1 rfl (fun h => nomatch h) (fun _ => ?_)
          refine X.exit C.1 rfl ?_; refine X.weaken ?_ (hex j5 ⟨by omega, by omega, by omega, (scanDown_stop (p := (fun x => ltInt d2[a]! x)) (.inl (by omega))).symm.trans j5d⟩)
          exact ⟨rfl, rfl, rfl, rfl, trivial⟩
    · obtain ⟨i4a, i4b, i4c, i4d⟩ := hi4
      refine Xs C ?_; refine Xs C ?_; refine X.regionD C (by kernel_rfl) (by kernel_rfl) (by kernel_rfl) fun hok => ?_; refine Dm C 0 hok rfl (by kernel_rfl) rfl rfl rfl rfl ?_; refine Dm C 1 hok rfl (by kernel_rfl) rfl rfl rfl rfl ?_; refine Di C 2 hok rfl (by kernel_rfl) rfl rfl rfl rfl rfl rfl b_leq ?_; refine Dm C 3 hok rfl (by kernel_rfl) rfl rfl rfl rfl ?_; refine D.fix (t := 32) rfl (fun hg => ?_) (fun hg => ?_)
      · have hg := hg
        simp only [decide_eq_true_eq] at hg
        refine Dm C 4 hok rfl (by kernel_rfl) rfl rfl rfl rfl ?_; refine Dm C 5 hok rfl (by kernel_rfl) rfl rfl rfl rfl ?_; refine Dp 6 hok rfl (by kernel_rfl) (fun _ _ _ A h => R.indexAddr C rfl (A.w rfl rfl) (A.x rfl rfl) (A.x rfl rfl) runUnderlying28 sizeOf3 (by omega) (by omega) h) ?_; refine Dl 7 hok rfl (by kernel_rfl) (fun _ _ A h => R.loadOne C rfl (A.w rfl rfl) (A.x rfl rfl) isAgg3 (by repeat (first | exact Mh | apply Mt)) (vals_at (k := a) (by omega) (by omega)) h) ?_; refine Dm C 8 hok rfl (by kernel_rfl) rfl rfl rfl rfl ?_; refine Dm C 9 hok rfl (by kernel_rfl) rfl rfl rfl rfl ?_; refine Dp 10 hok rfl (by kernel_rfl) (fun _ _ _ A h => R.indexAddr C rfl (A.w rfl rfl) (A.x rfl rfl) (A.x rfl rfl) runUnderlying28 sizeOf3 (by omega) (by omega) h) ?_; refine Dl 11 hok rfl (by kernel_rfl) (fun _ _ A h => R.loadOne C rfl (A.w rfl rfl) (A.x rfl rfl) isAgg3 (by repeat (first | exact Mh | apply Mt)) (vals_at (k := i4) (by omega) (by omega)) h) ?_; refine D.eP (i := 12) (dst := (some 41)) [false, false] hok rfl (by kernel_rfl) (by kernel_rfl) (fun σr rest A hk => ?_)
        refine R.callP C rfl (A.w rfl rfl) (A.x rfl rfl) (A.s rfl rfl) (less_c hJ _ _ _) (hk _ _ ⟨QFs.nil, ?_⟩)
        refine Dp 13 hok rfl (by kernel_rfl) (fun _ _ _ A h => R.not C rfl (A.w rfl rfl) (A.x rfl rfl) h) ?_; refine Dp 14 hok rfl (by kernel_rfl) (fun _ _ _ A h => R.pickT C rfl (A.w rfl rfl) (A.x rfl rfl) (A.x rfl rfl) h) ?_; refine D.done C hok (by kernel_rfl) ?_; refine X.cond C.1 rfl (fun hl => ?_) (fun hl => ?_)
        · have hl := hl
          refine X.skip C.1 ?_; refine X.block C.1 ?_; refine X.region C rfl rfl ?_; refine R.mov C rfl rfl rfl ?_; refine R.int C rfl rfl rfl rfl (b_add (by omega) (by omega)) ?_; refine Ad C rfl rfl rfl ?_; refine X.inBlock C.1 ?_; refine X.weaken ?_ (hnx (i4 + 1) ⟨by omega, by omega, by omega, ?_⟩ (by omega))
          · exact ⟨rfl, rfl, by simp [look], rfl, trivial⟩
          · exact (scanUp_go (p := (fun x => !ltInt d2[a]! x)) (by omega) hl).symm.trans i4d
        · have hl := hl
          refine X.exit C.1 rfl ?_; refine X.weaken ?_ (hex i4 ⟨by omega, by omega, by omega, (scanUp_stop (p := (fun x => !ltInt d2[a]! x)) (.inr hl)).symm.trans i4d⟩)
          exact ⟨rfl, rfl, rfl, rfl, trivial⟩
      · have hg := hg
        simp only [decide_eq_false_iff_not] at hg
        refine Dp 4 (v := undef) hok rfl (by kernel_rfl) (fun _ _ _ A h => R.pass C rfl (A.w rfl rfl) h) ?_; refine Dp 5 (v := undef) hok rfl (by kernel_rfl) (fun _ _ _ A h => R.pass C rfl (A.w rfl rfl) h) ?_; refine Dp 6 (v := undef) hok rfl (by kernel_rfl) (fun _ _ _ A h => R.pass C rfl (A.w rfl rfl) h) ?_; refine Dp 7 (v := undef) hok rfl (by kernel_rfl) (fun _ _ _ A h => R.pass C rfl (A.w rfl rfl) h) ?_; refine Dp 8 (v := undef) hok rfl (by kernel_rfl) (fun _ _ _ A h => R.pass C rfl (A.w rfl rfl) h) ?_; refine Dp 9 (v := undef) hok rfl (by kernel_rfl) (fun _ _ _ A h => R.pass C rfl (A.w rfl rfl) h) ?_; refine Dp 10 (v := undef) hok rfl (by kernel_rfl) (fun _ _ _ A h => R.pass C rfl (A.w rfl rfl) h) ?_; refine Dp 11 (v := undef) hok rfl (by kernel_rfl) (fun _ _ _ A h => R.pass C rfl (A.w rfl rfl) h) ?_; refine Dp 12 (v := undef) hok rfl (by kernel_rfl) (fun _ _ _ A h => R.pass C rfl (A.w rfl rfl) h) ?_; refine Dp 13 (v := undef) hok rfl (by kernel_rfl) (fun _ _ _ A h => R.pass C rfl (A.w rfl rfl) h) ?_; refine Dp 14 hok rfl (by kernel_rfl) (fun _ _ _ A h => R.pickF C rfl (A.w rfl rfl) (A.x rfl rfl) (A.x rfl rfl) h) ?_; refine D.done C hok (by kernel_rfl) ?_; refine X.cond C.1 rfl (fun h => nomatch h) (fun _ => ?_)
        refine X.exit C.1 rfl ?_; refine X.weaken ?_ (hex i4 ⟨by omega, by omega, by omega, (scanUp_stop (p := (fun x => !ltInt d2[a]! x)) (.inl (by omega))).symm.trans i4d⟩)
        exact ⟨rfl, rfl, rfl, rfl, trivial⟩
end Go.Lg.B
namespace Go.Lg.B
open Go Go.Conc Go.Lg Go.Proofs Go.Proofs.Tryz
open Go.Sort (ltInt swp scanSorted shiftDown shiftUp partialIns partialInsertionSort fixDown fixUp)
theorem scanS_go {d : Array Int} {b i : Nat} (h : i < b) (hl : (!ltInt d[i]! d[i - 1]!) = true) : scanSorted ltInt d b i = scanSorted ltInt d b (i + 1) := by rw [scanSorted, if_pos (by simp only [hl, Bool.and_true, decide_eq_true_eq]; exact h)]
theorem scanS_stop {d : Array Int} {b i : Nat} (h : b ≤ i ∨ (!ltInt d[i]! d[i - 1]!) = false) : scanSorted ltInt d b i = i := by
  rw [scanSorted, if_neg]
  rcases h with h | h
  · simp; omega
  · simp only [h, Bool.and_false]; decide
theorem scanS_ge (d : Array Int) (b : Nat) : ∀ (n i : Nat), b - i ≤ n → i ≤ scanSorted ltInt d b i ∧ (i ≤ b → scanSorted ltInt d b i ≤ b)
  | 0, i, h => by rw [scanS_stop (.inl (by omega))]; exact ⟨Nat.le_refl _, fun h => h⟩
  | n + 1, i, h => by
    by_cases hc : i < b ∧ (!ltInt d[i]! d[i - 1]!) = true
    · rw [scanS_go hc.1 hc.2]
      have := scanS_ge d b n (i + 1) (by omega)
      exact ⟨by omega, fun _ => this.2 (by omega)⟩
    · rw [scanS_stop (by
        by_cases h1 : i < b
        · right; simpa [h1] using hc
        · left; omega)]
      exact ⟨Nat.le_refl _, fun h => h⟩
theorem shD_go {d : Array Int} {j : Nat} (hj : 1 ≤ j) (h : (!ltInt d[j]! d[j - 1]!) = false) : shiftDown ltInt j d = shiftDown ltInt (j - 1) (swp d j (j - 1)) := by
  obtain ⟨j, rfl⟩ : ∃ k, j = k + 1 := ⟨j - 1, by omega⟩
  have h : (!ltInt d[j + 1]! d[j]!) = false := by simpa using h
  simp only [shiftDown]
  rw [if_neg (by rw [h]; simp)]; rfl
theorem shD_stop {d : Array Int} {j : Nat} (h : j = 0 ∨ (!ltInt d[j]! d[j - 1]!) = true) : shiftDown ltInt j d = d := by
  cases j with
  | zero => rfl
  | succ j =>
    have h : (!ltInt d[j + 1]! d[j]!) = true := by simpa using h
    simp only [shiftDown]
    rw [if_pos h]
theorem shU_go {d : Array Int} {b j : Nat} (hj : j < b) (h : (!ltInt d[j]! d[j - 1]!) = false) : shiftUp ltInt b j d = shiftUp ltInt b (j + 1) (swp d j (j - 1)) := by
  rw [shiftUp, if_pos hj, if_neg (by rw [h]; simp)]
theorem shU_stop {d : Array Int} {b j : Nat} (h : b ≤ j ∨ (!ltInt d[j]! d[j - 1]!) = true) : shiftUp ltInt b j d = d := by
  rw [shiftUp]
  rcases h with h | h
  · rw [if_neg (by omega)]
  · split <;> first | rfl | rw [if_pos h]
variable {main : Bool} {J : Goroutine → Mem → Prop} (hJ : Closed prog main J)
include hJ
theorem partialIns_c {p : Nat} {sp : List Value} {d : Array Int} {cap a b : Nat} {ro : RO} (hn : d.size ≤ 1000000000) (hab : a < b) (hb : b ≤ d.size) : CallS J 189 p sp d cap [.int .i64 (a : Int), .int .i64 (b : Int)] ro (.bool (partialInsertionSort ltInt d a b).2) (partialInsertionSort ltInt d a b).1 := by
  refine CallS.intro hJ (by kernel_rfl) fun c cs tail hret => ?_
  let J := J
  refine enter_X (n := 133) func189 rfl rfl (Nl rfl) ?_
  have C : Ctx prog main J (bf 189 .normal) := ⟨hJ, by decide⟩
  refine Xr C rfl rfl ?_; refine Ad C rfl rfl rfl ?_; refine Xr C rfl rfl ?_; refine R.mov C rfl rfl rfl ?_; refine R.int C rfl rfl rfl rfl (b_add (by omega) (by omega)) ?_; refine Ad C rfl rfl rfl ?_; refine Xs C ?_; refine Xr C rfl rfl ?_; refine Ad C rfl rfl rfl ?_; refine X.block C.1 ?_; refine X.loopI (ι := Nat × Nat × Array Int) C.1 (fun s => s.1 ≤ 5 ∧ a + 1 ≤ s.2.1 ∧ s.2.1 ≤ b ∧ s.2.2.size = d.size ∧ partialIns ltInt a b (5 - s.1) s.2.1 s.2.2 = partialInsertionSort ltInt d a b) (fun s => [(0, .slice (some ⟨p, 0, none⟩) d.size cap), (1, .int .i64 (a : Int)), (2, .int .i64 (b : Int)), (7, .int .i64 ((s.2.1 : Nat) : Int)), (8, .int .i64 ((s.1 : Nat) : Int))])
    (fun s => ⟨ro, (p, .cells (vals s.2.2 ++ sp).toArray 3 (0, 0)) :: tail⟩) (fun s => 5 - s.1) (0, a + 1, d) ⟨Nat.zero_le _, Nat.le_refl _, by show a + 1 ≤ b; omega, rfl, rfl⟩ rfl ⟨rfl, rfl, rfl, by simp [look], rfl, trivial⟩ fun s hs hnext => ?_
  obtain ⟨k, i0, d2⟩ := s
  obtain ⟨hk, hi1, hi2, h1, hp5⟩ := hs
  simp only at hk hi1 hi2 h1 hp5 hnext ⊢
  refine Xs C ?_; refine Xr C rfl rfl ?_; refine R.mov C rfl rfl rfl ?_; refine R.int C rfl rfl rfl rfl b_lss ?_; refine R.done C ?_; refine X.cond C.1 rfl (fun hk5 => ?_) (fun hk5 => ?_)
  · have hk5 := hk5
    simp only [decide_eq_true_eq] at hk5
    rw [show 5 - k = (5 - (k + 1)) + 1 by omega, Go.Sort.partialIns_succ] at hp5
    refine X.skip C.1 ?_; refine Xs C ?_; refine X.block C.1 ?_; refine Xs C ?_; refine X.block C.1 ?_; refine X.loopB (ι := Nat) C.1 (fun i => i0 ≤ i ∧ i ≤ b ∧ scanSorted ltInt d2 b i = scanSorted ltInt d2 b i0) (fun i => [(0, .slice (some ⟨p, 0, none⟩) d.size cap), (1, .int .i64 (a : Int)), (2, .int .i64 (b : Int)), (7, .int .i64 ((i : Nat) : Int)), (8, .int .i64 ((k : Nat) : Int))])
      (fun _ => ⟨ro, (p, .cells (vals d2 ++ sp).toArray 3 (0, 0)) :: tail⟩) (fun i => b - i) i0 (fun i => i0 ≤ i ∧ i ≤ b ∧ i = scanSorted ltInt d2 b i0) ⟨Nat.le_refl _, hi2, rfl⟩ rfl ⟨rfl, rfl, rfl, rfl, rfl, trivial⟩ (fun i h => ?_) fun i h hns hes => ?_
    · obtain ⟨hia, hib, hic⟩ := h
      rw [← hic] at hp5
      refine Xs C ?_; refine Xr C rfl rfl ?_; refine R.mov C rfl rfl rfl ?_; refine R.mov C rfl rfl rfl ?_; refine R.int C rfl rfl rfl rfl b_eql ?_; refine R.done C ?_; refine X.cond C.1 rfl (fun hend => ?_) (fun hend => ?_)
      · have hend := hend
        have hib' : i = b := by simp at hend; omega
        rw [if_pos hib'] at hp5
        rw [← hp5] at hret
        refine Xr C rfl rfl ?_; refine Ad C rfl rfl rfl ?_; refine X.ret C rfl rfl func189 rfl (by exact .tmp rfl .nil) ?_
        exact hret _ _ rfl rfl
      · have hend := hend
        have hib' : ¬ i = b := by simp at hend; omega
        rw [if_neg hib'] at hp5
        refine X.skip C.1 ?_; refine Xs C ?_; refine Xr C rfl rfl ?_; refine R.mov C rfl rfl rfl ?_; refine R.mov C rfl rfl rfl ?_; refine R.int C rfl rfl rfl rfl (b_sub (by omega) (by omega)) ?_; refine R.int C rfl rfl rfl rfl b_lss ?_; refine R.done C ?_; refine X.cond C.1 rfl (fun h50 => ?_) (fun h50 => ?_)
        · have h50 := h50
          simp only [decide_eq_true_eq] at h50
          rw [if_pos (by omega)] at hp5
          rw [← hp5] at hret
          refine Xr C rfl rfl ?_; refine Ad C rfl rfl rfl ?_; refine X.ret C rfl rfl func189 rfl (by exact .tmp rfl .nil) ?_
          exact hret _ _ rfl rfl
        · have h50 := h50
          simp only [decide_eq_false_iff_not] at h50
          rw [if_neg (by omega)] at hp5
          refine X.skip C.1 ?_; refine Xs C ?_; refine X.regionD C (by kernel_rfl) (by kernel_rfl) (by kernel_rfl) fun hok => ?_; refine Dm C 0 hok rfl (by kernel_rfl) rfl rfl rfl rfl ?_; refine Dm C 1 hok rfl (by kernel_rfl) rfl rfl rfl rfl ?_; refine Dm C 2 hok rfl (by kernel_rfl) rfl rfl rfl rfl ?_; refine Dm C 3 hok rfl (by kernel_rfl) rfl rfl rfl rfl ?_; refine Di C 4 hok rfl (by kernel_rfl) rfl rfl rfl rfl rfl rfl (b_sub (by omega) (by omega)) ?_; refine Dm C 5 hok rfl (by kernel_rfl) rfl rfl rfl rfl ?_; refine Dm C 6 hok rfl (by kernel_rfl) rfl rfl rfl rfl ?_; refine Di C 7 hok rfl (by kernel_rfl) rfl rfl rfl rfl rfl rfl (b_sub (by omega) (by omega)) ?_; refine Dp 8 hok rfl (by kernel_rfl) (fun _ _ _ A h => R.indexAddr C rfl (A.w rfl rfl) (A.x rfl rfl) (A.x rfl rfl) runUnderlying28 sizeOf3 (by omega) (by omega) h) ?_; refine Dl 9 hok rfl (by kernel_rfl) (fun _ _ A h => R.loadOne C rfl (A.w rfl rfl) (A.x rfl rfl) isAgg3 (by repeat (first | exact Mh | apply Mt)) (vals_at (k := i - 1) (by omega) (by omega)) h) ?_; refine Dm C 10 hok rfl (by kernel_rfl) rfl rfl rfl rfl ?_; refine Dm C 11 hok rfl (by kernel_rfl) rfl rfl rfl rfl ?_; refine Dp 12 hok rfl (by kernel_rfl) (fun _ _ _ A h => R.indexAddr C rfl (A.w rfl rfl) (A.x rfl rfl) (A.x rfl rfl) runUnderlying28 sizeOf3 (by omega) (by omega) h) ?_; refine Dl 13 hok rfl (by kernel_rfl) (fun _ _ A h => R.loadOne C rfl (A.w rfl rfl) (A.x rfl rfl) isAgg3 (by repeat (first | exact Mh | apply Mt)) (vals_at (k := i) (by omega) (by omega)) h) ?_; refine Dp 14 hok rfl (by kernel_rfl) (fun _ _ _ A h => R.indexAddr C rfl (A.w rfl rfl) (A.x rfl rfl) (A.x rfl rfl) runUnderlying28 sizeOf3 (by omega) (by omega) h) ?_; refine D.eP (i := 15) (dst := none) [false, false] hok rfl (by kernel_rfl) (by kernel_rfl) (fun σr rest A hk => ?_)
          refine R.store C rfl (A.w rfl rfl) (A.x rfl rfl) (A.x rfl rfl) sizeOf3 rfl rfl rfl (by repeat (first | exact Uh | apply Ut)) (vals_put (k := i) (by omega) (by omega)) (hk undef _ ⟨QFs.nil, ?_⟩)
          refine Dp 16 hok rfl (by kernel_rfl) (fun _ _ _ A h => R.indexAddr C rfl (A.w rfl rfl) (A.x rfl rfl) (A.x rfl rfl) runUnderlying28 sizeOf3 (by omega) (by omega) h) ?_; refine D.eP (i := 17) (dst := none) [] hok rfl (by kernel_rfl) (by kernel_rfl) (fun σr rest A hk => ?_)
          refine R.store C rfl (A.w rfl rfl) (A.x rfl rfl) (A.x rfl rfl) sizeOf3 rfl rfl rfl (by repeat (first | exact Uh | apply Ut)) (vals_put (k := i - 1) (by omega) (by simp; omega)) (hk undef _ ⟨QFs.nil, ?_⟩)
          refine D.done C hok (by kernel_rfl) ?_; refine Xs C ?_; refine Xr C rfl rfl ?_
          have hsw : (d2.setIfInBounds i d2[i - 1]!).setIfInBounds (i - 1) d2[i]! = (swp d2 i (i - 1)) := rfl
          rw [hsw]
          refine R.mov C rfl rfl rfl ?_; refine R.mov C rfl rfl rfl ?_; refine R.int C rfl rfl rfl rfl (b_sub (by omega) (by omega)) ?_; refine R.int C rfl rfl rfl rfl b_geq ?_; refine R.done C ?_; refine X.cond C.1 rfl (fun hd0 => ?_) (fun hd0 => ?_)
          · have hd0 := hd0
            simp only [decide_eq_true_eq] at hd0
            refine Xr C rfl rfl ?_; refine R.mov C rfl rfl rfl ?_; refine R.int C rfl rfl rfl rfl (b_sub (by omega) (by omega)) ?_; refine R.fixv (t := 63) (v' := .int .i64 ((i - 1 : Nat) : Int)) rfl (by (congr 1; omega)) ?_; refine Ad C rfl rfl rfl ?_; refine X.block C.1 ?_; refine X.loopB (ι := Nat × Array Int) C.1 (fun s => s.1 < b ∧ s.2.size = d.size ∧ shiftDown ltInt s.1 s.2 = shiftDown ltInt (i - 1) (swp d2 i (i - 1))) (fun s => [(0, .slice (some ⟨p, 0, none⟩) d.size cap), (1, .int .i64 (a : Int)), (2, .int .i64 (b : Int)), (7, .int .i64 ((i : Nat) : Int)), (8, .int .i64 ((k : Nat) : Int)), (9, .int .i64 ((s.1 : Nat) : Int))])
              (fun s => ⟨ro, (p, .cells (vals s.2 ++ sp).toArray 3 (0, 0)) :: tail⟩) (fun s => s.1) (i - 1, (swp d2 i (i - 1))) (fun s => s.2.size = d.size ∧ shiftDown ltInt (i - 1) (swp d2 i (i - 1)) = s.2) ⟨by show i - 1 < b; omega, by rw [swp_sz]; exact h1, rfl⟩ rfl ⟨rfl, rfl, rfl, rfl, rfl, rfl, trivial⟩ (fun s hs => ?_) fun s hs hnd hed => ?_
            · obtain ⟨j, d3⟩ := s
              obtain ⟨h31, h32⟩ := hs
              simp only at h31 h32 ⊢
              refine Xr C rfl rfl ?_; refine R.mov C rfl rfl rfl ?_; refine R.mov C rfl rfl rfl ?_; refine R.int C rfl rfl rfl rfl (b_sub (by omega) (by omega)) ?_; refine R.int C rfl rfl rfl rfl b_geq ?_; refine R.done C ?_; refine X.cond C.1 rfl (fun hu => ?_) (fun hu => ?_)
              · have hu := hu
                simp only [decide_eq_true_eq] at hu
                refine Xr C rfl rfl ?_; refine R.mov C rfl rfl rfl ?_; refine R.int C rfl rfl rfl rfl (b_add (by omega) (by omega)) ?_; refine R.fixv (t := 100) (v' := .int .i64 ((i + 1 : Nat) : Int)) rfl (by rfl) ?_; refine Ad C rfl rfl rfl ?_; refine X.block C.1 ?_; refine X.loopB (ι := Nat × Array Int) C.1 (fun s => i + 1 ≤ s.1 ∧ s.1 ≤ b ∧ s.2.size = d.size ∧ shiftUp ltInt b s.1 s.2 = shiftUp ltInt b (i + 1) d3) (fun s => [(0, .slice (some ⟨p, 0, none⟩) d.size cap), (1, .int .i64 (a : Int)), (2, .int .i64 (b : Int)), (7, .int .i64 ((i : Nat) : Int)), (8, .int .i64 ((k : Nat) : Int)), (10, .int .i64 ((s.1 : Nat) : Int))])
                  (fun s => ⟨ro, (p, .cells (vals s.2 ++ sp).toArray 3 (0, 0)) :: tail⟩) (fun s => b - s.1) (i + 1, d3) (fun s => s.2.size = d.size ∧ shiftUp ltInt b (i + 1) d3 = s.2) ⟨Nat.le_refl _, by show i + 1 ≤ b; omega, h31, rfl⟩ rfl ⟨rfl, rfl, rfl, rfl, rfl, rfl, trivial⟩ (fun s hs => ?_) fun s hs hnu heu => ?_
                · obtain ⟨j, d5⟩ := s
                  obtain ⟨h51, h52⟩ := hs
                  simp only at h51 h52 ⊢
                  refine X.inBlock C.1 ?_; refine X.region C rfl rfl ?_; refine R.mov C rfl rfl rfl ?_; refine R.int C rfl rfl rfl rfl (b_add (by omega) (by omega)) ?_; refine Ad C rfl rfl rfl ?_; refine X.weaken ?_ (hnext (k + 1, i, d5) ⟨by show k + 1 ≤ 5; omega, by show a + 1 ≤ i; omega, by show i ≤ b; omega, ?_, ?_⟩ (by show 5 - (k + 1) < 5 - k; omega))
                  · exact ⟨rfl, rfl, rfl, rfl, by simp [look], trivial⟩
                  · show (d5).size = d.size; first | assumption | (rw [swp_sz]; assumption)
                  · show partialIns ltInt a b (5 - (k + 1)) i d5 = _
                    rw [← hp5]; rw [fixDown, if_pos (by omega), h32]; rw [fixUp, if_pos (by omega), h52]
                · obtain ⟨j, d4⟩ := s
                  obtain ⟨g1, g2, g3, g4⟩ := hs
                  simp only at g1 g2 g3 g4 hnu heu ⊢
                  refine Xs C ?_; refine Xr C rfl rfl ?_; refine R.mov C rfl rfl rfl ?_; refine R.mov C rfl rfl rfl ?_; refine R.int C rfl rfl rfl rfl b_lss ?_; refine R.done C ?_; refine X.cond C.1 rfl (fun hjb => ?_) (fun hjb => ?_)
                  · have hjb := hjb
                    simp only [decide_eq_true_eq] at hjb
                    refine X.skip C.1 ?_; refine Xs C ?_; refine X.block C.1 ?_; refine Xs C ?_; refine Xs C ?_; refine X.regionD C (by kernel_rfl) (by kernel_rfl) (by kernel_rfl) fun hok => ?_; refine Dm C 0 hok rfl (by kernel_rfl) rfl rfl rfl rfl ?_; refine Dm C 1 hok rfl (by kernel_rfl) rfl rfl rfl rfl ?_; refine Dp 2 hok rfl (by kernel_rfl) (fun _ _ _ A h => R.indexAddr C rfl (A.w rfl rfl) (A.x rfl rfl) (A.x rfl rfl) runUnderlying28 sizeOf3 (by omega) (by omega) h) ?_; refine Dl 3 hok rfl (by kernel_rfl) (fun _ _ A h => R.loadOne C rfl (A.w rfl rfl) (A.x rfl rfl) isAgg3 (by repeat (first | exact Mh | apply Mt)) (vals_at (k := j) (by omega) (by omega)) h) ?_; refine Dm C 4 hok rfl (by kernel_rfl) rfl rfl rfl rfl ?_; refine Dm C 5 hok rfl (by kernel_rfl) rfl rfl rfl rfl ?_; refine Di C 6 hok rfl (by kernel_rfl) rfl rfl rfl rfl rfl rfl (b_sub (by omega) (by omega)) ?_; refine Dp 7 hok rfl (by kernel_rfl) (fun _ _ _ A h => R.indexAddr C rfl (A.w rfl rfl) (A.x rfl rfl) (A.x rfl rfl) runUnderlying28 sizeOf3 (by omega) (by omega) h) ?_; refine Dl 8 hok rfl (by kernel_rfl) (fun _ _ A h => R.loadOne C rfl (A.w rfl rfl) (A.x rfl rfl) isAgg3 (by repeat (first | exact Mh | apply Mt)) (vals_at (k := j - 1) (by omega) (by omega)) h) ?_; refine D.eP (i := 9) (dst := (some 115)) [false, false] hok rfl (by kernel_rfl) (by kernel_rfl) (fun σr rest A hk => ?_)
                    refine R.callP C rfl (A.w rfl rfl) (A.x rfl rfl) (A.s rfl rfl) (less_c hJ _ _ _) (hk _ _ ⟨QFs.nil, ?_⟩)
                    refine Dp 10 hok rfl (by kernel_rfl) (fun _ _ _ A h => R.not C rfl (A.w rfl rfl) (A.x rfl rfl) h) ?_; refine D.done C hok (by kernel_rfl) ?_; refine X.cond C.1 rfl (fun hl => ?_) (fun hl => ?_)
                    · have hl := hl
                      refine X.exit C.1 rfl ?_; refine X.weaken ?_ (heu (j, d4) ⟨g3, by rw [← g4, shU_stop (.inr hl)]⟩)
                      exact ⟨rfl, rfl, rfl, rfl, rfl, rfl, trivial⟩
                    · have hl := hl
                      refine X.skip C.1 ?_; refine X.regionD C (by kernel_rfl) (by kernel_rfl) (by kernel_rfl) fun hok => ?_; refine Dm C 0 hok rfl (by kernel_rfl) rfl rfl rfl rfl ?_; refine Dm C 1 hok rfl (by kernel_rfl) rfl rfl rfl rfl ?_; refine Dm C 2 hok rfl (by kernel_rfl) rfl rfl rfl rfl ?_; refine Dm C 3 hok rfl (by kernel_rfl) rfl rfl rfl rfl ?_; refine Di C 4 hok rfl (by kernel_rfl) rfl rfl rfl rfl rfl rfl (b_sub (by omega) (by omega)) ?_; refine Dm C 5 hok rfl (by kernel_rfl) rfl rfl rfl rfl ?_; refine Dm C 6 hok rfl (by kernel_rfl) rfl rfl rfl rfl ?_; refine Di C 7 hok rfl (by kernel_rfl) rfl rfl rfl rfl rfl rfl (b_sub (by omega) (by omega)) ?_; refine Dp 8 hok rfl (by kernel_rfl) (fun _ _ _ A h => R.indexAddr C rfl (A.w rfl rfl) (A.x rfl rfl) (A.x rfl rfl) runUnderlying28 sizeOf3 (by omega) (by omega) h) ?_; refine Dl 9 hok rfl (by kernel_rfl) (fun _ _ A h => R.loadOne C rfl (A.w rfl rfl) (A.x rfl rfl) isAgg3 (by repeat (first | exact Mh | apply Mt)) (vals_at (k := j - 1) (by omega) (by omega)) h) ?_; refine Dm C 10 hok rfl (by kernel_rfl) rfl rfl rfl rfl ?_; refine Dm C 11 hok rfl (by kernel_rfl) rfl rfl rfl rfl ?_; refine Dp 12 hok rfl (by kernel_rfl) (fun _ _ _ A h => R.indexAddr C rfl (A.w rfl rfl) (A.x rfl rfl) (A.x rfl rfl) runUnderlying28 sizeOf3 (by omega) (by omega) h) ?_; refine Dl 13 hok rfl (by kernel_rfl) (fun _ _ A h => R.loadOne C rfl (A.w rfl rfl) (A.x rfl rfl) isAgg3 (by repeat (first | exact Mh | apply Mt)) (vals_at (k := j) (by omega) (by omega)) h) ?_; refine Dp 14 hok rfl (by kernel_rfl) (fun _ _ _ A h => R.indexAddr C rfl (A.w rfl rfl) (A.x rfl rfl) (A.x rfl rfl) runUnderlying28 sizeOf3 (by omega) (by omega) h) ?_; refine D.eP (i := 15) (dst := none) [false, false] hok rfl (by kernel_rfl) (by kernel_rfl) (fun σr rest A hk => ?_)
                      refine R.store C rfl (A.w rfl rfl) (A.x rfl rfl) (A.x rfl rfl) sizeOf3 rfl rfl rfl (by repeat (first | exact Uh | apply Ut)) (vals_put (k := j) (by omega) (by omega)) (hk undef _ ⟨QFs.nil, ?_⟩)
                      refine Dp 16 hok rfl (by kernel_rfl) (fun _ _ _ A h => R.indexAddr C rfl (A.w rfl rfl) (A.x rfl rfl) (A.x rfl rfl) runUnderlying28 sizeOf3 (by omega) (by omega) h) ?_; refine D.eP (i := 17) (dst := none) [] hok rfl (by kernel_rfl) (by kernel_rfl) (fun σr rest A hk => ?_)
                      refine R.store C rfl (A.w rfl rfl) (A.x rfl rfl) (A.x rfl rfl) sizeOf3 rfl rfl rfl (by repeat (first | exact Uh | apply Ut)) (vals_put (k := j - 1) (by omega) (by simp; omega)) (hk undef _ ⟨QFs.nil, ?_⟩)
                      refine D.done C hok (by kernel_rfl) ?_; refine X.inBlock C.1 ?_; refine X.region C rfl rfl ?_; refine R.mov C rfl rfl rfl ?_; refine R.int C rfl rfl rfl rfl (b_add (by omega) (by omega)) ?_; refine Ad C rfl rfl rfl ?_; refine X.weaken ?_ (hnu (j + 1, swp d4 j (j - 1)) ⟨by show i + 1 ≤ j + 1; omega, by show j + 1 ≤ b; omega, by rw [swp_sz]; exact g3, by rw [← g4, shU_go (by omega) hl]⟩ (by show b - (j + 1) < b - j; omega))
                      exact ⟨rfl, rfl, rfl, rfl, rfl, by simp [look], trivial⟩
                  · have hjb := hjb
                    simp only [decide_eq_false_iff_not] at hjb
                    refine X.exit C.1 rfl ?_; refine X.weaken ?_ (heu (j, d4) ⟨g3, by rw [← g4, shU_stop (.inl (by omega))]⟩)
                    exact ⟨rfl, rfl, rfl, rfl, rfl, rfl, trivial⟩
              · have hu := hu
                simp only [decide_eq_false_iff_not] at hu
                refine X.skip C.1 ?_; refine X.inBlock C.1 ?_; refine X.region C rfl rfl ?_; refine R.mov C rfl rfl rfl ?_; refine R.int C rfl rfl rfl rfl (b_add (by omega) (by omega)) ?_; refine Ad C rfl rfl rfl ?_; refine X.weaken ?_ (hnext (k + 1, i, d3) ⟨by show k + 1 ≤ 5; omega, by show a + 1 ≤ i; omega, by show i ≤ b; omega, ?_, ?_⟩ (by show 5 - (k + 1) < 5 - k; omega))
                · exact ⟨rfl, rfl, rfl, rfl, by simp [look], trivial⟩
                · show (d3).size = d.size; first | assumption | (rw [swp_sz]; assumption)
                · show partialIns ltInt a b (5 - (k + 1)) i d3 = _
                  rw [← hp5]; rw [fixDown, if_pos (by omega), h32]; rw [fixUp, if_neg (by omega)]
            · obtain ⟨j, d4⟩ := s
              obtain ⟨g1, g3, g4⟩ := hs
              simp only at g1 g3 g4 hnd hed ⊢
              refine Xs C ?_; refine Xr C rfl rfl ?_; refine R.mov C rfl rfl rfl ?_; refine R.int C rfl rfl rfl rfl b_geq ?_; refine R.done C ?_; refine X.cond C.1 rfl (fun hjb => ?_) (fun hjb => ?_)
              · have hjb := hjb
                simp only [decide_eq_true_eq] at hjb
                refine X.skip C.1 ?_; refine Xs C ?_; refine X.block C.1 ?_; refine Xs C ?_; refine Xs C ?_; refine X.regionD C (by kernel_rfl) (by kernel_rfl) (by kernel_rfl) fun hok => ?_; refine Dm C 0 hok rfl (by kernel_rfl) rfl rfl rfl rfl ?_; refine Dm C 1 hok rfl (by kernel_rfl) rfl rfl rfl rfl ?_; refine Dp 2 hok rfl (by kernel_rfl) (fun _ _ _ A h => R.indexAddr C rfl (A.w rfl rfl) (A.x rfl rfl) (A.x rfl rfl) runUnderlying28 sizeOf3 (by omega) (by omega) h) ?_; refine Dl 3 hok rfl (by kernel_rfl) (fun _ _ A h => R.loadOne C rfl (A.w rfl rfl) (A.x rfl rfl) isAgg3 (by repeat (first | exact Mh | apply Mt)) (vals_at (k := j) (by omega) (by omega)) h) ?_; refine Dm C 4 hok rfl (by kernel_rfl) rfl rfl rfl rfl ?_; refine Dm C 5 hok rfl (by kernel_rfl) rfl rfl rfl rfl ?_; refine Di C 6 hok rfl (by kernel_rfl) rfl rfl rfl rfl rfl rfl (b_sub (by omega) (by omega)) ?_; refine Dp 7 hok rfl (by kernel_rfl) (fun _ _ _ A h => R.indexAddr C rfl (A.w rfl rfl) (A.x rfl rfl) (A.x rfl rfl) runUnderlying28 sizeOf3 (by omega) (by omega) h) ?_; refine Dl 8 hok rfl (by kernel_rfl) (fun _ _ A h => R.loadOne C rfl (A.w rfl rfl) (A.x rfl rfl) isAgg3 (by repeat (first | exact Mh | apply Mt)) (vals_at (k := j - 1) (by omega) (by omega)) h) ?_; refine D.eP (i := 9) (dst := (some 77)) [false, false] hok rfl (by kernel_rfl) (by kernel_rfl) (fun σr rest A hk => ?_)
                refine R.callP C rfl (A.w rfl rfl) (A.x rfl rfl) (A.s rfl rfl) (less_c hJ _ _ _) (hk _ _ ⟨QFs.nil, ?_⟩)
                refine Dp 10 hok rfl (by kernel_rfl) (fun _ _ _ A h => R.not C rfl (A.w rfl rfl) (A.x rfl rfl) h) ?_; refine D.done C hok (by kernel_rfl) ?_; refine X.cond C.1 rfl (fun hl => ?_) (fun hl => ?_)
                · have hl := hl
                  refine X.exit C.1 rfl ?_; refine X.weaken ?_ (hed (j, d4) ⟨g3, by rw [← g4, shD_stop (.inr hl)]⟩)
                  exact ⟨rfl, rfl, rfl, rfl, rfl, rfl, trivial⟩
                · have hl := hl
                  refine X.skip C.1 ?_; refine X.regionD C (by kernel_rfl) (by kernel_rfl) (by kernel_rfl) fun hok => ?_; refine Dm C 0 hok rfl (by kernel_rfl) rfl rfl rfl rfl ?_; refine Dm C 1 hok rfl (by kernel_rfl) rfl rfl rfl rfl ?_; refine Dm C 2 hok rfl (by kernel_rfl) rfl rfl rfl rfl ?_; refine Dm C 3 hok rfl (by kernel_rfl) rfl rfl rfl rfl ?_; refine Di C 4 hok rfl (by kernel_rfl) rfl rfl rfl rfl rfl rfl (b_sub (by omega) (by omega)) ?_; refine Dm C 5 hok rfl (by kernel_rfl) rfl rfl rfl rfl ?_; refine Dm C 6 hok rfl (by kernel_rfl) rfl rfl rfl rfl ?_; refine Di C 7 hok rfl (by kernel_rfl) rfl rfl rfl rfl rfl rfl (b_sub (by omega) (by omega)) ?_; refine Dp 8 hok rfl (by kernel_rfl) (fun _ _ _ A h => R.indexAddr C rfl (A.w rfl rfl) (A.x rfl rfl) (A.x rfl rfl) runUnderlying28 sizeOf3 (by omega) (by omega) h) ?_; refine Dl 9 hok rfl (by kernel_rfl) (fun _ _ A h => R.loadOne C rfl (A.w rfl rfl) (A.x rfl rfl) isAgg3 (by repeat (first | exact Mh | apply Mt)) (vals_at (k := j - 1) (by omega) (by omega)) h) ?_; refine Dm C 10 hok rfl (by kernel_rfl) rfl rfl rfl rfl ?_; refine Dm C 11 hok rfl (by kernel_rfl) rfl rfl rfl rfl ?_; refine Dp 12 hok rfl (by kernel_rfl) (fun _ _ _ A h => R.indexAddr C rfl (A.w rfl rfl) (A.x rfl rfl) (A.x rfl rfl) runUnderlying28 sizeOf3 (by omega) (by omega) h) ?_; refine Dl 13 hok rfl (by kernel_rfl) (fun _ _ A h => R.loadOne C rfl (A.w rfl rfl) (A.x rfl rfl) isAgg3 (by repeat (first | exact Mh | apply Mt)) (vals_at (k := j) (by omega) (by omega)) h) ?_; refine Dp 14 hok rfl (by kernel_rfl) (fun _ _ _ A h => R.indexAddr C rfl (A.w rfl rfl) (A.x rfl rfl) (A.x rfl rfl) runUnderlying28 sizeOf3 (by omega) (by omega) h) ?_; refine D.eP (i := 15) (dst := none) [false, false] hok rfl (by kernel_rfl) (by kernel_rfl) (fun σr rest A hk => ?_)
                  refine R.store C rfl (A.w rfl rfl) (A.x rfl rfl) (A.x rfl rfl) sizeOf3 rfl rfl rfl (by repeat (first | exact Uh | apply Ut)) (vals_put (k := j) (by omega) (by omega)) (hk undef _ ⟨QFs.nil, ?_⟩)
                  refine Dp 16 hok rfl (by kernel_rfl) (fun _ _ _ A h => R.indexAddr C rfl (A.w rfl rfl) (A.x rfl rfl) (A.x rfl rfl) runUnderlying28 sizeOf3 (by omega) (by omega) h) ?_; refine D.eP (i := 17) (dst := none) [] hok rfl (by kernel_rfl) (by kernel_rfl) (fun σr rest A hk => ?_)
                  refine R.store C rfl (A.w rfl rfl) (A.x rfl rfl) (A.x rfl rfl) sizeOf3 rfl rfl rfl (by repeat (first | exact Uh | apply Ut)) (vals_put (k := j - 1) (by omega) (by simp; omega)) (hk undef _ ⟨QFs.nil, ?_⟩)
                  refine D.done C hok (by kernel_rfl) ?_; refine X.inBlock C.1 ?_; refine X.region C rfl rfl ?_; refine R.mov C rfl rfl rfl ?_; refine R.int C rfl rfl rfl rfl (b_sub (by omega) (by omega)) ?_; refine Ad C rfl rfl rfl ?_; refine X.weaken ?_ (hnd (j - 1, swp d4 j (j - 1)) ⟨by show j - 1 < b; omega, by rw [swp_sz]; exact g3, by rw [← g4, shD_go (by omega) hl]⟩ (by show j - 1 < j; omega))
                  exact ⟨rfl, rfl, rfl, rfl, rfl, congrArg (fun z => some (Value.int .i64 z)) (by show (j : Int) - 1 = ((j - 1 : Nat) : Int); omega), trivial⟩
              · have hjb := hjb
                simp only [decide_eq_false_iff_not] at hjb
                refine X.exit C.1 rfl ?_; refine X.weaken ?_ (hed (j, d4) ⟨g3, by rw [← g4, shD_stop (.inl (by omega))]⟩)
                exact ⟨rfl, rfl, rfl, rfl, rfl, rfl, trivial⟩
          · have hd0 := hd0
            simp only [decide_eq_false_iff_not] at hd0
            refine X.skip C.1 ?_; refine Xr C rfl rfl ?_; refine R.mov C rfl rfl rfl ?_; refine R.mov C rfl rfl rfl ?_; refine R.int C rfl rfl rfl rfl (b_sub (by omega) (by omega)) ?_; refine R.int C rfl rfl rfl rfl b_geq ?_; refine R.done C ?_; refine X.cond C.1 rfl (fun hu => ?_) (fun hu => ?_)
            · have hu := hu
              simp only [decide_eq_true_eq] at hu
              refine Xr C rfl rfl ?_; refine R.mov C rfl rfl rfl ?_; refine R.int C rfl rfl rfl rfl (b_add (by omega) (by omega)) ?_; refine R.fixv (t := 100) (v' := .int .i64 ((i + 1 : Nat) : Int)) rfl (by rfl) ?_; refine Ad C rfl rfl rfl ?_; refine X.block C.1 ?_; refine X.loopB (ι := Nat × Array Int) C.1 (fun s => i + 1 ≤ s.1 ∧ s.1 ≤ b ∧ s.2.size = d.size ∧ shiftUp ltInt b s.1 s.2 = shiftUp ltInt b (i + 1) (swp d2 i (i - 1))) (fun s => [(0, .slice (some ⟨p, 0, none⟩) d.size cap), (1, .int .i64 (a : Int)), (2, .int .i64 (b : Int)), (7, .int .i64 ((i : Nat) : Int)), (8, .int .i64 ((k : Nat) : Int)), (10, .int .i64 ((s.1 : Nat) : Int))])
                (fun s => ⟨ro, (p, .cells (vals s.2 ++ sp).toArray 3 (0, 0)) :: tail⟩) (fun s => b - s.1) (i + 1, (swp d2 i (i - 1))) (fun s => s.2.size = d.size ∧ shiftUp ltInt b (i + 1) (swp d2 i (i - 1)) = s.2) ⟨Nat.le_refl _, by show i + 1 ≤ b; omega, by rw [swp_sz]; exact h1, rfl⟩ rfl ⟨rfl, rfl, rfl, rfl, rfl, rfl, trivial⟩ (fun s hs => ?_) fun s hs hnu heu => ?_
              · obtain ⟨j, d5⟩ := s
                obtain ⟨h51, h52⟩ := hs
                simp only at h51 h52 ⊢
                refine X.inBlock C.1 ?_; refine X.region C rfl rfl ?_; refine R.mov C rfl rfl rfl ?_; refine R.int C rfl rfl rfl rfl (b_add (by omega) (by omega)) ?_; refine Ad C rfl rfl rfl ?_; refine X.weaken ?_ (hnext (k + 1, i, d5) ⟨by show k + 1 ≤ 5; omega, by show a + 1 ≤ i; omega, by show i ≤ b; omega, ?_, ?_⟩ (by show 5 - (k + 1) < 5 - k; omega))
                · exact ⟨rfl, rfl, rfl, rfl, by simp [look], trivial⟩
                · show (d5).size = d.size; first | assumption | (rw [swp_sz]; assumption)
                · show partialIns ltInt a b (5 - (k + 1)) i d5 = _
                  rw [← hp5]; rw [fixDown, if_neg (by omega)]; rw [fixUp, if_pos (by omega), h52]
              · obtain ⟨j, d4⟩ := s
                obtain ⟨g1, g2, g3, g4⟩ := hs
                simp only at g1 g2 g3 g4 hnu heu ⊢
                refine Xs C ?_; refine Xr C rfl rfl ?_; refine R.mov C rfl rfl rfl ?_; refine R.mov C rfl rfl rfl ?_; refine R.int C rfl rfl rfl rfl b_lss ?_; refine R.done C ?_; refine X.cond C.1 rfl (fun hjb => ?_) (fun hjb => ?_)
                · have hjb := hjb
                  simp only [decide_eq_true_eq] at hjb
                  refine X.skip C.1 ?_; refine Xs C ?_; refine X.block C.1 ?_; refine Xs C ?_; refine Xs C ?_; refine X.regionD C (by kernel_rfl) (by kernel_rfl) (by kernel_rfl) fun hok => ?_; refine Dm C 0 hok rfl (by kernel_rfl) rfl rfl rfl rfl ?_; refine Dm C 1 hok rfl (by kernel_rfl) rfl rfl rfl rfl ?_; refine Dp 2 hok rfl (by kernel_rfl) (fun _ _ _ A h => R.indexAddr C rfl (A.w rfl rfl) (A.x rfl rfl) (A.x rfl rfl) runUnderlying28 sizeOf3 (by omega) (by omega) h) ?_; refine Dl 3 hok rfl (by kernel_rfl) (fun _ _ A h => R.loadOne C rfl (A.w rfl rfl) (A.x rfl rfl) isAgg3 (by repeat (first | exact Mh | apply Mt)) (vals_at (k := j) (by omega) (by omega)) h) ?_; refine Dm C 4 hok rfl (by kernel_rfl) rfl rfl rfl rfl ?_; refine Dm C 5 hok rfl (by kernel_rfl) rfl rfl rfl rfl ?_; refine Di C 6 hok rfl (by kernel_rfl) rfl rfl rfl rfl rfl rfl (b_sub (by omega) (by omega)) ?_; refine Dp 7 hok rfl (by kernel_rfl) (fun _ _ _ A h => R.indexAddr C rfl (A.w rfl rfl) (A.x rfl rfl) (A.x rfl rfl) runUnderlying28 sizeOf3 (by omega) (by omega) h) ?_; refine Dl 8 hok rfl (by kernel_rfl) (fun _ _ A h => R.loadOne C rfl (A.w rfl rfl) (A.x rfl rfl) isAgg3 (by repeat (first | exact Mh | apply Mt)) (vals_at (k := j - 1) (by omega) (by omega)) h) ?_; refine D.eP (i := 9) (dst := (some 115)) [false, false] hok rfl (by kernel_rfl) (by kernel_rfl) (fun σr rest A hk => ?_)
                  refine R.callP C rfl (A.w rfl rfl) (A.x rfl rfl) (A.s rfl rfl) (less_c hJ _ _ _) (hk _ _ ⟨QFs.nil, ?_⟩)
                  refine Dp 10 hok rfl (by kernel_rfl) (fun _ _ _ A h => R.not C rfl (A.w rfl rfl) (A.x rfl rfl) h) ?_; refine D.done C hok (by kernel_rfl) ?_; refine X.cond C.1 rfl (fun hl => ?_) (fun hl => ?_)
                  · have hl := hl
                    refine X.exit C.1 rfl ?_; refine X.weaken ?_ (heu (j, d4) ⟨g3, by rw [← g4, shU_stop (.inr hl)]⟩)
                    exact ⟨rfl, rfl, rfl, rfl, rfl, rfl, trivial⟩
                  · have hl := hl
                    refine X.skip C.1 ?_; refine X.regionD C (by kernel_rfl) (by kernel_rfl) (by kernel_rfl) fun hok => ?_; refine Dm C 0 hok rfl (by kernel_rfl) rfl rfl rfl rfl ?_; refine Dm C 1 hok rfl (by kernel_rfl) rfl rfl rfl rfl ?_; refine Dm C 2 hok rfl (by kernel_rfl) rfl rfl rfl rfl ?_; refine Dm C 3 hok rfl (by kernel_rfl) rfl rfl rfl rfl ?_; refine Di C 4 hok rfl (by kernel_rfl) rfl rfl rfl rfl rfl rfl (b_sub (by omega) (by omega)) ?_; refine Dm C 5 hok rfl (by kernel_rfl) rfl rfl rfl rfl ?_; refine Dm C 6 hok rfl (by kernel_rfl) rfl rfl rfl rfl ?_; refine Di C 7 hok rfl (by kernel_rfl) rfl rfl rfl rfl rfl rfl (b_sub (by omega) (by omega)) ?_; refine Dp 8 hok rfl (by kernel_rfl) (fun _ _ _ A h => R.indexAddr C rfl (A.w rfl rfl) (A.x rfl rfl) (A.x rfl rfl) runUnderlying28 sizeOf3 (by omega) (by omega) h) ?_; refine Dl 9 hok rfl (by kernel_rfl) (fun _ _ A h => R.loadOne C rfl (A.w rfl rfl) (A.x rfl rfl) isAgg3 (by repeat (first | exact Mh | apply Mt)) (vals_at (k := j - 1) (by omega) (by omega)) h) ?_; refine Dm C 10 hok rfl (by kernel_rfl) rfl rfl rfl rfl ?_; refine Dm C 11 hok rfl (by kernel_rfl) rfl rfl rfl rfl ?_; refine Dp 12 hok rfl (by kernel_rfl) (fun _ _ _ A h => R.indexAddr C rfl (A.w rfl rfl) (A.x rfl rfl) (A.x rfl rfl) runUnderlying28 sizeOf3 (by omega) (by omega) h) ?_; refine Dl 13 hok rfl (by kernel_rfl) (fun _ _ A h => R.loadOne C rfl (A.w rfl rfl) (A.x rfl rfl) isAgg3 (by repeat (first | exact Mh | apply Mt)) (vals_at (k := j) (by omega) (by omega)) h) ?_; refine Dp 14 hok rfl (by kernel_rfl) (fun _ _ _ A h => R.indexAddr C rfl (A.w rfl rfl) (A.x rfl rfl) (A.x rfl rfl) runUnderlying28 sizeOf3 (by omega) (by omega) h) ?_; refine D.eP (i := 15) (dst := none) [false, false] hok rfl (by kernel_rfl) (by kernel_rfl) (fun σr rest A hk => ?_)
                    refine R.store C rfl (A.w rfl rfl) (A.x rfl rfl) (A.x rfl rfl) sizeOf3 rfl rfl rfl (by repeat (first | exact Uh | apply Ut)) (vals_put (k := j) (by omega) (by omega)) (hk undef _ ⟨QFs.nil, ?_⟩)
                    refine Dp 16 hok rfl (by kernel_rfl) (fun _ _ _ A h => R.indexAddr C rfl (A.w rfl rfl) (A.x rfl rfl) (A.x rfl rfl) runUnderlying28 sizeOf3 (by omega) (by omega) h) ?_; refine D.eP (i := 17) (dst := none) [] hok rfl (by kernel_rfl) (by kernel_rfl) (fun σr rest A hk => ?_)
                    refine R.store C rfl (A.w rfl rfl) (A.x rfl rfl) (A.x rfl rfl) sizeOf3 rfl rfl rfl (by repeat (first | exact Uh | apply Ut)) (vals_put (k := j - 1) (by omega) (by simp; omega)) (hk undef _ ⟨QFs.nil, ?_⟩)
                    refine D.done C hok (by kernel_rfl) ?_; refine X.inBlock C.1 ?_; refine X.region C rfl rfl ?_; refine R.mov C rfl rfl rfl ?_; refine R.int C rfl rfl rfl rfl (b_add (by omega) (by omega)) ?_; refine Ad C rfl rfl rfl ?_; refine X.weaken ?_ (hnu (j + 1, swp d4 j (j - 1)) ⟨by show i + 1 ≤ j + 1; omega, by show j + 1 ≤ b; omega, by rw [swp_sz]; exact g3, by rw [← g4, shU_go (by omega) hl]⟩ (by show b - (j + 1) < b - j; omega))
                    exact ⟨rfl, rfl, rfl, rfl, rfl, by simp [look], trivial⟩
                · have hjb := hjb
                  simp only [decide_eq_false_iff_not] at hjb
                  refine X.exit C.1 rfl ?_; refine X.weaken ?_ (heu (j, d4) ⟨g3, by rw [← g4, shU_stop (.inl (by omega))]⟩)
                  exact ⟨rfl, rfl, rfl, rfl, rfl, rfl, trivial⟩
            · have hu := hu
              simp only [decide_eq_false_iff_not] at hu
              refine X.skip C.1 ?_; refine X.inBlock C.1 ?_; refine X.region C rfl rfl ?_; refine R.mov C rfl rfl rfl ?_; refine R.int C rfl rfl rfl rfl (b_add (by omega) (by omega)) ?_; refine Ad C rfl rfl rfl ?_; refine X.weaken ?_ (hnext (k + 1, i, (swp d2 i (i - 1))) ⟨by show k + 1 ≤ 5; omega, by show a + 1 ≤ i; omega, by show i ≤ b; omega, ?_, ?_⟩ (by show 5 - (k + 1) < 5 - k; omega))
              · exact ⟨rfl, rfl, rfl, rfl, by simp [look], trivial⟩
              · show ((swp d2 i (i - 1))).size = d.size; first | assumption | (rw [swp_sz]; assumption)
              · show partialIns ltInt a b (5 - (k + 1)) i (swp d2 i (i - 1)) = _
                rw [← hp5]; rw [fixDown, if_neg (by omega)]; rw [fixUp, if_neg (by omega)]
    · obtain ⟨hia, hib, hic⟩ := h
      refine Xs C ?_; refine Xs C ?_; refine X.regionD C (by kernel_rfl) (by kernel_rfl) (by kernel_rfl) fun hok => ?_; refine Dm C 0 hok rfl (by kernel_rfl) rfl rfl rfl rfl ?_; refine Dm C 1 hok rfl (by kernel_rfl) rfl rfl rfl rfl ?_; refine Di C 2 hok rfl (by kernel_rfl) rfl rfl rfl rfl rfl rfl b_lss ?_; refine Dm C 3 hok rfl (by kernel_rfl) rfl rfl rfl rfl ?_; refine D.fix (t := 20) rfl (fun hg => ?_) (fun hg => ?_)
      · have hg := hg
        simp only [decide_eq_true_eq] at hg
        refine Dm C 4 hok rfl (by kernel_rfl) rfl rfl rfl rfl ?_; refine Dm C 5 hok rfl (by kernel_rfl) rfl rfl rfl rfl ?_; refine Dp 6 hok rfl (by kernel_rfl) (fun _ _ _ A h => R.indexAddr C rfl (A.w rfl rfl) (A.x rfl rfl) (A.x rfl rfl) runUnderlying28 sizeOf3 (by omega) (by omega) h) ?_; refine Dl 7 hok rfl (by kernel_rfl) (fun _ _ A h => R.loadOne C rfl (A.w rfl rfl) (A.x rfl rfl) isAgg3 (by repeat (first | exact Mh | apply Mt)) (vals_at (k := i) (by omega) (by omega)) h) ?_; refine Dm C 8 hok rfl (by kernel_rfl) rfl rfl rfl rfl ?_; refine Dm C 9 hok rfl (by kernel_rfl) rfl rfl rfl rfl ?_; refine Di C 10 hok rfl (by kernel_rfl) rfl rfl rfl rfl rfl rfl (b_sub (by omega) (by omega)) ?_; refine Dp 11 hok rfl (by kernel_rfl) (fun _ _ _ A h => R.indexAddr C rfl (A.w rfl rfl) (A.x rfl rfl) (A.x rfl rfl) runUnderlying28 sizeOf3 (by omega) (by omega) h) ?_; refine Dl 12 hok rfl (by kernel_rfl) (fun _ _ A h => R.loadOne C rfl (A.w rfl rfl) (A.x rfl rfl) isAgg3 (by repeat (first | exact Mh | apply Mt)) (vals_at (k := i - 1) (by omega) (by omega)) h) ?_; refine D.eP (i := 13) (dst := (some 30)) [false, false] hok rfl (by kernel_rfl) (by kernel_rfl) (fun σr rest A hk => ?_)
        refine R.callP C rfl (A.w rfl rfl) (A.x rfl rfl) (A.s rfl rfl) (less_c hJ _ _ _) (hk _ _ ⟨QFs.nil, ?_⟩)
        refine Dp 14 hok rfl (by kernel_rfl) (fun _ _ _ A h => R.not C rfl (A.w rfl rfl) (A.x rfl rfl) h) ?_; refine Dp 15 hok rfl (by kernel_rfl) (fun _ _ _ A h => R.pickT C rfl (A.w rfl rfl) (A.x rfl rfl) (A.x rfl rfl) h) ?_; refine D.done C hok (by kernel_rfl) ?_; refine X.cond C.1 rfl (fun hl => ?_) (fun hl => ?_)
        · have hl := hl
          refine X.skip C.1 ?_; refine X.block C.1 ?_; refine X.region C rfl rfl ?_; refine R.mov C rfl rfl rfl ?_; refine R.int C rfl rfl rfl rfl (b_add (by omega) (by omega)) ?_; refine Ad C rfl rfl rfl ?_; refine X.inBlock C.1 ?_; refine X.weaken ?_ (hns (i + 1) ⟨by omega, by omega, (scanS_go (by omega) hl).symm.trans hic⟩ (by omega))
          exact ⟨rfl, rfl, rfl, by simp [look], rfl, trivial⟩
        · have hl := hl
          refine X.exit C.1 rfl ?_; refine X.weaken ?_ (hes i ⟨by omega, by omega, (scanS_stop (.inr hl)).symm.trans hic⟩)
          exact ⟨rfl, rfl, rfl, rfl, rfl, trivial⟩
      · have hg := hg
        simp only [decide_eq_false_iff_not] at hg
        refine Dp 4 (v := undef) hok rfl (by kernel_rfl) (fun _ _ _ A h => R.pass C rfl (A.w rfl rfl) h) ?_; refine Dp 5 (v := undef) hok rfl (by kernel_rfl) (fun _ _ _ A h => R.pass C rfl (A.w rfl rfl) h) ?_; refine Dp 6 (v := undef) hok rfl (by kernel_rfl) (fun _ _ _ A h => R.pass C rfl (A.w rfl rfl) h) ?_; refine Dp 7 (v := undef) hok rfl (by kernel_rfl) (fun _ _ _ A h => R.pass C rfl (A.w rfl rfl) h) ?_; refine Dp 8 (v := undef) hok rfl (by kernel_rfl) (fun _ _ _ A h => R.pass C rfl (A.w rfl rfl) h) ?_; refine Dp 9 (v := undef) hok rfl (by kernel_rfl) (fun _ _ _ A h => R.pass C rfl (A.w rfl rfl) h) ?_; refine Dp 10 (v := undef) hok rfl (by kernel_rfl) (fun _ _ _ A h => R.pass C rfl (A.w rfl rfl) h) ?_; refine Dp 11 (v := undef) hok rfl (by kernel_rfl) (fun _ _ _ A h => R.pass C rfl (A.w rfl rfl) h) ?_; refine Dp 12 (v := undef) hok rfl (by kernel_rfl) (fun _ _ _ A h => R.pass C rfl (A.w rfl rfl) h) ?_; refine Dp 13 (v := undef) hok rfl (by kernel_rfl) (fun _ _ _ A h => R.pass C rfl (A.w rfl rfl) h) ?_; refine Dp 14 (v := undef) hok rfl (by kernel_rfl) (fun _ _ _ A h => R.pass C rfl (A.w rfl rfl) h) ?_; refine Dp 15 hok rfl (by kernel_rfl) (fun _ _ _ A h => R.pickF C rfl (A.w rfl rfl) (A.x rfl rfl) (A.x rfl rfl) h) ?_; refine D.done C hok (by kernel_rfl) ?_; refine X.cond C.1 rfl (fun h => nomatch h) (fun _ => ?_)
        refine X.exit C.1 rfl ?_; refine X.weaken ?_ (hes i ⟨by omega, by omega, (scanS_stop (.inl (by omega))).symm.trans hic⟩)
        exact ⟨rfl, rfl, rfl, rfl, rfl, trivial⟩
  · have hk5 := hk5
    simp only [decide_eq_false_iff_not] at hk5
    obtain rfl : k = 5 := by omega
    simp only [Nat.sub_self, partialIns] at hp5
    rw [← hp5] at hret
    refine X.exit C.1 rfl ?_; refine Xr C rfl rfl ?_; refine Ad C rfl rfl rfl ?_; refine X.ret C rfl rfl func189 rfl (by exact .tmp rfl .nil) ?_
    exact hret _ _ rfl rfl
end Go.Lg.B
namespace Go.Lg
open Go Go.Conc
section
variable {P : Program} {main : Bool} {J : Goroutine → Mem → Prop} {b : Frame} (C : Ctx P main J b) {cs : List Frame} {n : Nat} {ds : List Deferred} {σ : Slots} {k : List Item} {ops : Array Oper} {i : Nat} {rest : List Nat}
  {d : Nat} {ty : TypeId} {pos : String} {af : Array Edge} {g : Option (Nat × Bool)}
include C
theorem R.indexStr {t : TypeId} {x y : Operand} {ik : IntKind} {z : Int} {s : ByteArray} {v : UInt8} {M : Mem} (ho : ops[i]? = some ⟨some d, .index t x y, ty, pos, af, g⟩) (hg : wantedS ops σ ⟨some d, .index t x y, ty, pos, af, g⟩ = some true) (hx : ev σ x = some (.string s))
    (hy : ev σ y = some (.int ik z)) (hu : ∀ w, Sem.run P (Go.underlying t) w = .ok .string w) (h0 : 0 ≤ z) (hv : s[z.toNat]? = some v)
    (h : R J b cs n ops rest k ds ((d, .int .u8 (v.toNat : Int)) :: σ) M) : R J b cs n ops (i :: rest) k ds σ M :=
  R.v C ho hg rfl (fun _ hh _ hk => by
    unfold execOp; simp only [hh.ev hx, hh.ev hy]
    refine ex_v ?_
    show Sm P M (Instr.index t (.string s) (.int ik z)) _
    unfold Instr.index
    refine Sm.bind (Sm.pure (Sm.bind (Sm.underlying hu ?_)))
    simp only [h0, if_true, hv]
    exact Sm.pure hk) h
end
end Go.Lg
namespace Go.Lg.B
open Go Go.Conc Go.Lg Go.Proofs Go.Proofs.Tryz
open Go.Sort (ltInt swp bitsLen bitsLen_le_iff xorNextN xorNext breakStep breakPatterns)
def lenTab : ByteArray := ⟨#[0, 1, 2, 2, 3, 3, 3, 3, 4, 4, 4, 4, 4, 4, 4, 4, 5, 5, 5, 5, 5, 5, 5, 5, 5, 5, 5, 5, 5, 5, 5, 5, 6, 6, 6, 6, 6, 6, 6, 6, 6, 6, 6, 6, 6, 6, 6, 6, 6, 6, 6, 6, 6, 6, 6, 6, 6, 6, 6, 6, 6, 6, 6, 6, 7, 7, 7, 7, 7, 7, 7, 7, 7, 7, 7, 7, 7, 7, 7, 7, 7, 7, 7, 7, 7, 7, 7, 7, 7, 7, 7, 7, 7, 7, 7, 7, 7, 7, 7, 7, 7, 7, 7, 7, 7, 7, 7, 7, 7, 7, 7, 7, 7, 7, 7, 7, 7, 7, 7, 7, 7, 7, 7, 7, 7, 7, 7, 7, 8, 8, 8, 8, 8, 8, 8, 8, 8, 8, 8, 8, 8, 8, 8, 8, 8, 8, 8, 8, 8, 8, 8, 8, 8, 8, 8, 8, 8, 8, 8, 8, 8, 8, 8, 8, 8, 8, 8, 8, 8, 8, 8, 8, 8, 8, 8, 8, 8, 8, 8, 8, 8, 8, 8, 8, 8, 8, 8, 8, 8, 8, 8, 8, 8, 8, 8, 8, 8, 8, 8, 8, 8, 8, 8, 8, 8, 8, 8, 8, 8, 8, 8, 8, 8, 8, 8, 8, 8, 8, 8, 8, 8, 8, 8, 8, 8, 8, 8, 8, 8, 8, 8, 8, 8, 8, 8, 8, 8, 8, 8, 8, 8, 8, 8, 8, 8, 8, 8, 8, 8, 8, 8, 8, 8, 8, 8, 8]⟩
def bl (y : Nat) : Nat := if y = 0 then 0 else if y < 2 then 1 else if y < 4 then 2 else if y < 8 then 3 else if y < 16 then 4 else if y < 32 then 5 else if y < 64 then 6 else if y < 128 then 7 else 8
theorem tab_all : ((List.range 256).all fun y => lenTab[y]? == some (UInt8.ofNat (bl y))) = true := by kernel_rfl
theorem bl_eq {y : Nat} (h : y < 256) : bitsLen y = bl y := by
  have h0 := bitsLen_le_iff y 0
  have h1 := bitsLen_le_iff y 1
  have h2 := bitsLen_le_iff y 2
  have h3 := bitsLen_le_iff y 3
  have h4 := bitsLen_le_iff y 4
  have h5 := bitsLen_le_iff y 5
  have h6 := bitsLen_le_iff y 6
  have h7 := bitsLen_le_iff y 7
  have h8 := bitsLen_le_iff y 8
  simp only [Nat.reducePow] at h0 h1 h2 h3 h4 h5 h6 h7 h8
  unfold bl
  split
  · omega
  · split
    · omega
    · split
      · omega
      · split
        · omega
        · split
          · omega
          · split
            · omega
            · split
              · omega
              · split <;> omega
theorem bl_le (y : Nat) : bl y ≤ 8 := by
  unfold bl
  repeat' split
  all_goals omega
theorem tab_at {z : Int} {y : Nat} (hz : z = (y : Int)) (h : y < 256) : lenTab[z.toNat]? = some (UInt8.ofNat (bitsLen y)) := by
  subst hz
  have := List.all_eq_true.1 tab_all y (List.mem_range.2 h)
  rw [bl_eq h, Int.toNat_natCast]
  simpa using this
theorem tab_val {y : Nat} (h : y < 256) : ((UInt8.ofNat (bitsLen y)).toNat : Int) = (bitsLen y : Int) := by
  have h1 := bl_le y
  rw [bl_eq h, UInt8.toNat_ofNat']
  omega
theorem bitsLen_shift {x k : Nat} (h : 2 ^ k ≤ x) : bitsLen x = bitsLen (x / 2 ^ k) + k := by
  have hp := Nat.two_pow_pos k
  have key : ∀ m, bitsLen x ≤ m + k ↔ bitsLen (x / 2 ^ k) ≤ m := fun m => by
    rw [bitsLen_le_iff, bitsLen_le_iff, Nat.div_lt_iff_lt_mul hp, Nat.pow_add]
  have h1 := (key (bitsLen (x / 2 ^ k))).2 (Nat.le_refl _)
  have h2 : k < bitsLen x := by
    refine Nat.lt_of_not_le fun h3 => ?_
    have := (bitsLen_le_iff x k).1 h3
    omega
  have h3 := (key (bitsLen x - k)).1 (by omega)
  omega
theorem b_xorU {P : Program} {t : TypeId} {x y : Nat} (hx : x < 18446744073709551616) (hy : y < 18446744073709551616) : ∀ M K, K (.int .u64 ((x ^^^ y : Nat) : Int)) M → Sm P M (binOp .xor t (.int .u64 (x : Int)) (.int .u64 (y : Int))) K := fun M K h => by
  rw [← bits_xor_u64_nat x y hx hy] at h
  unfold binOp; simp only [ne_eq, not_true_eq_false, if_false]
  exact (Sm.pure h : Sm P M (Pure.pure (.int .u64 (bits .xor .u64 (x : Int) (y : Int))) : Sem Value) K)
theorem b_andN {P : Program} {t : TypeId} {x y : Nat} (hx : x < 18446744073709551616) (hy : y < 18446744073709551616) : ∀ M K, K (.int .u64 ((x &&& y : Nat) : Int)) M → Sm P M (binOp .and t (.int .u64 (x : Int)) (.int .u64 (y : Int))) K := fun M K h => by
  rw [← bits_and_u64_nat x y hx hy] at h
  unfold binOp; simp only [ne_eq, not_true_eq_false, if_false]
  exact (Sm.pure h : Sm P M (Pure.pure (.int .u64 (bits .and .u64 (x : Int) (y : Int))) : Sem Value) K)
theorem b_shlU {P : Program} {t : TypeId} {k' : IntKind} {x n : Nat} (hn : n ≤ 63) : ∀ M K, K (.int .u64 ((x * 2 ^ n % 18446744073709551616 : Nat) : Int)) M → Sm P M (binOp .shl t (.int .u64 (x : Int)) (.int k' (n : Int))) K := fun M K h => by
  have e : min (n : Int).toNat IntKind.u64.bits = n := by simp only [IntKind.bits, Int.toNat_natCast]; omega
  have e2 : IntKind.u64.wrap ((x : Int) * 2 ^ n) = ((x * 2 ^ n % 18446744073709551616 : Nat) : Int) := by
    rw [IntKind.wrap_u64, Int.natCast_emod, Int.natCast_mul, Int.natCast_pow]; rfl
  rw [← e2] at h
  unfold binOp Op.shift; simp only [Int.not_lt.2 (Int.natCast_nonneg n), if_false, e]; exact Sm.pure h
def stAt (a len modulus idx : Nat) (s : UInt64 × Array Int) : Nat → UInt64 × Array Int
  | 0 => s
  | k + 1 => breakStep a len modulus (stAt a len modulus idx s k) (idx + k)
theorem stAt_size {a len modulus idx : Nat} {s : UInt64 × Array Int} : ∀ k, (stAt a len modulus idx s k).2.size = s.2.size
  | 0 => rfl
  | k + 1 => by simp only [stAt, breakStep]; rw [swp_sz]; exact stAt_size k
theorem b_subU {P : Program} {t : TypeId} {x y : Int} (h0 : 0 ≤ x - y) (h1 : x - y ≤ 18446744073709551615) : ∀ M K, K (.int .u64 (x - y)) M → Sm P M (binOp .sub t (.int .u64 x) (.int .u64 y)) K := fun M K h => by
  unfold binOp; simp only [ne_eq, not_true_eq_false, if_false, Op.intArith, IntWalk.u64_in _ ⟨h0, h1⟩]; exact Sm.pure h
theorem wrap_u8 {y : Nat} (h : y < 256) : IntKind.u8.wrap (y : Int) = (y : Int) := by rw [IntKind.wrap_u8]; omega
variable {main : Bool} {J : Goroutine → Mem → Prop} (hJ : Closed prog main J)
include hJ
theorem len64_c {x : Nat} (hx : x ≤ 1000000000) (ro : RO) : CallP prog J (fnv 194) [.int .u64 (x : Int)] ro (.int .i64 (bitsLen x : Int)) := by
  have h30 : bitsLen x ≤ 30 := (bitsLen_le_iff x 30).2 (by omega)
  refine CallP.intro hJ (by kernel_rfl) fun c cs tail hret => ?_; refine enter_X (n := 25) func194 rfl rfl (Nl rfl) ?_
  have C : Ctx prog main J (bf 194 .normal) := ⟨hJ, by decide⟩
  refine Xr C rfl rfl ?_; refine Ad C rfl rfl rfl ?_; refine Xs C ?_; refine Xr C rfl rfl ?_; refine R.mov C rfl rfl rfl ?_; refine R.int C rfl rfl rfl rfl b_geq ?_; refine R.done C ?_; refine X.cond C.1 rfl (fun q0 => ?_) (fun q0 => ?_)
  · have q0 := q0
    simp only [decide_eq_true_eq] at q0; omega
  · have q0 := q0
    refine X.skip C.1 ?_; refine Xs C ?_; refine Xr C rfl rfl ?_; refine R.mov C rfl rfl rfl ?_; refine R.int C rfl rfl rfl rfl b_geq ?_; refine R.done C ?_; refine X.cond C.1 rfl (fun q1 => ?_) (fun q1 => ?_)
    · have q1 := q1
      simp only [decide_eq_true_eq] at q1
      have e1 := bitsLen_shift (x := x) (k := 16) (by omega)
      have e1 : bitsLen x = bitsLen (x / 65536) + 16 := e1
      refine Xr C rfl rfl ?_; refine R.mov C rfl rfl rfl ?_; refine R.shift C rfl rfl rfl rfl (b_shr (by decide) (by decide) (by omega)) ?_; refine R.fixv (t := 10) (v' := .int .u64 ((x / 65536 : Nat) : Int)) rfl (by first | rfl | (congr 1; done) | (congr 1; omega)) ?_; refine Ad C rfl rfl rfl ?_; refine X.region C rfl rfl ?_; refine R.mov C rfl rfl rfl ?_; refine R.int C rfl rfl rfl rfl (b_add (by omega) (by omega)) ?_; refine Ad C rfl rfl rfl ?_; refine Xs C ?_; refine Xr C rfl rfl ?_; refine R.mov C rfl rfl rfl ?_; refine R.int C rfl rfl rfl rfl b_geq ?_; refine R.done C ?_; refine X.cond C.1 rfl (fun q2 => ?_) (fun q2 => ?_)
      · have q2 := q2
        simp only [decide_eq_true_eq] at q2
        have e2 := bitsLen_shift (x := (x / 65536)) (k := 8) (by omega)
        have hz2 : (x / 65536) / 2 ^ 8 = (x / 65536) / 256 := rfl
        rw [hz2] at e2
        have hzl : (x / 65536) / 256 < 256 := by omega
        have hzb : bitsLen ((x / 65536) / 256) ≤ 8 := (bitsLen_le_iff _ 8).2 hzl
        refine Xr C rfl rfl ?_; refine R.mov C rfl rfl rfl ?_; refine R.shift C rfl rfl rfl rfl (b_shr (by decide) (by decide) (by omega)) ?_; refine R.fixv (t := 16) (v' := .int .u64 ((((x / 65536)) / 256 : Nat) : Int)) rfl (by first | rfl | (congr 1; done) | (congr 1; omega)) ?_; refine Ad C rfl rfl rfl ?_; refine X.region C rfl rfl ?_; refine R.mov C rfl rfl rfl ?_; refine R.int C rfl rfl rfl rfl (b_add (by omega) (by omega)) ?_; refine Ad C rfl rfl rfl ?_; refine Xr C rfl rfl ?_; refine R.mov C rfl rfl rfl ?_; refine R.mov C rfl rfl rfl ?_; refine R.convInt C rfl rfl rfl runUnderlying196 runUnderlying5 (wrap_u8 (by omega)) ?_; refine R.indexStr C rfl rfl rfl rfl runUnderlying9 (by omega) (tab_at rfl hzl) ?_; refine R.fixv (t := 22) (v' := .int .u8 ((bitsLen ((x / 65536) / 256) : Nat) : Int)) rfl (by exact congrArg (Value.int .u8) (tab_val hzl)) ?_; refine R.convInt C rfl rfl rfl runUnderlying5 runUnderlying3 (wrap64 (by omega) (by omega)) ?_; refine R.int C rfl rfl rfl rfl (b_add (by omega) (by omega)) ?_; refine Ad C rfl rfl rfl ?_; refine X.ret C rfl rfl func194 rfl (by exact (.tmp rfl .nil)) ?_; refine hret _ _ ?_ (by repeat (first | exact Sr | apply Sc))
        simp only [retVal]; congr 1; omega
      · have q2 := q2
        simp only [decide_eq_false_iff_not] at q2
        have hzl : (x / 65536) < 256 := by omega
        have hzb : bitsLen (x / 65536) ≤ 8 := (bitsLen_le_iff _ 8).2 hzl
        refine X.skip C.1 ?_; refine Xr C rfl rfl ?_; refine R.mov C rfl rfl rfl ?_; refine R.mov C rfl rfl rfl ?_; refine R.convInt C rfl rfl rfl runUnderlying196 runUnderlying5 (wrap_u8 (by omega)) ?_; refine R.indexStr C rfl rfl rfl rfl runUnderlying9 (by omega) (tab_at rfl hzl) ?_; refine R.fixv (t := 22) (v' := .int .u8 ((bitsLen ((x / 65536)) : Nat) : Int)) rfl (by exact congrArg (Value.int .u8) (tab_val hzl)) ?_; refine R.convInt C rfl rfl rfl runUnderlying5 runUnderlying3 (wrap64 (by omega) (by omega)) ?_; refine R.int C rfl rfl rfl rfl (b_add (by omega) (by omega)) ?_; refine Ad C rfl rfl rfl ?_; refine X.ret C rfl rfl func194 rfl (by exact (.tmp rfl .nil)) ?_; refine hret _ _ ?_ (by repeat (first | exact Sr | apply Sc))
        simp only [retVal]; congr 1; omega
    · have q1 := q1
      simp only [decide_eq_false_iff_not] at q1
      have hy : x < 65536 := by omega
      refine X.skip C.1 ?_; refine Xs C ?_; refine Xr C rfl rfl ?_; refine R.mov C rfl rfl rfl ?_; refine R.int C rfl rfl rfl rfl b_geq ?_; refine R.done C ?_; refine X.cond C.1 rfl (fun q2 => ?_) (fun q2 => ?_)
      · have q2 := q2
        simp only [decide_eq_true_eq] at q2
        have e2 := bitsLen_shift (x := x) (k := 8) (by omega)
        have hz2 : x / 2 ^ 8 = x / 256 := rfl
        rw [hz2] at e2
        have hzl : x / 256 < 256 := by omega
        have hzb : bitsLen (x / 256) ≤ 8 := (bitsLen_le_iff _ 8).2 hzl
        refine Xr C rfl rfl ?_; refine R.mov C rfl rfl rfl ?_; refine R.shift C rfl rfl rfl rfl (b_shr (by decide) (by decide) (by omega)) ?_; refine R.fixv (t := 16) (v' := .int .u64 (((x) / 256 : Nat) : Int)) rfl (by first | rfl | (congr 1; done) | (congr 1; omega)) ?_; refine Ad C rfl rfl rfl ?_; refine X.region C rfl rfl ?_; refine R.mov C rfl rfl rfl ?_; refine R.int C rfl rfl rfl rfl (b_add (by omega) (by omega)) ?_; refine Ad C rfl rfl rfl ?_; refine Xr C rfl rfl ?_; refine R.mov C rfl rfl rfl ?_; refine R.mov C rfl rfl rfl ?_; refine R.convInt C rfl rfl rfl runUnderlying196 runUnderlying5 (wrap_u8 (by omega)) ?_; refine R.indexStr C rfl rfl rfl rfl runUnderlying9 (by omega) (tab_at rfl hzl) ?_; refine R.fixv (t := 22) (v' := .int .u8 ((bitsLen (x / 256) : Nat) : Int)) rfl (by exact congrArg (Value.int .u8) (tab_val hzl)) ?_; refine R.convInt C rfl rfl rfl runUnderlying5 runUnderlying3 (wrap64 (by omega) (by omega)) ?_; refine R.int C rfl rfl rfl rfl (b_add (by omega) (by omega)) ?_; refine Ad C rfl rfl rfl ?_; refine X.ret C rfl rfl func194 rfl (by exact (.tmp rfl .nil)) ?_; refine hret _ _ ?_ (by repeat (first | exact Sr | apply Sc))
        simp only [retVal]; congr 1; omega
      · have q2 := q2
        simp only [decide_eq_false_iff_not] at q2
        have hzl : x < 256 := by omega
        have hzb : bitsLen x ≤ 8 := (bitsLen_le_iff _ 8).2 hzl
        refine X.skip C.1 ?_; refine Xr C rfl rfl ?_; refine R.mov C rfl rfl rfl ?_; refine R.mov C rfl rfl rfl ?_; refine R.convInt C rfl rfl rfl runUnderlying196 runUnderlying5 (wrap_u8 (by omega)) ?_; refine R.indexStr C rfl rfl rfl rfl runUnderlying9 (by omega) (tab_at rfl hzl) ?_; refine R.fixv (t := 22) (v' := .int .u8 ((bitsLen (x) : Nat) : Int)) rfl (by exact congrArg (Value.int .u8) (tab_val hzl)) ?_; refine R.convInt C rfl rfl rfl runUnderlying5 runUnderlying3 (wrap64 (by omega) (by omega)) ?_; refine R.int C rfl rfl rfl rfl (b_add (by omega) (by omega)) ?_; refine Ad C rfl rfl rfl ?_; refine X.ret C rfl rfl func194 rfl (by exact (.tmp rfl .nil)) ?_; refine hret _ _ ?_ (by repeat (first | exact Sr | apply Sc))
        simp only [retVal]; congr 1; omega
theorem len_c {x : Nat} (hx : x ≤ 1000000000) (ro : RO) : CallP prog J (fnv 159) [.int .u64 (x : Int)] ro (.int .i64 (bitsLen x : Int)) := by
  refine CallP.intro hJ (by kernel_rfl) fun c cs tail hret => ?_; refine enter_X (n := 8) func159 rfl rfl (Nl rfl) ?_
  have C : Ctx prog main J (bf 159 .normal) := ⟨hJ, by decide⟩
  refine Xr C rfl rfl ?_; refine Ad C rfl rfl rfl ?_; refine Xs C ?_; refine X.cond C.1 rfl (fun h => nomatch h) (fun _ => ?_)
  refine X.skip C.1 ?_; refine Xr C rfl rfl ?_; refine R.mov C rfl rfl rfl ?_; refine R.callP C rfl rfl rfl rfl (len64_c hJ (by omega) _) ?_; refine Ad C rfl rfl rfl ?_; refine X.ret C rfl rfl func159 rfl (by exact (.tmp rfl .nil)) ?_; refine hret _ _ ?_ (by repeat (first | exact Sr | apply Sc))
  rfl
theorem nextPow_c {x : Nat} (hx : x ≤ 1000000000) (ro : RO) : CallP prog J (fnv 232) [.int .i64 (x : Int)] ro (.int .u64 ((2 ^ bitsLen x : Nat) : Int)) := by
  have h30 : bitsLen x ≤ 30 := (bitsLen_le_iff x 30).2 (by omega)
  have hp : 2 ^ bitsLen x ≤ 2 ^ 30 := Nat.pow_le_pow_right (by decide) h30
  have e1 : 1 * 2 ^ bitsLen x % 18446744073709551616 = 2 ^ bitsLen x := by rw [Nat.one_mul]; exact Nat.mod_eq_of_lt (by omega)
  refine CallP.intro hJ (by kernel_rfl) fun c cs tail hret => ?_; refine enter_X (n := 7) func232 rfl rfl (Nl rfl) ?_
  have C : Ctx prog main J (bf 232 .normal) := ⟨hJ, by decide⟩
  refine Xr C rfl rfl ?_; refine Ad C rfl rfl rfl ?_; refine Xr C rfl rfl ?_; refine R.mov C rfl rfl rfl ?_; refine R.convInt C rfl rfl rfl runUnderlying3 runUnderlying189 (IntWalk.u64_in _ (by omega)) ?_; refine R.callP C rfl rfl rfl rfl (len_c hJ (by omega) _) ?_; refine R.shift C rfl rfl rfl rfl (b_shlU (x := 1) (by omega)) ?_; refine R.fixv (t := 6) (v' := .int .u64 ((2 ^ bitsLen x : Nat) : Int)) rfl (by exact congrArg (fun n : Nat => Value.int .u64 (n : Int)) e1) ?_; refine Ad C rfl rfl rfl ?_; refine X.ret C rfl rfl func232 rfl (by exact (.tmp rfl .nil)) ?_; refine hret _ _ ?_ (by repeat (first | exact Sr | apply Sc))
  rfl
theorem xorshift_c {x q : Nat} (hx : x < 18446744073709551616) (ro : RO) : CallV prog J (fnv 233) [.pointer (some ⟨q, 0, none⟩)] ro [(q, .cells [.int .u64 (x : Int)].toArray 292 (0, 0))] fun v ro' pre' => v = .int .u64 (xorNextN x : Int) ∧ ro' = ro ∧ pre' = [(q, .cells [.int .u64 (xorNextN x : Int)].toArray 292 (0, 0))] := by
  refine CallV.intro (first := []) (cap := []) hJ (by kernel_rfl) fun c cs tail hret => ?_
  let J := J
  obtain ⟨xa, hA⟩ : ∃ xa : Nat, xa = x ^^^ (x * 2 ^ 13 % 18446744073709551616) := ⟨_, rfl⟩
  obtain ⟨xb, hB⟩ : ∃ xb : Nat, xb = xa ^^^ (xa / 128) := ⟨_, rfl⟩
  obtain ⟨xe, hE⟩ : ∃ xe : Nat, xe = xb ^^^ (xb * 2 ^ 17 % 18446744073709551616) := ⟨_, rfl⟩
  have lA : xa < 18446744073709551616 := by rw [hA]; exact Nat.xor_lt_two_pow (n := 64) (by omega) (by omega)
  have lB : xb < 18446744073709551616 := by rw [hB]; exact Nat.xor_lt_two_pow (n := 64) (by omega) (by omega)
  have hv : xorNextN x = xe := by rw [hE, hB, hA]; rfl
  rw [hv] at hret
  have vA := congrArg (fun n : Nat => Value.int .u64 (n : Int)) hA.symm
  have vB := congrArg (fun n : Nat => Value.int .u64 (n : Int)) hB.symm
  have vE := congrArg (fun n : Nat => Value.int .u64 (n : Int)) hE.symm
  clear hA hB hE hv
  refine enter_X (n := 33) func233 rfl rfl (Nl rfl) ?_
  have C : Ctx prog main J (bf 233 .normal) := ⟨hJ, by decide⟩
  refine Xr C rfl rfl ?_; refine Ad C rfl rfl rfl ?_; refine Xs C ?_; refine X.regionD C (by kernel_rfl) (by kernel_rfl) (by kernel_rfl) fun hok => ?_; refine Dm C 0 hok rfl (by kernel_rfl) rfl rfl rfl rfl ?_; refine Dp 1 hok rfl (by kernel_rfl) (fun _ _ _ A h => R.nilCheck C rfl (A.w rfl rfl) (A.x rfl rfl) h) ?_; refine Dl 2 hok rfl (by kernel_rfl) (fun _ _ A h => R.loadOne C rfl (A.w rfl rfl) (A.x rfl rfl) isAgg292 (by repeat (first | exact Mh | apply Mt)) rfl h) ?_; refine Dm C 3 hok rfl (by kernel_rfl) rfl rfl rfl rfl ?_; refine Dp 4 hok rfl (by kernel_rfl) (fun _ _ _ A h => R.nilCheck C rfl (A.w rfl rfl) (A.x rfl rfl) h) ?_; refine Dl 5 hok rfl (by kernel_rfl) (fun _ _ A h => R.loadOne C rfl (A.w rfl rfl) (A.x rfl rfl) isAgg292 (by repeat (first | exact Mh | apply Mt)) rfl h) ?_; refine Dp 6 hok rfl (by kernel_rfl) (fun _ _ _ A h => R.shift C rfl (A.w rfl rfl) (A.x rfl rfl) (A.x rfl rfl) (b_shlU (n := 13) (by decide)) h) ?_; refine Di C 7 hok rfl (by kernel_rfl) rfl rfl rfl rfl rfl rfl (b_xorU hx (Nat.mod_lt _ (by decide))) ?_; refine D.fixv (t := 10) (v' := .int .u64 ((xa : Nat) : Int)) rfl (by exact vA) ?_; refine Dp 8 hok rfl (by kernel_rfl) (fun _ _ _ A h => R.nilCheck C rfl (A.w rfl rfl) (A.x rfl rfl) h) ?_; refine D.eP (i := 9) (dst := none) [false, false] hok rfl (by kernel_rfl) (by kernel_rfl) (fun σr rest A hk => ?_)
  refine R.store C rfl (A.w rfl rfl) (A.x rfl rfl) (A.x rfl rfl) sizeOf292 rfl rfl rfl (by repeat (first | exact Uh | apply Ut)) (.here .nil) (hk undef _ ⟨QFs.nil, ?_⟩)
  refine D.done C hok (by kernel_rfl) ?_; refine Xs C ?_; refine X.regionD C (by kernel_rfl) (by kernel_rfl) (by kernel_rfl) fun hok => ?_; refine Dm C 0 hok rfl (by kernel_rfl) rfl rfl rfl rfl ?_; refine Dp 1 hok rfl (by kernel_rfl) (fun _ _ _ A h => R.nilCheck C rfl (A.w rfl rfl) (A.x rfl rfl) h) ?_; refine Dl 2 hok rfl (by kernel_rfl) (fun _ _ A h => R.loadOne C rfl (A.w rfl rfl) (A.x rfl rfl) isAgg292 (by repeat (first | exact Mh | apply Mt)) rfl h) ?_; refine Dm C 3 hok rfl (by kernel_rfl) rfl rfl rfl rfl ?_; refine Dp 4 hok rfl (by kernel_rfl) (fun _ _ _ A h => R.nilCheck C rfl (A.w rfl rfl) (A.x rfl rfl) h) ?_; refine Dl 5 hok rfl (by kernel_rfl) (fun _ _ A h => R.loadOne C rfl (A.w rfl rfl) (A.x rfl rfl) isAgg292 (by repeat (first | exact Mh | apply Mt)) rfl h) ?_; refine Dp 6 hok rfl (by kernel_rfl) (fun _ _ _ A h => R.shift C rfl (A.w rfl rfl) (A.x rfl rfl) (A.x rfl rfl) (b_shr (by decide) (by decide) (by omega)) h) ?_; refine D.fixv (t := 18) (v' := .int .u64 ((xa / 128 : Nat) : Int)) rfl (by rfl) ?_; refine Di C 7 hok rfl (by kernel_rfl) rfl rfl rfl rfl rfl rfl (b_xorU lA (by omega)) ?_; refine D.fixv (t := 19) (v' := .int .u64 ((xb : Nat) : Int)) rfl (by exact vB) ?_; refine Dp 8 hok rfl (by kernel_rfl) (fun _ _ _ A h => R.nilCheck C rfl (A.w rfl rfl) (A.x rfl rfl) h) ?_; refine D.eP (i := 9) (dst := none) [false, false] hok rfl (by kernel_rfl) (by kernel_rfl) (fun σr rest A hk => ?_)
  refine R.store C rfl (A.w rfl rfl) (A.x rfl rfl) (A.x rfl rfl) sizeOf292 rfl rfl rfl (by repeat (first | exact Uh | apply Ut)) (.here .nil) (hk undef _ ⟨QFs.nil, ?_⟩)
  refine D.done C hok (by kernel_rfl) ?_; refine Xs C ?_; refine X.regionD C (by kernel_rfl) (by kernel_rfl) (by kernel_rfl) fun hok => ?_; refine Dm C 0 hok rfl (by kernel_rfl) rfl rfl rfl rfl ?_; refine Dp 1 hok rfl (by kernel_rfl) (fun _ _ _ A h => R.nilCheck C rfl (A.w rfl rfl) (A.x rfl rfl) h) ?_; refine Dl 2 hok rfl (by kernel_rfl) (fun _ _ A h => R.loadOne C rfl (A.w rfl rfl) (A.x rfl rfl) isAgg292 (by repeat (first | exact Mh | apply Mt)) rfl h) ?_; refine Dm C 3 hok rfl (by kernel_rfl) rfl rfl rfl rfl ?_; refine Dp 4 hok rfl (by kernel_rfl) (fun _ _ _ A h => R.nilCheck C rfl (A.w rfl rfl) (A.x rfl rfl) h) ?_; refine Dl 5 hok rfl (by kernel_rfl) (fun _ _ A h => R.loadOne C rfl (A.w rfl rfl) (A.x rfl rfl) isAgg292 (by repeat (first | exact Mh | apply Mt)) rfl h) ?_; refine Dp 6 hok rfl (by kernel_rfl) (fun _ _ _ A h => R.shift C rfl (A.w rfl rfl) (A.x rfl rfl) (A.x rfl rfl) (b_shlU (n := 17) (by decide)) h) ?_; refine Di C 7 hok rfl (by kernel_rfl) rfl rfl rfl rfl rfl rfl (b_xorU lB (Nat.mod_lt _ (by decide))) ?_; refine D.fixv (t := 28) (v' := .int .u64 ((xe : Nat) : Int)) rfl (by exact vE) ?_; refine Dp 8 hok rfl (by kernel_rfl) (fun _ _ _ A h => R.nilCheck C rfl (A.w rfl rfl) (A.x rfl rfl) h) ?_; refine D.eP (i := 9) (dst := none) [false, false] hok rfl (by kernel_rfl) (by kernel_rfl) (fun σr rest A hk => ?_)
  refine R.store C rfl (A.w rfl rfl) (A.x rfl rfl) (A.x rfl rfl) sizeOf292 rfl rfl rfl (by repeat (first | exact Uh | apply Ut)) (.here .nil) (hk undef _ ⟨QFs.nil, ?_⟩)
  refine D.done C hok (by kernel_rfl) ?_; refine Xr C rfl rfl ?_; refine R.mov C rfl rfl rfl ?_; refine R.nilCheck C rfl rfl rfl ?_; refine R.loadOne C rfl rfl rfl isAgg292 (by repeat (first | exact Mh | apply Mt)) rfl ?_; refine Ad C rfl rfl rfl ?_; refine X.ret C rfl rfl func233 rfl (by exact .tmp rfl .nil) ?_
  exact hret _ _ [_] _ (RO.le_refl _) ⟨rfl, rfl, rfl⟩ (.refl _)
theorem breakPatterns_c {p : Nat} {sp : List Value} {d : Array Int} {cap a b : Nat} {ro : RO} (hn : d.size ≤ 1000000000) (hab : a ≤ b) (hb : b ≤ d.size) : CallS J 186 p sp d cap [.int .i64 (a : Int), .int .i64 (b : Int)] ro (.tuple #[]) (breakPatterns d a b) := by
  refine CallS.intro hJ (by kernel_rfl) fun c cs tail hret => ?_
  let J := J
  refine enter_X (n := 65) func186 rfl rfl (Nl rfl) ?_
  have C : Ctx prog main J (bf 186 .normal) := ⟨hJ, by decide⟩
  refine Xr C rfl rfl ?_; refine R.mov C rfl rfl rfl ?_; refine R.mov C rfl rfl rfl ?_; refine R.int C rfl rfl rfl rfl (b_sub (by omega) (by omega)) ?_; refine R.fixv (t := 13) (v' := .int .i64 ((b - a : Nat) : Int)) rfl (by (congr 1; omega)) ?_; refine Ad C rfl rfl rfl ?_; refine Xr C rfl rfl ?_; refine R.mov C rfl rfl rfl ?_; refine R.int C rfl rfl rfl rfl b_geq ?_; refine R.done C ?_; refine X.cond C.1 rfl (fun h8 => ?_) (fun h8 => ?_)
  · have h8 := h8
    simp only [decide_eq_true_eq] at h8
    obtain ⟨len, hlen⟩ : ∃ len, len = b - a := ⟨_, rfl⟩
    obtain ⟨idx, hidx⟩ : ∃ idx, idx = a + len / 4 * 2 - 1 := ⟨_, rfl⟩
    obtain ⟨md, hmd⟩ : ∃ md, md = 2 ^ bitsLen len := ⟨_, rfl⟩
    have hmd2 : md ≤ 2 * len := by rw [hmd]; exact Go.Sort.two_pow_bitsLen_le (by omega)
    have hmd1 : 1 ≤ md := by rw [hmd]; exact Nat.two_pow_pos _
    have hdef : breakPatterns d a b = (stAt a len md idx (UInt64.ofNat len, d) 3).2 := by
      rw [hmd, hidx, hlen]
      unfold breakPatterns
      simp only [stAt]
      rw [if_pos (by omega), Nat.one_shiftLeft]
      rfl
    rw [hdef] at hret
    rw [← hlen]
    refine Xr C rfl rfl ?_; refine R.mov C rfl rfl rfl ?_; refine R.convInt C rfl rfl rfl runUnderlying3 runUnderlying292 (IntWalk.u64_in _ (by omega)) ?_; refine R.alloc C rfl rfl zeroValue292 rfl fun p7 => ?_; refine R.store C rfl rfl rfl rfl sizeOf292 rfl rfl rfl (by repeat (first | exact Uh | apply Ut)) (.here .nil) ?_; refine R.done C ?_; refine Xr C rfl rfl ?_; refine R.mov C rfl rfl rfl ?_; refine R.callP C rfl rfl rfl rfl (nextPow_c hJ (by omega) _) ?_; refine R.fixv (t := 19) (v' := .int .u64 ((md : Nat) : Int)) rfl (by rw [hmd]) ?_; refine Ad C rfl rfl rfl ?_; refine Xr C rfl rfl ?_; refine R.mov C rfl rfl rfl ?_; refine R.mov C rfl rfl rfl ?_; refine R.int C rfl rfl rfl rfl (b_quoP (by omega) (by omega) (by decide)) ?_; refine R.int C rfl rfl rfl rfl (b_mul (by omega) (by omega)) ?_; refine R.int C rfl rfl rfl rfl (b_add (by omega) (by omega)) ?_; refine R.int C rfl rfl rfl rfl (b_sub (by omega) (by omega)) ?_; refine R.fixv (t := 25) (v' := .int .i64 ((idx : Nat) : Int)) rfl (by (congr 1; omega)) ?_; refine Ad C rfl rfl rfl ?_; refine X.block C.1 ?_
    have hs0 : ((UInt64.ofNat len).toNat : Int) = (len : Int) := by rw [UInt64.toNat_ofNat']; omega
    refine X.loopI (ι := Nat) C.1 (fun k => k ≤ 3) (fun k => [(0, .slice (some ⟨p, 0, none⟩) d.size cap), (1, .int .i64 (a : Int)), (6, .int .i64 (len : Int)), (7, .pointer (some ⟨p7, 0, none⟩)), (8, .int .u64 (md : Int)), (9, .int .i64 ((idx + k : Nat) : Int))])
      (fun k => ⟨ro, (p7, .cells [.int .u64 ((stAt a len md idx (UInt64.ofNat len, d) k).1.toNat : Int)].toArray 292 (0, 0)) :: (p, .cells (vals (stAt a len md idx (UInt64.ofNat len, d) k).2 ++ sp).toArray 3 (0, 0)) :: tail⟩) (fun k => 3 - k) 0 (by decide) (by simp only [stAt, hs0]) ⟨rfl, rfl, rfl, rfl, rfl, rfl, trivial⟩ fun k hk hnext => ?_
    have hgo := hnext (k + 1)
    have hsz := stAt_size (a := a) (len := len) (modulus := md) (idx := idx) (s := (UInt64.ofNat len, d)) k
    simp only at hgo hsz
    rw [stAt, breakStep] at hgo
    generalize hst : stAt a len md idx (UInt64.ofNat len, d) k = st at hgo hsz ⊢
    simp only [Go.Sort.xorNext_toNat] at hgo
    have hrlt := Go.Sort.xorNextN_lt st.1.toNat st.1.toNat_lt
    have hcall := xorshift_c hJ (x := st.1.toNat) (q := p7) st.1.toNat_lt ro
    generalize xorNextN st.1.toNat = rr at hgo hrlt hcall
    have hov : rr &&& (md - 1) ≤ md - 1 := Nat.and_le_right
    refine Xs C ?_; refine Xr C rfl rfl ?_; refine R.mov C rfl rfl rfl ?_; refine R.mov C rfl rfl rfl ?_; refine R.mov C rfl rfl rfl ?_; refine R.int C rfl rfl rfl rfl (b_quoP (by omega) (by omega) (by decide)) ?_; refine R.int C rfl rfl rfl rfl (b_mul (by omega) (by omega)) ?_; refine R.int C rfl rfl rfl rfl (b_add (by omega) (by omega)) ?_; refine R.int C rfl rfl rfl rfl (b_add (by omega) (by omega)) ?_; refine R.int C rfl rfl rfl rfl b_leq ?_; refine R.done C ?_; refine X.cond C.1 rfl (fun hk2 => ?_) (fun hk2 => ?_)
    · have hk2 := hk2
      simp only [decide_eq_true_eq] at hk2
      refine X.skip C.1 ?_; refine Xs C ?_; refine X.block C.1 ?_; refine Xr C rfl rfl ?_; refine R.call C rfl rfl rfl rfl rfl hcall fun v1 ro1 pre1 hle1 hp1 => ?_
      obtain ⟨rfl, rfl, rfl⟩ := hp1
      obtain ⟨o0, ho0⟩ : ∃ o0, o0 = rr &&& (md - 1) := ⟨_, rfl⟩
      rw [← ho0] at hgo hov
      refine R.mov C rfl rfl rfl ?_; refine R.int C rfl rfl rfl rfl (b_subU (by omega) (by omega)) ?_; refine R.fixv (t := 38) (v' := .int .u64 ((md - 1 : Nat) : Int)) rfl (by (congr 1; omega)) ?_; refine R.int C rfl rfl rfl rfl (b_andN hrlt (by omega)) ?_; refine R.fixv (t := 39) (v' := .int .u64 ((o0 : Nat) : Int)) rfl (by rw [ho0]) ?_; refine R.convInt C rfl rfl rfl runUnderlying189 runUnderlying3 (wrap64 (by omega) (by omega)) ?_; refine Ad C rfl rfl rfl ?_; refine Xs C ?_; refine Xr C rfl rfl ?_; refine R.mov C rfl rfl rfl ?_; refine R.mov C rfl rfl rfl ?_; refine R.int C rfl rfl rfl rfl b_geq ?_; refine R.done C ?_; refine X.cond C.1 rfl (fun hge => ?_) (fun hge => ?_)
      · have hge := hge
        simp only [decide_eq_true_eq] at hge
        rw [if_pos (by omega)] at hgo
        refine X.region C rfl rfl ?_; refine R.mov C rfl rfl rfl ?_; refine R.mov C rfl rfl rfl ?_; refine R.int C rfl rfl rfl rfl (b_sub (by omega) (by omega)) ?_; refine Ad C rfl rfl rfl ?_; refine X.regionD C (by kernel_rfl) (by kernel_rfl) (by kernel_rfl) fun hok => ?_; refine Dm C 0 hok rfl (by kernel_rfl) rfl rfl rfl rfl ?_; refine Dm C 1 hok rfl (by kernel_rfl) rfl rfl rfl rfl ?_; refine Dm C 2 hok rfl (by kernel_rfl) rfl rfl rfl rfl ?_; refine Dm C 3 hok rfl (by kernel_rfl) rfl rfl rfl rfl ?_; refine Dm C 4 hok rfl (by kernel_rfl) rfl rfl rfl rfl ?_; refine Di C 5 hok rfl (by kernel_rfl) rfl rfl rfl rfl rfl rfl (b_add (by omega) (by omega)) ?_; refine Dm C 6 hok rfl (by kernel_rfl) rfl rfl rfl rfl ?_; refine Dm C 7 hok rfl (by kernel_rfl) rfl rfl rfl rfl ?_; refine Dm C 8 hok rfl (by kernel_rfl) rfl rfl rfl rfl ?_; refine Di C 9 hok rfl (by kernel_rfl) rfl rfl rfl rfl rfl rfl (b_add (by omega) (by omega)) ?_; refine Dp 10 hok rfl (by kernel_rfl) (fun _ _ _ A h => R.indexAddr C rfl (A.w rfl rfl) (A.x rfl rfl) (A.x rfl rfl) runUnderlying28 sizeOf3 (by omega) (by omega) h) ?_; refine Dl 11 hok rfl (by kernel_rfl) (fun _ _ A h => R.loadOne C rfl (A.w rfl rfl) (A.x rfl rfl) isAgg3 (by repeat (first | exact Mh | apply Mt)) (vals_at (k := a + (o0 - len)) (by omega) (by omega)) h) ?_; refine Dm C 12 hok rfl (by kernel_rfl) rfl rfl rfl rfl ?_; refine Dm C 13 hok rfl (by kernel_rfl) rfl rfl rfl rfl ?_; refine Dp 14 hok rfl (by kernel_rfl) (fun _ _ _ A h => R.indexAddr C rfl (A.w rfl rfl) (A.x rfl rfl) (A.x rfl rfl) runUnderlying28 sizeOf3 (by omega) (by omega) h) ?_; refine Dl 15 hok rfl (by kernel_rfl) (fun _ _ A h => R.loadOne C rfl (A.w rfl rfl) (A.x rfl rfl) isAgg3 (by repeat (first | exact Mh | apply Mt)) (vals_at (k := idx + k) (by omega) (by omega)) h) ?_; refine Dp 16 hok rfl (by kernel_rfl) (fun _ _ _ A h => R.indexAddr C rfl (A.w rfl rfl) (A.x rfl rfl) (A.x rfl rfl) runUnderlying28 sizeOf3 (by omega) (by omega) h) ?_; refine D.eP (i := 17) (dst := none) [false, false] hok rfl (by kernel_rfl) (by kernel_rfl) (fun σr rest A hk => ?_)
        refine R.store C rfl (A.w rfl rfl) (A.x rfl rfl) (A.x rfl rfl) sizeOf3 rfl rfl rfl (by repeat (first | exact Uh | apply Ut)) (vals_put (k := idx + k) (by omega) (by omega)) (hk undef _ ⟨QFs.nil, ?_⟩)
        refine Dp 18 hok rfl (by kernel_rfl) (fun _ _ _ A h => R.indexAddr C rfl (A.w rfl rfl) (A.x rfl rfl) (A.x rfl rfl) runUnderlying28 sizeOf3 (by omega) (by omega) h) ?_; refine D.eP (i := 19) (dst := none) [] hok rfl (by kernel_rfl) (by kernel_rfl) (fun σr rest A hk => ?_)
        refine R.store C rfl (A.w rfl rfl) (A.x rfl rfl) (A.x rfl rfl) sizeOf3 rfl rfl rfl (by repeat (first | exact Uh | apply Ut)) (vals_put (k := a + (o0 - len)) (by omega) (by simp; omega)) (hk undef _ ⟨QFs.nil, ?_⟩)
        refine D.done C hok (by kernel_rfl) ?_; refine X.inBlock C.1 ?_; refine X.region C rfl rfl ?_; refine R.mov C rfl rfl rfl ?_; refine R.int C rfl rfl rfl rfl (b_add (by omega) (by omega)) ?_; refine Ad C rfl rfl rfl ?_; refine X.weaken ?_ (hgo (by omega) (by omega))
        exact ⟨rfl, rfl, rfl, rfl, rfl, congrArg (fun z => some (Value.int .i64 z)) (by omega), trivial⟩
      · have hge := hge
        simp only [decide_eq_false_iff_not] at hge
        rw [if_neg (by omega)] at hgo
        refine X.skip C.1 ?_; refine X.regionD C (by kernel_rfl) (by kernel_rfl) (by kernel_rfl) fun hok => ?_; refine Dm C 0 hok rfl (by kernel_rfl) rfl rfl rfl rfl ?_; refine Dm C 1 hok rfl (by kernel_rfl) rfl rfl rfl rfl ?_; refine Dm C 2 hok rfl (by kernel_rfl) rfl rfl rfl rfl ?_; refine Dm C 3 hok rfl (by kernel_rfl) rfl rfl rfl rfl ?_; refine Dm C 4 hok rfl (by kernel_rfl) rfl rfl rfl rfl ?_; refine Di C 5 hok rfl (by kernel_rfl) rfl rfl rfl rfl rfl rfl (b_add (by omega) (by omega)) ?_; refine Dm C 6 hok rfl (by kernel_rfl) rfl rfl rfl rfl ?_; refine Dm C 7 hok rfl (by kernel_rfl) rfl rfl rfl rfl ?_; refine Dm C 8 hok rfl (by kernel_rfl) rfl rfl rfl rfl ?_; refine Di C 9 hok rfl (by kernel_rfl) rfl rfl rfl rfl rfl rfl (b_add (by omega) (by omega)) ?_; refine Dp 10 hok rfl (by kernel_rfl) (fun _ _ _ A h => R.indexAddr C rfl (A.w rfl rfl) (A.x rfl rfl) (A.x rfl rfl) runUnderlying28 sizeOf3 (by omega) (by omega) h) ?_; refine Dl 11 hok rfl (by kernel_rfl) (fun _ _ A h => R.loadOne C rfl (A.w rfl rfl) (A.x rfl rfl) isAgg3 (by repeat (first | exact Mh | apply Mt)) (vals_at (k := a + (o0)) (by omega) (by omega)) h) ?_; refine Dm C 12 hok rfl (by kernel_rfl) rfl rfl rfl rfl ?_; refine Dm C 13 hok rfl (by kernel_rfl) rfl rfl rfl rfl ?_; refine Dp 14 hok rfl (by kernel_rfl) (fun _ _ _ A h => R.indexAddr C rfl (A.w rfl rfl) (A.x rfl rfl) (A.x rfl rfl) runUnderlying28 sizeOf3 (by omega) (by omega) h) ?_; refine Dl 15 hok rfl (by kernel_rfl) (fun _ _ A h => R.loadOne C rfl (A.w rfl rfl) (A.x rfl rfl) isAgg3 (by repeat (first | exact Mh | apply Mt)) (vals_at (k := idx + k) (by omega) (by omega)) h) ?_; refine Dp 16 hok rfl (by kernel_rfl) (fun _ _ _ A h => R.indexAddr C rfl (A.w rfl rfl) (A.x rfl rfl) (A.x rfl rfl) runUnderlying28 sizeOf3 (by omega) (by omega) h) ?_; refine D.eP (i := 17) (dst := none) [false, false] hok rfl (by kernel_rfl) (by kernel_rfl) (fun σr rest A hk => ?_)
        refine R.store C rfl (A.w rfl rfl) (A.x rfl rfl) (A.x rfl rfl) sizeOf3 rfl rfl rfl (by repeat (first | exact Uh | apply Ut)) (vals_put (k := idx + k) (by omega) (by omega)) (hk undef _ ⟨QFs.nil, ?_⟩)
        refine Dp 18 hok rfl (by kernel_rfl) (fun _ _ _ A h => R.indexAddr C rfl (A.w rfl rfl) (A.x rfl rfl) (A.x rfl rfl) runUnderlying28 sizeOf3 (by omega) (by omega) h) ?_; refine D.eP (i := 19) (dst := none) [] hok rfl (by kernel_rfl) (by kernel_rfl) (fun σr rest A hk => ?_)
        refine R.store C rfl (A.w rfl rfl) (A.x rfl rfl) (A.x rfl rfl) sizeOf3 rfl rfl rfl (by repeat (first | exact Uh | apply Ut)) (vals_put (k := a + (o0)) (by omega) (by simp; omega)) (hk undef _ ⟨QFs.nil, ?_⟩)
        refine D.done C hok (by kernel_rfl) ?_; refine X.inBlock C.1 ?_; refine X.region C rfl rfl ?_; refine R.mov C rfl rfl rfl ?_; refine R.int C rfl rfl rfl rfl (b_add (by omega) (by omega)) ?_; refine Ad C rfl rfl rfl ?_; refine X.weaken ?_ (hgo (by omega) (by omega))
        exact ⟨rfl, rfl, rfl, rfl, rfl, congrArg (fun z => some (Value.int .i64 z)) (by omega), trivial⟩
    · have hk2 := hk2
      simp only [decide_eq_false_iff_not] at hk2
      obtain rfl : k = 3 := by omega
      refine X.exit C.1 rfl ?_; refine X.drop C.1 (own' := _ :: tail) (List.sublist_cons_self _ _) ?_; refine X.fall C rfl rfl func186 rfl (by exact .nil) ?_
      exact hret _ _ rfl (by rw [hst])
  · have h8 := h8
    simp only [decide_eq_false_iff_not] at h8
    have hdef : breakPatterns d a b = d := by
      unfold breakPatterns
      simp only
      rw [if_neg (by omega)]
    rw [hdef] at hret
    refine X.skip C.1 ?_; refine X.fall C rfl rfl func186 rfl (by exact .nil) ?_
    exact hret _ _ rfl rfl
end Go.Lg.B
