/-
  It is proved that the given function answers true for every input, whatever is scheduled: the statement Most of the seat. Conditions: none but those of the given statement itself.
-/
import Derived.Test.YtchjgmkeemdhlaaGreatDoorKE
import Derived.Conc.Holds
set_option maxRecDepth 100000
set_option maxHeartbeats 2000000
set_option linter.all false
set_option linter.unusedVariables false
set_option linter.unusedSimpArgs false
set_option linter.unusedSectionVars false
set_option maxRecDepth 100000
namespace Go.Lg.B
open Go Go.Conc Go.Lg Go.Proofs Go.Proofs.Tryz
theorem behind_mono {n m s : Int} (h : n ≤ m) (hs : 0 ≤ s ∧ s ≤ 4) : behind n s ≤ behind m s := by
 have : s = 0 ∨ s = 1 ∨ s = 2 ∨ s = 3 ∨ s = 4 := by omega
 unfold behind
 rcases this with rfl | rfl | rfl | rfl | rfl <;> omega
inductive LeL : List Int → List Int → Prop
 | nil : LeL [] []
 | cons {x y : Int} {a c : List Int} : x ≤ y → LeL a c → LeL (x :: a) (y :: c)
theorem LeL.getD {a c : List Int} (h : LeL a c) : ∀ i, a.getD i 0 ≤ c.getD i 0 := by
 induction h with
 | nil => intro i; simp
 | cons h _ ih =>
  intro i
  cases i with
  | zero => simpa using h
  | succ i => simpa using ih i
theorem pullsGo_mono {b : Bk} (hb : b.good) : ∀ {g : List Int} {n m : Int}, (∀ x ∈ g, 0 ≤ x ∧ x < b.ps.length) → n ≤ m → LeL (pullsGo b n g) (pullsGo b m g)
 | [], _, _, _, _ => .nil
 | x :: g, n, m, h, hn => by
  have hx := h x (by simp)
  have := behind_mono hn (hb.sheaves hx.1 hx.2)
  exact .cons this (pullsGo_mono hb (fun z hz => h z (by simp [hz])) this)
theorem pulls_mono {b : Bk} (hb : b.good) {g n m : Int} (h0 : 0 ≤ g) (h1 : g < b.gs.length) (hn : n ≤ m) : LeL (pulls b g n) (pulls b g m) := .cons hn (pullsGo_mono hb (hb.gear h0 h1).2.1 hn)
theorem gives_mem {b : Bk} {p : List Int} {g n x : Int} : x ∈ gives b p g n ↔ (∃ i : Nat, i < (b.gear g).length ∧ nth p ((b.gear g).getD i 0) < (pulls b g n).getD i 0 ∧ x = i) ∨ (b.w < (pulls b g n).getD (b.gear g).length 0 ∧ x = (b.gear g).length) := by
 unfold gives
 rw [List.mem_append, List.mem_map]
 constructor
 ·rintro (⟨i, hi, rfl⟩ | h)
  ·obtain ⟨h1, h2⟩ := List.mem_filter.1 hi
   exact .inl ⟨i, List.mem_range.1 h1, by simpa [givesP] using h2, rfl⟩
  ·split at h
   ·rename_i h2; exact .inr ⟨h2, by simpa using h⟩
   ·cases h
 ·rintro (⟨i, h1, h2, rfl⟩ | ⟨h1, rfl⟩)
  ·exact .inl ⟨i, List.mem_filter.2 ⟨List.mem_range.2 h1, by simpa [givesP] using h2⟩, rfl⟩
  ·exact .inr (by rw [if_pos h1]; simp)
theorem gives_sub {b : Bk} (hb : b.good) {p : List Int} {g n m x : Int} (h0 : 0 ≤ g) (h1 : g < b.gs.length) (hn : n ≤ m) (h : x ∈ gives b p g n) : x ∈ gives b p g m := by
 have hm := (pulls_mono hb h0 h1 hn).getD
 rw [gives_mem] at h ⊢
 rcases h with ⟨i, h2, h3, h4⟩ | ⟨h3, h4⟩
 ·exact .inl ⟨i, h2, by have := hm i; omega, h4⟩
 ·exact .inr ⟨by have := hm (b.gear g).length; omega, h4⟩
theorem gives_bd {b : Bk} {p : List Int} {g n x : Int} (h : x ∈ gives b p g n) : 0 ≤ x ∧ x ≤ (b.gear g).length := by
 rw [gives_mem] at h
 rcases h with ⟨i, h2, _, rfl⟩ | ⟨_, rfl⟩ <;> omega
theorem lifts_iff {b : Bk} {p : List Int} {g n : Int} (hn : n ≠ 0) : lifts b p g n = true ↔ gives b p g n = [] := by
 simp [lifts, hn]
theorem lifts_mono {b : Bk} (hb : b.good) {p : List Int} {g n m : Int} (h0 : 0 ≤ g) (h1 : g < b.gs.length) (h00 : 0 ≤ n) (hn : n ≤ m) (h : lifts b p g m = true) : lifts b p g n = true := by
 by_cases e : n = 0
 ·subst e; rfl
 ·rw [lifts_iff (by omega)] at h
  rw [lifts_iff e, List.eq_nil_iff_forall_not_mem]
  intro x hx
  have := gives_sub hb h0 h1 hn hx
  rw [h] at this; cases this
theorem numbers_mem {l : List Int} {x : Int} : x ∈ numbers l ↔ x ∈ l := by
 have hs : (l.mergeSort fun x y => decide (x ≤ y)).Pairwise (· ≤ ·) := by
  have := List.pairwise_mergeSort (le := fun x y : Int => decide (x ≤ y)) (by intro a b c; simp; omega) (by intro a b; simp; omega) l
  exact this.imp (by intro a b; simp)
 have hf := fold_asc _ [] .nil hs (by simp)
 show x ∈ List.foldl cstep [] _ ↔ _
 rw [hf.2]
 simp [(List.mergeSort_perm l _).mem_iff]
theorem numbers_asc (l : List Int) : (numbers l).Pairwise (· < ·) := by
 have hs : (l.mergeSort fun x y => decide (x ≤ y)).Pairwise (· ≤ ·) := by
  have := List.pairwise_mergeSort (le := fun x y : Int => decide (x ≤ y)) (by intro a b c; simp; omega) (by intro a b; simp; omega) l
  exact this.imp (by intro a b; simp)
 exact (fold_asc _ [] .nil hs (by simp)).1
theorem climbs_asc {n : Int} : ∀ {l : List Int} {q : Option Int}, l.Pairwise (· < ·) → (∀ x ∈ l, 0 ≤ x ∧ x < n) → (∀ y, q = some y → ∀ x ∈ l, y < x) → climbsH n q l = 0
 | [], _, _, _, _ => rfl
 | x :: l, q, hp, hb, hq => by
  rw [List.pairwise_cons] at hp
  have hx := hb x (by simp)
  rw [climbsH, if_neg (by have := between_iff.2 (show 0 ≤ x ∧ x ≤ n - 1 by omega); simp [this]), if_neg, climbs_asc hp.2 (fun y hy => hb y (by simp [hy])) (fun y hy z hz => by cases hy; exact hp.1 z hz)]
  cases q with
  | none => simp
  | some y => have := hq y rfl x (by simp); simp; omega
def allLift (b : Bk) (g n : Int) : Bool := (cases b).all fun t => lifts b t.1 g n
theorem allLift_mono {b : Bk} (hb : b.good) {g n m : Int} (h0 : 0 ≤ g) (h1 : g < b.gs.length) (h00 : 0 ≤ n) (hn : n ≤ m) (h : allLift b g m = true) : allLift b g n = true := by
 unfold allLift at h ⊢
 rw [List.all_eq_true] at h ⊢
 exact fun t ht => lifts_mono hb h0 h1 h00 hn (h t ht)
theorem allLift_zero (b : Bk) (g : Int) : allLift b g 0 = true := by
 unfold allLift; rw [List.all_eq_true]; exact fun _ _ => rfl
theorem mostGo_law {b : Bk} (hb : b.good) {g : Int} (h0 : 0 ≤ g) (h1 : g < b.gs.length) : ∀ (m : Nat) (n mo : Int), 0 ≤ n → (∀ k, 0 ≤ k → k < n → allLift b g k = true) → mo < n → (0 < n → mo = n - 1) →
  (mostGo b g n m mo = mo ∨ (n ≤ mostGo b g n m mo ∧ mostGo b g n m mo < n + m)) ∧ ∀ k, n ≤ k → k < n + m → (allLift b g k = true ↔ k ≤ mostGo b g n m mo)
 | 0, n, mo, _, _, _, _ => ⟨.inl rfl, fun k h1 h2 => by omega⟩
 | m + 1, n, mo, hn, hl, hmo, hmo2 => by
  have e : mostGo b g n (m + 1) mo = if allLift b g n = true then mostGo b g (n + 1) m n else mo := rfl
  rw [e]
  by_cases hA : allLift b g n = true
  ·rw [if_pos hA]
   obtain ⟨h3, h4⟩ := mostGo_law hb h0 h1 m (n + 1) n (by omega) (fun k hk hk2 => by
    by_cases e2 : k = n
    ·rw [e2]; exact hA
    ·exact hl k hk (by omega)) (by omega) (fun _ => by omega)
   refine ⟨.inr ?_, fun k hk hk2 => ?_⟩
   ·rcases h3 with h3 | h3 <;> omega
   ·by_cases e2 : k = n
    ·subst e2
     refine ⟨fun _ => ?_, fun _ => hA⟩
     rcases h3 with h3 | h3 <;> omega
    ·exact h4 k (by omega) (by omega)
  ·rw [if_neg hA]
   refine ⟨.inl rfl, fun k hk _ => ⟨fun h => ?_, fun h => by omega⟩⟩
   exact absurd (allLift_mono hb h0 h1 hn hk h) hA
theorem most_law {b : Bk} (hb : b.good) {g : Int} (h0 : 0 ≤ g) (h1 : g < b.gs.length) : 0 ≤ most b g ∧ most b g ≤ 99 ∧ ∀ k, 0 ≤ k → k ≤ 99 → (allLift b g k = true ↔ k ≤ most b g) := by
 have e : most b g = if allLift b g 0 = true then mostGo b g 1 99 0 else 0 := rfl
 rw [e, if_pos (allLift_zero b g)]
 obtain ⟨h3, h4⟩ := mostGo_law hb h0 h1 99 1 0 (by omega) (fun k hk hk2 => (show 0 = k by omega) ▸ allLift_zero b g) (by omega) (fun _ => by omega)
 refine ⟨by rcases h3 with h3 | h3 <;> omega, by rcases h3 with h3 | h3 <;> omega, fun k hk hk2 => ?_⟩
 by_cases e2 : k = 0
 ·subst e2
  exact ⟨fun _ => by rcases h3 with h3 | h3 <;> omega, fun _ => allLift_zero b g⟩
 ·exact h4 k (by omega) (by omega)
theorem weak_mem {b : Bk} {g n x : Int} : x ∈ weak b g n ↔ ∃ t ∈ cases b, x ∈ gives b t.1 g n := by
 rw [weak, numbers_mem, List.mem_flatMap]
theorem weak_nil {b : Bk} {g n : Int} (hn : n ≠ 0) : weak b g n = [] ↔ allLift b g n = true := by
 rw [List.eq_nil_iff_forall_not_mem]
 simp only [weak_mem, allLift, List.all_eq_true, lifts_iff hn, List.eq_nil_iff_forall_not_mem]
 exact ⟨fun h t ht x hx => h x ⟨t, ht, hx⟩, fun h x ⟨t, ht, hx⟩ => h t ht x hx⟩
theorem weak_bd {b : Bk} {g n : Int} : ∀ x ∈ weak b g n, 0 ≤ x ∧ x ≤ (b.gear g).length := fun x hx => by
 obtain ⟨t, _, h⟩ := weak_mem.1 hx
 exact gives_bd h
theorem weak_sub {b : Bk} (hb : b.good) {g n m : Int} (h0 : 0 ≤ g) (h1 : g < b.gs.length) (hn : n ≤ m) : insideL (weak b g n) (weak b g m) = true := by
 unfold insideL
 rw [List.all_eq_true]
 intro x hx
 rw [List.contains_iff_mem]
 obtain ⟨t, ht, h⟩ := weak_mem.1 hx
 exact weak_mem.2 ⟨t, ht, gives_sub hb h0 h1 hn h⟩
theorem weak_climbs {b : Bk} {g n : Int} : climbsH ((b.gear g).length + 1) none (weak b g n) = 0 :=
 climbs_asc (numbers_asc _) (fun x hx => by have := weak_bd x hx; omega) (fun _ h => by cases h)
theorem weights_hi {b : Bk} (hb : b.good) {k : Int} (h0 : 0 ≤ k) (h1 : k < b.cs.length) {x : Int} (hx : (b.piece k).r.lo ≤ x ∧ x ≤ (b.piece k).r.hi) : ∃ w ∈ weightsL b, nth w k = x := by
 have hk : k.toNat < b.cs.length := by omega
 have hpk : b.piece k = b.cs[k.toNat] := by simp [Bk.piece, List.getD_eq_getElem?_getD, hk]
 refine ⟨(b.cs.map fun c => c.r.lo).set k.toNat x, mem_spread.2 ⟨by simp, fun i r hr => ?_⟩, ?_⟩
 ·rw [List.getElem?_map] at hr
  obtain ⟨c, hc, rfl⟩ := Option.map_eq_some_iff.1 hr
  have hi : i < b.cs.length := (List.getElem?_eq_some_iff.1 hc).1
  have hf := hb.cs c (List.mem_of_getElem? hc)
  rw [List.getElem?_set]
  by_cases e : k.toNat = i
  ·subst e
   rw [if_pos rfl, if_pos (by simpa using hi)]
   have : c = b.piece k := by rw [hpk]; rw [List.getElem?_eq_getElem hi] at hc; exact (Option.some.inj hc).symm
   exact ⟨x, rfl, by simpa [this] using hx⟩
  ·rw [if_neg e, List.getElem?_map, hc]
   exact ⟨_, rfl, Int.le_refl _, hf.2.1⟩
 ·simp [nth, List.getD_eq_getElem?_getD, List.getElem?_set, hk]
theorem weights_in {b : Bk} {k : Int} (h0 : 0 ≤ k) (h1 : k < b.cs.length) {w : List Int} (hw : w ∈ weightsL b) : (b.piece k).r.lo ≤ nth w k ∧ nth w k ≤ (b.piece k).r.hi := by
 have hk : k.toNat < b.cs.length := by omega
 have hpk : b.piece k = b.cs[k.toNat] := by simp [Bk.piece, List.getD_eq_getElem?_getD, hk]
 obtain ⟨_, h⟩ := mem_spread.1 hw
 obtain ⟨x, hx, h3⟩ := h k.toNat (b.cs[k.toNat]).r (by simp [hk])
 rw [hpk]
 simpa [nth, List.getD_eq_getElem?_getD, hx] using h3
theorem how_one {n all : Nat} (h : 0 < all) : how n all = 1 ↔ n = all := by
 unfold how
 split
 ·constructor
  ·intro h2; cases h2
  ·intro h2; omega
 ·split
  ·simp_all
  ·constructor
   ·intro h2; cases h2
   ·intro h2; contradiction
theorem filter_all {α : Type} {p : α → Bool} {l : List α} : (l.filter p).length = l.length ↔ l.all p = true := by
 rw [List.length_filter_eq_length_iff, List.all_eq_true]
theorem may_one {b : Bk} (hb : b.good) (hne : cases b ≠ []) {g k : Int} (h0 : 0 ≤ g) (h1 : g < b.gs.length) (h2 : 0 ≤ k) (h3 : k < b.cs.length) : may b g k = 1 ↔ allLift b g (b.piece k).r.hi = true := by
 have hk : k.toNat < b.cs.length := by omega
 have hpk : b.piece k = b.cs[k.toNat] := by simp [Bk.piece, List.getD_eq_getElem?_getD, hk]
 have hf := hb.cs _ (List.getElem_mem hk)
 rw [← hpk] at hf
 unfold Pc.fine at hf
 rw [may, how_one (List.length_pos_iff.2 hne), filter_all]
 unfold allLift
 rw [List.all_eq_true, List.all_eq_true]
 constructor
 ·intro h t ht
  obtain ⟨w, hw, e⟩ := weights_hi hb h2 h3 (x := (b.piece k).r.hi) (by omega)
  have := h (t.1, w) (mem_cases.2 ⟨(mem_cases.1 ht).1, hw⟩)
  rw [← e]; exact this
 ·intro h t ht
  have hw := weights_in h2 h3 (mem_cases.1 ht).2
  exact lifts_mono hb h0 h1 (by omega) hw.2 (h t ht)
end Go.Lg.B
set_option maxRecDepth 100000
namespace Go.Lg.B
open Go Go.Conc Go.Lg Go.Proofs Go.Proofs.Tryz
theorem open_nine {b : Bk} (h : checkBook b = 0) (hL : cases b = []) : openH b 0 = 9 := by rw [openH_zero, if_neg (fun e => e h), if_pos hL]
theorem open_zero {b : Bk} (h : checkBook b = 0) (hL : cases b ≠ []) : openH b 0 = 0 := by rw [openH_zero, if_neg (fun e => e h), if_neg hL]
theorem mostH_eq {b : Bk} {g : Int} (h : there g b.gs.length = 0) : mostH b g = openH b 0 := by simp [mostH, firstH, h]
theorem weakH_eq {b : Bk} {g l : Int} (h : there g b.gs.length = 0) (h2 : loadH l = 0) : weakH b g l = openH b 0 := by simp [weakH, firstH, h, h2]
theorem mayH_eq {b : Bk} {g k : Int} (h : there g b.gs.length = 0) (h2 : there k b.cs.length = 0) : mayH b g k = openH b 0 := by simp [mayH, firstH, h, h2]
theorem loadOf_bd {x : Int} : 1 ≤ loadOf x ∧ loadOf x ≤ 99 := by unfold loadOf; omega
theorem weak_len {b : Bk} (hb : b.good) {g n : Int} (h0 : 0 ≤ g) (h1 : g < b.gs.length) : (weak b g n).length ≤ 5 := by
 have hl := hb.gearLen h0 h1
 exact nodup_len (m := 5) ((numbers_asc _).imp fun h => by omega) fun x hx => by have := weak_bd x hx; omega
theorem gear_at {b : Bk} {g : Int} (_h0 : 0 ≤ g) (_h1 : g < b.gs.length) (hi : g.toNat < b.gs.length) : b.gs[g.toNat] = b.gear g := by simp [Bk.gear, List.getD_eq_getElem?_getD, hi]
theorem piece_of {b : Bk} {p : Int} (hi : p.toNat < b.cs.length) : b.cs[p.toNat] = b.piece p := by simp [Bk.piece, List.getD_eq_getElem?_getD, hi]
theorem neB {a c : Bool} (h : a = c) : (!(a == c)) = false := by subst h; simp
theorem eqB {a c : Bool} (h : a = c) : (a == c) = true := by subst h; simp
theorem lenB {n : Nat} {p : Prop} [Decidable p] (h : n = 0 ↔ p) : ((n : Int) == 0) = decide p := by
 rw [Bool.eq_iff_iff, beq_iff_eq, decide_eq_true_eq, ← h]; omega
theorem intB {x c : Int} {p : Prop} [Decidable p] (h : x = c ↔ p) : (x == c) = decide p := by
 rw [Bool.eq_iff_iff, beq_iff_eq, decide_eq_true_eq, ← h]
theorem most_root {b : Bk} {vb : Value} {g0 p0 x y : Int} (hg0 : 0 ≤ g0 ∧ g0 ≤ 255) (hp0 : 0 ≤ p0 ∧ p0 ≤ 255) (hx : 0 ≤ x ∧ x ≤ 255) (hy : 0 ≤ y ∧ y ≤ 255) {ro : RO} (he : Env ro) (hv : BkV ro vb b) : Root prog 11 [vb, .int .u8 g0, .int .u8 p0, .int .u8 x, .int .u8 y] ro (fun w _ => w = .bool true) := by
 intro Post hret
 have hJ : Closed prog true (JM prog (Go.Conc.Good prog Post)) := JM.closed
 have hvv := hv
 obtain ⟨vp, vg, vc, vt, rfl, hp, hg, hc, ht⟩ := hv
 obtain ⟨pb, pc, rfl⟩ := hp.form
 obtain ⟨gb, gc, rfl⟩ := hg.form
 obtain ⟨cb, cc, rfl⟩ := hc.form
 obtain ⟨tb, tc, rfl⟩ := ht.form
 let main := true
 let J := JM prog (Go.Conc.Good prog Post)
 refine enter_X (n := 162) func11 U U (Nl U) ?_
 have C : Ctx prog main J (bf 11 .normal) := ⟨hJ, by decide⟩
 refine Xr C U U<|R.box C U U U U fun p5 => Ad C U U<|Xs C<|Xr C U U<|R5 C U U isAgg27 sizeOf27 (by repeat constructor) Tk5<|R.callP C U U U U (fitR_c hJ hvv)<|R.not C U U U<|R.done C<|X.cond C.1 U (fun hfit => ?_) (fun hfit => ?_)
 ·refine Xr C U U<|R.callR C U U U U ((hoisted_c _ he)) fun v9 ro9 hl9 hq9 => Ad C U U<|X.ret0 C (by kernel_rfl) U U func11 U (by exact (.tmp U .nil)) fun w9 hs9 => hret _ _ _ hl9 ?_ w9 hs9
  exact hq9
 ·have hch : checkBook b = 0 := by simpa using hfit
  have hb := good_of hch
  have hsh := short_of (not_great hch)
  have hng := hb.ng
  have hnc := hb.nc
  refine X.skip C.1<|Xs C<|Xd C fun hok => Dm C 0 hok U U U<|Dp 1 hok (fun _ _ _ A h => R.convInt C U (A.w U U) (A.x U U) runUnderlying5 runUnderlying3 (wrap64 (by omega) (by omega)) h)<|Df (off' := 2) C 2 hok U U U runUnderlying27 U sizeOf23 U<|D1 C 3 hok U U isAgg23 (by repeat constructor) U<|Ds C 4 hok U U runUnderlying23<|Di C 5 hok U U U U U (b_remP (by omega) (by omega))<|Dm C 6 hok U U U<|Dp 7 hok (fun _ _ _ A h => R.convInt C U (A.w U U) (A.x U U) runUnderlying5 runUnderlying3 (wrap64 (by omega) (by omega)) h)<|Df (off' := 3) C 8 hok U U U runUnderlying27 U sizeOf24 U<|D1 C 9 hok U U isAgg24 (by repeat constructor) U<|Ds C 10 hok U U runUnderlying24<|Di C 11 hok U U U U U (b_remP (by omega) (by omega))<|Da C 12 hok U U<|Da C 13 hok U U<|D.done C hok (by kernel_rfl)<|Xs C ?_
  have hgb : 0 ≤ g0 % (b.gs.length : Int) ∧ g0 % (b.gs.length : Int) < b.gs.length := ⟨Int.emod_nonneg _ (by omega), Int.emod_lt_of_pos _ (by omega)⟩
  have hpb : 0 ≤ p0 % (b.cs.length : Int) ∧ p0 % (b.cs.length : Int) < b.cs.length := ⟨Int.emod_nonneg _ (by omega), Int.emod_lt_of_pos _ (by omega)⟩
  generalize g0 % (b.gs.length : Int) = g at hgb ⊢
  generalize p0 % (b.cs.length : Int) = p at hpb ⊢
  refine X.region C U U<|Rm C U U<|R.callP C U U U U (loadR_c hJ (by omega) _)<|Rm C U U<|R.callP C U U U U (loadR_c hJ (by omega) _)<|R.min2 C U U U U<|Rm C U U<|R.callP C U U U U (loadR_c hJ (by omega) _)<|Rm C U U<|R.callP C U U U U (loadR_c hJ (by omega) _)<|R.max2 C U U U U<|R.asg C U U U<|Ad C U U<|Xs C ?_
  have hlo : 1 ≤ min (loadOf x) (loadOf y) ∧ min (loadOf x) (loadOf y) ≤ 99 := by have := @loadOf_bd x; have := @loadOf_bd y; omega
  have hhi : 1 ≤ max (loadOf x) (loadOf y) ∧ max (loadOf x) (loadOf y) ≤ 99 := by have := @loadOf_bd x; have := @loadOf_bd y; omega
  have hlh : min (loadOf x) (loadOf y) ≤ max (loadOf x) (loadOf y) := by omega
  generalize min (loadOf x) (loadOf y) = lo at hlo hlh ⊢
  generalize max (loadOf x) (loadOf y) = hi at hhi hlh ⊢
  refine X.region C U U<|R5 C U U isAgg27 sizeOf27 (by repeat constructor) Tk5<|Rm C U U<|R.callR C U U U U (most_c hJ he hvv hsh g) fun v1 ro1 hl1 hq1 => ?_
  subst hq1
  refine Rm C U U<|R.ext C U U U U<|R.ext C U U U U<|R.asg C U U U<|Ad C U U<|Xr C U U<|R5 C U U isAgg27 sizeOf27 (by repeat constructor) Tk5<|Rm C U U<|Rm C U U<|R.callR C U U U U (weak_c hJ (he.mono hl1) (hvv.mono hl1) hsh g lo) fun v2 ro2 hl2 hq2 => ?_
  obtain ⟨w1, y1, rfl⟩ := hq2
  have k2 := RO.le_trans hl1 hl2
  refine Rm C U U<|R.ext C U U U U<|R.ext C U U U U<|R.asg C U U U<|Ad C U U<|Xr C U U<|R5 C U U isAgg27 sizeOf27 (by repeat constructor) Tk5<|Rm C U U<|Rm C U U<|R.callR C U U U U (weak_c hJ (he.mono k2) (hvv.mono k2) hsh g hi) fun v3 ro3 hl3 hq3 => ?_
  obtain ⟨w2, y2, rfl⟩ := hq3
  have k3 := RO.le_trans k2 hl3
  refine Rm C U U<|R.ext C U U U U<|R.ext C U U U U<|R.asg C U U U<|Ad C U U<|Xr C U U<|R5 C U U isAgg27 sizeOf27 (by repeat constructor) Tk5<|Rm C U U<|Rm C U U<|R.callR C U U U U (may_c hJ (he.mono k3) (hvv.mono k3) hsh g p) fun v4 ro4 hl4 hq4 => ?_
  subst hq4
  have k4 := RO.le_trans k3 hl4
  have tg := there_zero.2 hgb
  have tp := there_zero.2 hpb
  have llo := loadH_zero.2 hlo
  have lhi := loadH_zero.2 hhi
  by_cases hL : cases b = []
  ·have hop := open_nine hch hL
   have e1 : mostR b g = (0, 9) := by rw [mostR, mostH_eq tg, hop]; rfl
   have e2 : weakR b g lo = ([], 9) := by rw [weakR, weakH_eq tg llo, hop]; rfl
   have e3 : weakR b g hi = ([], 9) := by rw [weakR, weakH_eq tg lhi, hop]; rfl
   have e4 : mayR b g p = (0, 9) := by rw [mayR, mayH_eq tg tp, hop]; rfl
   rw [e2] at y1
   rw [e3] at y2
   rw [e1, e2, e3, e4]
   have hnil : ([] : List Int).length = 0 := rfl
   have y1 : LsI ro2 w1 [] := y1
   have y2 : LsI ro3 w2 [] := y2
   obtain ⟨_, _, rfl⟩ := y1.form
   obtain ⟨_, _, rfl⟩ := y2.form
   refine Rm C U U<|R.ext C U U U U<|R.ext C U U U U<|R.asg C U U U<|Ad C U U<|Xs C<|Xr C U U<|Rm C U U<|Rm C U U<|R.int C U U U U b_neq<|R.fixv (t := 78) (v' := .bool false) U (by rfl)<|Rm C U U<|Rm C U U<|Rm C U U<|R.int C U U U U b_neq<|R.fixv (t := 82) (v' := .bool false) U (by rfl)<|R.pickF C U U U U<|Rm C U U<|Rm C U U<|Rm C U U<|R.int C U U U U b_neq<|R.fixv (t := 87) (v' := .bool false) U (by rfl)<|R.pickF C U U U U<|R.done C<|X.cond C.1 U (fun h => nomatch h) (fun _ => ?_)
   refine X.skip C.1<|Xs C<|Xr C U U<|Rm C U U<|R.int C U U U U b_neq<|R.fixv (t := 90) (v' := .bool true) U (by rfl)<|R.done C<|X.cond C.1 U (fun _ => ?_) (fun h => nomatch h)
   refine Xr C U U<|Rm C U U<|R.int C U U U U b_eql<|R.fixv (t := 92) (v' := .bool true) U (by rfl)<|Rm C U U<|Rm C U U<|R.int C U U U U b_eql<|R.fixv (t := 95) (v' := .bool true) U (by rfl)<|R.pickT C U U U U<|Rm C U U<|Rm C U U<|Rn C U U runUnderlying28<|Rm C U U<|Rn C U U runUnderlying28<|Ra C U U U<|R.int C U U U U b_eql<|R.fixv (t := 103) (v' := .bool true) U (by rfl)<|R.pickT C U U U U<|Rm C U U<|R.callR C U U U U ((hoisted_c _ (he.mono k4))) fun v9 ro9 hl9 hq9 => R.pickT C U U U U<|Ad C U U<|X.ret0 C (by kernel_rfl) U U func11 U (by exact (.tmp U .nil)) fun w9 hs9 => hret _ _ _ (RO.le_trans k4 hl9) ?_ w9 hs9
   exact hq9
  ·have hop := open_zero hch hL
   have e1 : mostR b g = (most b g, 0) := by rw [mostR, mostH_eq tg, hop]; rfl
   have e2 : weakR b g lo = (weak b g lo, 0) := by rw [weakR, weakH_eq tg llo, hop]; rfl
   have e3 : weakR b g hi = (weak b g hi, 0) := by rw [weakR, weakH_eq tg lhi, hop]; rfl
   have e4 : mayR b g p = (may b g p, 0) := by rw [mayR, mayH_eq tg tp, hop]; rfl
   rw [e2] at y1
   rw [e3] at y2
   rw [e1, e2, e3, e4]
   have y1 : LsI ro2 w1 (weak b g lo) := y1
   have y2 : LsI ro3 w2 (weak b g hi) := y2
   have hw1 := weak_len hb (n := lo) hgb.1 hgb.2
   have hw2 := weak_len hb (n := hi) hgb.1 hgb.2
   have h1 := most_law hb hgb.1 hgb.2
   have h2 := weak_sub hb hgb.1 hgb.2 hlh
   have h3 := weak_nil (b := b) (g := g) (show lo ≠ 0 by omega)
   have h4 := weak_nil (b := b) (g := g) (show hi ≠ 0 by omega)
   rw [h1.2.2 _ (by omega) (by omega), ← List.length_eq_zero_iff] at h3 h4
   have h5 := weak_climbs (b := b) (g := g) (n := hi)
   have h6 := may_one hb hL hgb.1 hgb.2 hpb.1 hpb.2
   have hpl : p.toNat < b.cs.length := by omega
   have hpp := piece_of hpl
   have hfin := hb.cs _ (List.getElem_mem hpl)
   rw [hpp] at hfin
   unfold Pc.fine at hfin
   rw [h1.2.2 _ (by omega) (by omega)] at h6
   have hgear := hb.gearLen hgb.1 hgb.2
   have hyl1 := y1
   have hyl2 := y2
   obtain ⟨_, _, rfl⟩ := y1.form
   obtain ⟨_, _, rfl⟩ := y2.form
   have hg' := hg.mono k4
   have hc' := hc.mono k4
   obtain ⟨gp, go, gcap, gl, gt, gfq, hge, hgro, hgsub⟩ := hg'.at (by omega)
   cases hge
   obtain ⟨qb, qc, hqat, hqcap, hq⟩ := hgsub g.toNat (by omega)
   rw [gear_at hgb.1 hgb.2 (by omega)] at hqat hqcap hq
   obtain ⟨cp, co, ccap, cl, ct, cfq, hce, hcro, hcsub⟩ := hc'.at Pc.len (by omega)
   cases hce
   have hhi2 : cl[co + p.toNat * 3 + 2]? = some (.int .i64 (b.piece p).r.hi) := by
    have := (hcsub p.toNat hpl).get 2 (by omega)
    rw [hpp] at this
    simpa [Pc.cells] using this
   generalize most b g = mo at *
   generalize weak b g lo = wl at *
   generalize weak b g hi = wh at *
   generalize may b g p = ma at *
   generalize (b.piece p).r.hi = ph at *
   generalize b.gear g = gear at *
   refine Rm C U U<|R.ext C U U U U<|R.ext C U U U U<|R.asg C U U U<|Ad C U U<|Xs C<|Xr C U U<|Rm C U U<|Rm C U U<|R.int C U U U U b_neq<|R.fixv (t := 78) (v' := .bool false) U (by rfl)<|Rm C U U<|Rm C U U<|Rm C U U<|R.int C U U U U b_neq<|R.fixv (t := 82) (v' := .bool false) U (by rfl)<|R.pickF C U U U U<|Rm C U U<|Rm C U U<|Rm C U U<|R.int C U U U U b_neq<|R.fixv (t := 87) (v' := .bool false) U (by rfl)<|R.pickF C U U U U<|R.done C<|X.cond C.1 U (fun h => nomatch h) (fun _ => ?_)
   refine X.skip C.1<|Xs C<|Xr C U U<|Rm C U U<|R.int C U U U U b_neq<|R.fixv (t := 90) (v' := .bool false) U (by rfl)<|R.done C<|X.cond C.1 U (fun h => nomatch h) (fun _ => ?_)
   refine X.skip C.1<|Xs C<|Xr C U U<|Rm C U U<|R.callP C U U U U (betweenR_c hJ _ _ _ _)<|R.not C U U U<|R.fixv (t := 110) (v' := .bool false) U (by (rw [between_iff.2 ⟨h1.1, h1.2.1⟩]; rfl))<|Rm C U U<|Rm C U U<|Rn C U U runUnderlying28<|R.int C U U U U b_eql<|Rm C U U<|Rm C U U<|R.int C U U U U b_leq<|R.neBool C U U U U runUnderlying4<|R.fixv (t := 118) (v' := .bool false) U (by (exact congrArg Value.bool (neB (lenB h3))))<|R.pickF C U U U U<|Rm C U U<|Rm C U U<|Rn C U U runUnderlying28<|R.int C U U U U b_eql<|Rm C U U<|Rm C U U<|R.int C U U U U b_leq<|R.neBool C U U U U runUnderlying4<|R.fixv (t := 127) (v' := .bool false) U (by (exact congrArg Value.bool (neB (lenB h4))))<|R.pickF C U U U U<|Rm C U U<|Rm C U U<|Rm C U U<|R.callP C U U U U (inside2R_c hJ (hyl1.mono (RO.le_trans hl3 hl4)) (hyl2.mono hl4) (by omega) (by omega))<|R.not C U U U<|R.fixv (t := 133) (v' := .bool false) U (by (rw [h2]; rfl))<|R.pickF C U U U U<|Rm C U U<|Rm C U U<|Rf C 2 U U runUnderlying27 U sizeOf23<|Rl C U U isAgg23 (by repeat constructor) U<|Rm C U U<|Rx C U U U runUnderlying23 sizeOf28 ?_; refine R.loadOneRo C U U U isAgg28 hgro hqat<|Rn C U U runUnderlying28<|Ra C U U U<|R.callP C U U U U (climbsR_c hJ (hyl2.mono hl4) (by omega) (by omega))<|R.int C U U U U b_neq<|R.fixv (t := 145) (v' := .bool false) U (by (rw [h5]; rfl))<|R.pickF C U U U U<|R.done C<|X.cond C.1 U (fun h => nomatch h) (fun _ => ?_)
   refine X.skip C.1<|Xr C U U<|Rm C U U<|R.int C U U U U b_eql<|Rf C 3 U U runUnderlying27 U sizeOf24<|Rl C U U isAgg24 (by repeat constructor) U<|Rm C U U<|Rx C U U U runUnderlying24 sizeOf79<|R.fieldAddr C U U U runUnderlying79 U sizeOf65 U<|R.fieldAddr C U U U runUnderlying65 U sizeOf3 U<|R.loadOneRo C U U U isAgg3 hcro hhi2<|Rm C U U<|R.int C U U U U b_leq<|R.eqBool C U U U U runUnderlying4<|R.fixv (t := 158) (v' := .bool true) U (by (exact congrArg Value.bool (eqB (intB h6))))<|Rm C U U<|R.callR C U U U U ((hoisted_c _ (he.mono k4))) fun v9 ro9 hl9 hq9 => R.pickT C U U U U<|Ad C U U<|X.ret0 C (by kernel_rfl) U U func11 U (by exact (.tmp U .nil)) fun w9 hs9 => hret _ _ _ (RO.le_trans k4 hl9) ?_ w9 hs9
   exact hq9
end Go.Lg.B
namespace Go.Lg.B
open Go Go.Proofs Go.Proofs.YtchjgmkeemdhlaaGreatDoor Go.Proofs.Tryz
set_option maxRecDepth 100000
theorem most_k1 : (Rows.tackleMostRow.inPlace == prog.inPlace 11) = true := by kernel_rfl
theorem most_k2 : (Rows.tackleMostRow.unfollowed == prog.unfollowed 11) = true := by kernel_rfl
theorem most_k3 : (Rows.tackleMostRow.recurses == prog.recurses 11) = true := by kernel_rfl
theorem most_k4 : (Rows.tackleMostRow.named == prog.varsNamed 11) = true := by kernel_rfl
theorem most_name : prog.funcNamed "lagan/laganlaw07.TackleMost" = some 11 := by kernel_rfl
theorem most_goes : true = Rows.tackleMostRow.goesBy prog := by kernel_rfl
theorem most_wf : Rows.tackleMostRow.wfByText (OpenSpec.ofChange Rows.tackleMostSpec) = true := by kernel_rfl
theorem most_facts : joinedFacts prog 11 Tryz.f11 Rows.tackleMostSpec Rows.tackleMostRow = true := by
 unfold joinedFacts
 exact (and_mk (and_mk (and_mk (and_mk (and_mk (and_mk (and_mk (and_mk (and_mk (and_mk (and_mk (and_mk (and_mk (and_mk (and_mk (and_mk (and_mk (and_mk (and_mk (and_mk (and_mk (and_mk (and_mk (and_mk (and_mk (and_mk (and_mk (and_mk (and_mk (and_mk (and_mk (by as_aux_lemma => kernel_rfl)
  k_lo)
  k_mr)
  (by as_aux_lemma => kernel_rfl))
  (by as_aux_lemma => kernel_rfl))
  (by as_aux_lemma => kernel_rfl))
  k_stops)
  (by as_aux_lemma => kernel_rfl))
  k_knobs)
  most_k1)
  most_k2)
  most_k3)
  most_k4)
  (by as_aux_lemma => kernel_rfl))
  (by as_aux_lemma => kernel_rfl))
  (by as_aux_lemma => kernel_rfl))
  (by as_aux_lemma => kernel_rfl))
  (by as_aux_lemma => kernel_rfl))
  (by as_aux_lemma => kernel_rfl))
  (by as_aux_lemma => kernel_rfl))
  (by as_aux_lemma => kernel_rfl))
  (by as_aux_lemma => kernel_rfl))
  (beq_iff_eq.2 k_pk.symm))
  (by as_aux_lemma => kernel_rfl))
  k_heard)
  k_may)
  (beq_iff_eq.2 k_lift.symm))
  (beq_iff_eq.2 k_make))
  (by as_aux_lemma => kernel_rfl))
  (by as_aux_lemma => kernel_rfl))
  (by as_aux_lemma => kernel_rfl))
  (by as_aux_lemma => kernel_rfl))
end Go.Lg.B
namespace Go.Proofs.YtchjgmkeemdhlaaGreatDoor
open Go Go.Conc Go.Lg Go.Lg.B Go.ChangeShapes Go.RowKit Go.WideShapes
set_option maxRecDepth 100000
theorem most_lifted (os : Os) (started : os.Started) (H : Type) (enc : TypeId × Value → H) :
  ReturnsInLeavingWide {} Tryz.checked os 11 .any (fun w args => (Rows.tackleMostSpec.pre enc Tryz.prog Tryz.f11 [] false w args ∧ laidMetH Tryz.prog laid1 w) ∧ sizedMet enc Tryz.prog Tryz.f11 (OpenSpec.ofChange Rows.tackleMostSpec) false w args)
   (Rows.tackleMostSpec.post enc Tryz.prog Tryz.f11 false true false false) := by
 refine leaving_of_root (C := Tryz.checked) (tb := 4) (X := fun w _ => laidMetH Tryz.prog laid1 w) (fun _ _ _ hh h => h.of_heap hh) own0 started Tryz.func11 laid0 (by
   intro t ht
   rw [Tryz.params11] at ht
   have hm : t ∈ [27, 5, 5, 5, 5] := ht
   have hall : ([27, 5, 5, 5, 5].all fun u => Tryz.prog.readableRec u && decide (u < Tryz.prog.types.size)) = true := by kernel_rfl
   have := List.all_eq_true.1 hall t hm
   rw [Bool.and_eq_true, decide_eq_true_eq] at this
   exact this) rfl (by kernel_rfl) Tryz.underlying4
  (ChangeSpec.witness_shaped (enc := enc) (C := Tryz.checked) (os := os) (X := fun w _ => laidMetH Tryz.prog laid1 w) false (World.doorLaid Tryz.prog 89 os) #[.agg #[.int .i64 0, .slice none 0 0, .slice none 0 0, .slice none 0 0, .slice none 0 0], .int .u8 0, .int .u8 0, .int .u8 0, .int .u8 0] 8 rfl (door_shaped os _) (by kernel_rfl) (by kernel_rfl) (by kernel_rfl) (door_met os _)) ?_
 intro W base args ds gs before hval hW _ _ hL
 obtain ⟨p, q, hA, hV, rfl, _, _⟩ := hW
 obtain ⟨rfl, rfl⟩ := trodVars_none hV
 have hA : DataW.TrodAll enc Tryz.prog W 0 (fun _ => true) true Tryz.f11.params.toList args.toList ds p := hA
 have hval : ∀ (j : Nat) t v, Tryz.f11.params[j]? = some t → args[j]? = some v → Value.okWide Tryz.prog W .any base t v := hval
 rw [Tryz.params11] at hA hval
 obtain ⟨v1, l1, d1, k1, p1, q1, e1, rfl, rfl, h1, hA⟩ := trodAll_cons hA
 obtain ⟨v2, l2, d2, k2, p2, q2, rfl, rfl, rfl, h2, hA⟩ := trodAll_cons hA
 obtain ⟨v3, l3, d3, k3, p3, q3, rfl, rfl, rfl, h3, hA⟩ := trodAll_cons hA
 obtain ⟨v4, l4, d4, k4, p4, q4, rfl, rfl, rfl, h4, hA⟩ := trodAll_cons hA
 obtain ⟨v5, l5, d5, k5, p5, q5, rfl, rfl, rfl, h5, hA⟩ := trodAll_cons hA
 obtain ⟨rfl, rfl, rfl⟩ := trodAll_nil hA
 have ea : args = #[v1, v2, v3, v4, v5] := Array.toList_inj.1 e1
 subst ea
 obtain ⟨b, b1⟩ := argBk (hval 0 27 v1 rfl rfl) h1
 obtain ⟨g, rfl, o1⟩ := argU8 (hval 1 5 v2 rfl rfl) h2
 obtain ⟨p, rfl, o2⟩ := argU8 (hval 2 5 v3 rfl rfl) h3
 obtain ⟨x, rfl, o3⟩ := argU8 (hval 3 5 v4 rfl rfl) h4
 obtain ⟨y, rfl, o4⟩ := argU8 (hval 4 5 v5 rfl rfl) h5
 exact ⟨rfl, most_root o1 o2 o3 o4 (env_of_laid hL) b1⟩
theorem most_row : Rows.TackleMostSaid :=
 OpenClaim.holds_of_wide_leaving 11 Tryz.f11 rfl rfl rfl rfl rfl rfl rfl ⟨rfl, rfl, rfl, rfl, rfl⟩ rfl rfl rfl rfl rfl most_name Tryz.func11 most_facts
  (of_decide_eq_true (by kernel_rfl)) (by unfold Func.isWrapper; first | (rw [if_pos (by decide +kernel)]; kernel_rfl) | (rw [if_neg (by decide +kernel)]; exact ⟨rfl, rfl⟩))
  (fun os started H enc _ => most_lifted os started H enc)
theorem most_holds : Rows.TackleMostCardSaid :=
 card_goes .later [.funcs] true (true, "6ec45924a9ef3528b91853e2f3d4ce9a8ac3f7423f5bdc8d9ecf7c969235976f") true
  most_row most_wf tackleMost_row_tie rfl ⟨rfl, rfl⟩ k_main rfl
  (fun f fn hf hfn => by
   obtain rfl : f = 11 := Option.some.inj (most_name.symm.trans hf) |>.symm
   obtain rfl : fn = Tryz.f11 := (Option.some.inj (Tryz.func11.symm.trans hfn)).symm
   exact ⟨k_looks, fun j t ht => by
    rw [Tryz.params11] at ht
    have hm : t ∈ [27, 5, 5, 5, 5] := by simpa using Array.mem_of_getElem? ht
    have hall : ([27, 5, 5, 5, 5].all fun u => !Tryz.prog.wantsStandIn u) = true := by kernel_rfl
    exact (show Tryz.prog.wantsStandIn t = false by simpa using List.all_eq_true.1 hall t hm)⟩)
  most_goes
end Go.Proofs.YtchjgmkeemdhlaaGreatDoor
