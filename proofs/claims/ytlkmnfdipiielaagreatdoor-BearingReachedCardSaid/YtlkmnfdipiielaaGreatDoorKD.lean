/-
  Part 4 of what all proofs of this seat share: laws of the model that the walks use, and what functions of the program reckon. Conditions: the premises that each theorem states.
-/
import Derived.Test.YtlkmnfdipiielaaGreatDoorKC
import Derived.Sort.LotD4
import Derived.Sort.LotD5
import Derived.Laws.Bits64
import Derived.Laws.Bits64b
import Derived.Sort.Walk13a
set_option maxRecDepth 100000
set_option linter.all false
set_option linter.unusedVariables false
set_option linter.unusedSimpArgs false
set_option linter.unusedSectionVars false
namespace Go.Lg.B
open Go Go.Conc Go.Lg Go.Proofs Go.Proofs.Tryz
open Go.Sort (ltInt swp siftDown heapBuild heapPop heapSort)
theorem sift_end {hi F root : Nat} {d : Array Int} (h : hi ≤ 2 * root + 1) : siftDown ltInt hi F root d = d := by rw [siftDown, dif_pos h]
theorem sift_two {hi F root : Nat} {d : Array Int} (h : 2 * root + 2 < hi) (hl : ltInt d[F + (2 * root + 1)]! d[F + (2 * root + 1) + 1]! = true) :
    siftDown ltInt hi F root d = if !ltInt d[F + root]! d[F + (2 * root + 2)]! then d else siftDown ltInt hi F (2 * root + 2) (swp d (F + root) (F + (2 * root + 2))) := by
  rw [siftDown, dif_neg (by omega), if_pos (by simp [hl]; omega)]
  split <;> rfl
theorem sift_one {hi F root : Nat} {d : Array Int} (h : 2 * root + 1 < hi) (hl : hi ≤ 2 * root + 2 ∨ ltInt d[F + (2 * root + 1)]! d[F + (2 * root + 1) + 1]! = false) :
    siftDown ltInt hi F root d = if !ltInt d[F + root]! d[F + (2 * root + 1)]! then d else siftDown ltInt hi F (2 * root + 1) (swp d (F + root) (F + (2 * root + 1))) := by
  rw [siftDown, dif_neg (by omega), if_neg]
  rcases hl with hl | hl
  · simp; omega
  · simp [hl]
theorem siftDown_size (hi F : Nat) : ∀ (n root : Nat) (d : Array Int), hi - root ≤ n → (siftDown ltInt hi F root d).size = d.size
  | 0, root, d, h => by rw [sift_end (by omega)]
  | n + 1, root, d, h => by
    rw [siftDown]
    split
    · rfl
    · split
      · split
        · rfl
        · split
          · rw [siftDown_size hi F n _ _ (by omega)]; simp [swp]
          · rfl
      · split
        · rfl
        · rw [siftDown_size hi F n _ _ (by omega)]; simp [swp]
variable {main : Bool} {J : Goroutine → Mem → Prop} (hJ : Closed prog main J)
include hJ
theorem siftDown_c {p : Nat} {sp : List Value} {d : Array Int} {cap lo hi F : Nat} {ro : RO} (hn : d.size ≤ 1000000000) (hb : F + hi ≤ d.size) (hlo : lo ≤ d.size) : CallS J 231 p sp d cap [.int .i64 (lo : Int), .int .i64 (hi : Int), .int .i64 (F : Int)] ro (.tuple #[]) (siftDown ltInt hi F lo d) := by
  refine CallS.intro hJ (by kernel_rfl) fun c cs tail hret => ?_
  let J := J
  refine enter_X (n := 76) func231 rfl rfl (Nl rfl) ?_
  have C : Ctx prog main J (bf 231 .normal) := ⟨hJ, by decide⟩
  refine Xr C rfl rfl <| Rm C rfl rfl <| Ad C rfl rfl <| X.block C.1 <| X.loopI (ι := Nat × Array Int) C.1 (fun s => s.2.size = d.size ∧ s.1 ≤ d.size ∧ siftDown ltInt hi F s.1 s.2 = siftDown ltInt hi F lo d) (fun s => [(0, .slice (some ⟨p, 0, none⟩) d.size cap), (2, .int .i64 (hi : Int)), (3, .int .i64 (F : Int)), (8, .int .i64 (s.1 : Int))])
    (fun s => ⟨ro, (p, .cells (vals s.2 ++ sp).toArray 3 (0, 0)) :: tail⟩) (fun s => hi - s.1) (lo, d) ⟨rfl, hlo, rfl⟩ rfl ⟨rfl, rfl, rfl, rfl, trivial⟩ fun s hs hnext => ?_
  obtain ⟨root, d1⟩ := s
  obtain ⟨h1, h2, hs⟩ := hs
  simp only at h1 h2 hs hnext ⊢
  refine X.block C.1 <| Xr C rfl rfl <| Rm C rfl rfl <| R.int C rfl rfl rfl rfl (b_mul (by omega) (by omega)) <| R.int C rfl rfl rfl rfl (b_add (by omega) (by omega)) <| Ad C rfl rfl <| Xs C <| Xr C rfl rfl <| Rm C rfl rfl <| Rm C rfl rfl <| R.int C rfl rfl rfl rfl b_geq <| R.done C <| X.cond C.1 rfl (fun hge => ?_) (fun hge => ?_)
  · have hge := hge
    simp only [ge_iff_le, decide_eq_true_eq] at hge
    rw [sift_end (by omega)] at hs
    refine X.exit C.1 rfl <| X.fall C rfl rfl func231 rfl (by exact .nil) ?_
    exact hret _ _ rfl hs
  · have hge := hge
    simp only [ge_iff_le, decide_eq_false_iff_not] at hge
    refine X.skip C.1 <| Xs C <| Xs C <| Xd C fun hok => Dm C 0 hok rfl rfl rfl <| Di C 1 hok rfl rfl rfl rfl rfl (b_add (by omega) (by omega)) <| Dm C 2 hok rfl rfl rfl <| Di C 3 hok rfl rfl rfl rfl rfl b_lss <| Dm C 4 hok rfl rfl rfl <| D.fix (t := 21) rfl (fun hg => ?_) (fun hg => ?_)
    · have hg := hg
      simp only [decide_eq_true_eq] at hg
      refine Dm C 5 hok rfl rfl rfl <| Dm C 6 hok rfl rfl rfl <| Dm C 7 hok rfl rfl rfl <| Di C 8 hok rfl rfl rfl rfl rfl (b_add (by omega) (by omega)) <| Dx C 9 hok rfl rfl rfl runUnderlying28 sizeOf3 <| D1 C 10 hok rfl rfl isAgg3 (by repeat (first | exact Mh | apply Mt)) (vals_at (k := F + (2 * root + 1)) (by omega) (by omega)) <| Dm C 11 hok rfl rfl rfl <| Dm C 12 hok rfl rfl rfl <| Dm C 13 hok rfl rfl rfl <| Di C 14 hok rfl rfl rfl rfl rfl (b_add (by omega) (by omega)) <| Di C 15 hok rfl rfl rfl rfl rfl (b_add (by omega) (by omega)) <| Dx C 16 hok rfl rfl rfl runUnderlying28 sizeOf3 <| D1 C 17 hok rfl rfl isAgg3 (by repeat (first | exact Mh | apply Mt)) (vals_at (k := F + (2 * root + 1) + 1) (by omega) (by omega)) <| De 18 (some 35) [false, false] hok (fun σr rest A hk => ?_)
      refine R.callP C rfl (A.w rfl rfl) (A.x rfl rfl) (A.s rfl rfl) (less_c hJ _ _ _) (hk _ _ ⟨QFs.nil, ?_⟩)
      refine Dp 19 hok (fun _ _ _ A h => R.pickT C rfl (A.w rfl rfl) (A.x rfl rfl) (A.x rfl rfl) h) <| D.done C hok (by kernel_rfl) <| X.cond C.1 rfl (fun hch => ?_) (fun hch => ?_)
      · have hch := hch
        rw [sift_two (by omega) hch] at hs
        refine X.region C rfl rfl <| Rm C rfl rfl <| R.int C rfl rfl rfl rfl (b_add (by omega) (by omega)) <| Ad C rfl rfl <| Xs C <| Xs C <| Xd C fun hok => Dm C 0 hok rfl rfl rfl <| Dm C 1 hok rfl rfl rfl <| Dm C 2 hok rfl rfl rfl <| Di C 3 hok rfl rfl rfl rfl rfl (b_add (by omega) (by omega)) <| Dx C 4 hok rfl rfl rfl runUnderlying28 sizeOf3 <| D1 C 5 hok rfl rfl isAgg3 (by repeat (first | exact Mh | apply Mt)) (vals_at (k := F + root) (by omega) (by omega)) <| Dm C 6 hok rfl rfl rfl <| Dm C 7 hok rfl rfl rfl <| Dm C 8 hok rfl rfl rfl <| Di C 9 hok rfl rfl rfl rfl rfl (b_add (by omega) (by omega)) <| Dx C 10 hok rfl rfl rfl runUnderlying28 sizeOf3 <| D1 C 11 hok rfl rfl isAgg3 (by repeat (first | exact Mh | apply Mt)) (vals_at (k := F + (2 * root + 2)) (by omega) (by omega)) <| De 12 (some 51) [false, false] hok (fun σr rest A hk => ?_)
        refine R.callP C rfl (A.w rfl rfl) (A.x rfl rfl) (A.s rfl rfl) (less_c hJ _ _ _) (hk _ _ ⟨QFs.nil, ?_⟩)
        refine Dp 13 hok (fun _ _ _ A h => R.not C rfl (A.w rfl rfl) (A.x rfl rfl) h) <| D.done C hok (by kernel_rfl) <| X.cond C.1 rfl (fun hl => ?_) (fun hl => ?_)
        · have hl := hl
          simp only [Bool.not_eq_true'] at hl
          rw [if_pos (by simpa using hl)] at hs
          refine X.ret C rfl rfl func231 rfl (by exact .nil) ?_
          exact hret _ _ rfl hs
        · have hl := hl
          simp only [Bool.not_eq_false'] at hl
          rw [if_neg (by simp [hl])] at hs
          refine X.skip C.1 <| Xs C <| Xd C fun hok => Dm C 0 hok rfl rfl rfl <| Dm C 1 hok rfl rfl rfl <| Dm C 2 hok rfl rfl rfl <| Di C 3 hok rfl rfl rfl rfl rfl (b_add (by omega) (by omega)) <| Dm C 4 hok rfl rfl rfl <| Dm C 5 hok rfl rfl rfl <| Dm C 6 hok rfl rfl rfl <| Di C 7 hok rfl rfl rfl rfl rfl (b_add (by omega) (by omega)) <| Dm C 8 hok rfl rfl rfl <| Dm C 9 hok rfl rfl rfl <| Dm C 10 hok rfl rfl rfl <| Di C 11 hok rfl rfl rfl rfl rfl (b_add (by omega) (by omega)) <| Dx C 12 hok rfl rfl rfl runUnderlying28 sizeOf3 <| D1 C 13 hok rfl rfl isAgg3 (by repeat (first | exact Mh | apply Mt)) (vals_at (k := F + (2 * root + 2)) (by omega) (by omega)) <| Dm C 14 hok rfl rfl rfl <| Dm C 15 hok rfl rfl rfl <| Dm C 16 hok rfl rfl rfl <| Di C 17 hok rfl rfl rfl rfl rfl (b_add (by omega) (by omega)) <| Dx C 18 hok rfl rfl rfl runUnderlying28 sizeOf3 <| D1 C 19 hok rfl rfl isAgg3 (by repeat (first | exact Mh | apply Mt)) (vals_at (k := F + root) (by omega) (by omega)) <| Dx C 20 hok rfl rfl rfl runUnderlying28 sizeOf3 <| De 21 none [false, false] hok (fun σr rest A hk => ?_)
          refine R.store C rfl (A.w rfl rfl) (A.x rfl rfl) (A.x rfl rfl) sizeOf3 rfl rfl rfl (by repeat (first | exact Uh | apply Ut)) (vals_put (k := F + root) (by omega) (by omega)) (hk undef _ ⟨QFs.nil, ?_⟩)
          refine Dx C 22 hok rfl rfl rfl runUnderlying28 sizeOf3 <| De 23 none [] hok (fun σr rest A hk => ?_)
          refine R.store C rfl (A.w rfl rfl) (A.x rfl rfl) (A.x rfl rfl) sizeOf3 rfl rfl rfl (by repeat (first | exact Uh | apply Ut)) (vals_put (k := F + (2 * root + 2)) (by omega) (by simp; omega)) (hk undef _ ⟨QFs.nil, ?_⟩)
          refine D.done C hok (by kernel_rfl) <| X.region C rfl rfl <| Rm C rfl rfl <| Ad C rfl rfl <| X.inBlock C.1 <| X.weaken ?_ (hnext ((2 * root + 2), swp d1 (F + root) (F + (2 * root + 2))) ⟨by simpa [swp] using h1, by simp; omega, hs⟩ (by simp; omega))
          exact ⟨rfl, rfl, rfl, congrArg (fun z => some (Value.int .i64 z)) (by omega), trivial⟩
      · have hch := hch
        rw [sift_one (by omega) (.inr hch)] at hs
        refine X.skip C.1 <| Xs C <| Xs C <| Xd C fun hok => Dm C 0 hok rfl rfl rfl <| Dm C 1 hok rfl rfl rfl <| Dm C 2 hok rfl rfl rfl <| Di C 3 hok rfl rfl rfl rfl rfl (b_add (by omega) (by omega)) <| Dx C 4 hok rfl rfl rfl runUnderlying28 sizeOf3 <| D1 C 5 hok rfl rfl isAgg3 (by repeat (first | exact Mh | apply Mt)) (vals_at (k := F + root) (by omega) (by omega)) <| Dm C 6 hok rfl rfl rfl <| Dm C 7 hok rfl rfl rfl <| Dm C 8 hok rfl rfl rfl <| Di C 9 hok rfl rfl rfl rfl rfl (b_add (by omega) (by omega)) <| Dx C 10 hok rfl rfl rfl runUnderlying28 sizeOf3 <| D1 C 11 hok rfl rfl isAgg3 (by repeat (first | exact Mh | apply Mt)) (vals_at (k := F + (2 * root + 1)) (by omega) (by omega)) <| De 12 (some 51) [false, false] hok (fun σr rest A hk => ?_)
        refine R.callP C rfl (A.w rfl rfl) (A.x rfl rfl) (A.s rfl rfl) (less_c hJ _ _ _) (hk _ _ ⟨QFs.nil, ?_⟩)
        refine Dp 13 hok (fun _ _ _ A h => R.not C rfl (A.w rfl rfl) (A.x rfl rfl) h) <| D.done C hok (by kernel_rfl) <| X.cond C.1 rfl (fun hl => ?_) (fun hl => ?_)
        · have hl := hl
          simp only [Bool.not_eq_true'] at hl
          rw [if_pos (by simpa using hl)] at hs
          refine X.ret C rfl rfl func231 rfl (by exact .nil) ?_
          exact hret _ _ rfl hs
        · have hl := hl
          simp only [Bool.not_eq_false'] at hl
          rw [if_neg (by simp [hl])] at hs
          refine X.skip C.1 <| Xs C <| Xd C fun hok => Dm C 0 hok rfl rfl rfl <| Dm C 1 hok rfl rfl rfl <| Dm C 2 hok rfl rfl rfl <| Di C 3 hok rfl rfl rfl rfl rfl (b_add (by omega) (by omega)) <| Dm C 4 hok rfl rfl rfl <| Dm C 5 hok rfl rfl rfl <| Dm C 6 hok rfl rfl rfl <| Di C 7 hok rfl rfl rfl rfl rfl (b_add (by omega) (by omega)) <| Dm C 8 hok rfl rfl rfl <| Dm C 9 hok rfl rfl rfl <| Dm C 10 hok rfl rfl rfl <| Di C 11 hok rfl rfl rfl rfl rfl (b_add (by omega) (by omega)) <| Dx C 12 hok rfl rfl rfl runUnderlying28 sizeOf3 <| D1 C 13 hok rfl rfl isAgg3 (by repeat (first | exact Mh | apply Mt)) (vals_at (k := F + (2 * root + 1)) (by omega) (by omega)) <| Dm C 14 hok rfl rfl rfl <| Dm C 15 hok rfl rfl rfl <| Dm C 16 hok rfl rfl rfl <| Di C 17 hok rfl rfl rfl rfl rfl (b_add (by omega) (by omega)) <| Dx C 18 hok rfl rfl rfl runUnderlying28 sizeOf3 <| D1 C 19 hok rfl rfl isAgg3 (by repeat (first | exact Mh | apply Mt)) (vals_at (k := F + root) (by omega) (by omega)) <| Dx C 20 hok rfl rfl rfl runUnderlying28 sizeOf3 <| De 21 none [false, false] hok (fun σr rest A hk => ?_)
          refine R.store C rfl (A.w rfl rfl) (A.x rfl rfl) (A.x rfl rfl) sizeOf3 rfl rfl rfl (by repeat (first | exact Uh | apply Ut)) (vals_put (k := F + root) (by omega) (by omega)) (hk undef _ ⟨QFs.nil, ?_⟩)
          refine Dx C 22 hok rfl rfl rfl runUnderlying28 sizeOf3 <| De 23 none [] hok (fun σr rest A hk => ?_)
          refine R.store C rfl (A.w rfl rfl) (A.x rfl rfl) (A.x rfl rfl) sizeOf3 rfl rfl rfl (by repeat (first | exact Uh | apply Ut)) (vals_put (k := F + (2 * root + 1)) (by omega) (by simp; omega)) (hk undef _ ⟨QFs.nil, ?_⟩)
          refine D.done C hok (by kernel_rfl) <| X.region C rfl rfl <| Rm C rfl rfl <| Ad C rfl rfl <| X.inBlock C.1 <| X.weaken ?_ (hnext ((2 * root + 1), swp d1 (F + root) (F + (2 * root + 1))) ⟨by simpa [swp] using h1, by simp; omega, hs⟩ (by simp; omega))
          exact ⟨rfl, rfl, rfl, congrArg (fun z => some (Value.int .i64 z)) (by omega), trivial⟩
    · have hg := hg
      simp only [decide_eq_false_iff_not] at hg
      refine Du C 5 hok rfl <| Du C 6 hok rfl <| Du C 7 hok rfl <| Du C 8 hok rfl <| Du C 9 hok rfl <| Du C 10 hok rfl <| Du C 11 hok rfl <| Du C 12 hok rfl <| Du C 13 hok rfl <| Du C 14 hok rfl <| Du C 15 hok rfl <| Du C 16 hok rfl <| Du C 17 hok rfl <| Du C 18 hok rfl <| Dp 19 hok (fun _ _ _ A h => R.pickF C rfl (A.w rfl rfl) (A.x rfl rfl) (A.x rfl rfl) h) <| D.done C hok (by kernel_rfl) <| X.cond C.1 rfl (fun h => nomatch h) (fun _ => ?_)
      refine X.skip C.1 <| Xs C <| Xs C <| Xd C fun hok => Dm C 0 hok rfl rfl rfl <| Dm C 1 hok rfl rfl rfl <| Dm C 2 hok rfl rfl rfl <| Di C 3 hok rfl rfl rfl rfl rfl (b_add (by omega) (by omega)) <| Dx C 4 hok rfl rfl rfl runUnderlying28 sizeOf3 <| D1 C 5 hok rfl rfl isAgg3 (by repeat (first | exact Mh | apply Mt)) (vals_at (k := F + root) (by omega) (by omega)) <| Dm C 6 hok rfl rfl rfl <| Dm C 7 hok rfl rfl rfl <| Dm C 8 hok rfl rfl rfl <| Di C 9 hok rfl rfl rfl rfl rfl (b_add (by omega) (by omega)) <| Dx C 10 hok rfl rfl rfl runUnderlying28 sizeOf3 <| D1 C 11 hok rfl rfl isAgg3 (by repeat (first | exact Mh | apply Mt)) (vals_at (k := F + (2 * root + 1)) (by omega) (by omega)) <| De 12 (some 51) [false, false] hok (fun σr rest A hk => ?_)
      refine R.callP C rfl (A.w rfl rfl) (A.x rfl rfl) (A.s rfl rfl) (less_c hJ _ _ _) (hk _ _ ⟨QFs.nil, ?_⟩)
      refine Dp 13 hok (fun _ _ _ A h => R.not C rfl (A.w rfl rfl) (A.x rfl rfl) h) <| D.done C hok (by kernel_rfl) ?_
      rw [sift_one (by omega) (.inl (by omega))] at hs
      refine X.cond C.1 rfl (fun hl => ?_) (fun hl => ?_)
      · have hl := hl
        simp only [Bool.not_eq_true'] at hl
        rw [if_pos (by simpa using hl)] at hs
        refine X.ret C rfl rfl func231 rfl (by exact .nil) ?_
        exact hret _ _ rfl hs
      · have hl := hl
        simp only [Bool.not_eq_false'] at hl
        rw [if_neg (by simp [hl])] at hs
        refine X.skip C.1 <| Xs C <| Xd C fun hok => Dm C 0 hok rfl rfl rfl <| Dm C 1 hok rfl rfl rfl <| Dm C 2 hok rfl rfl rfl <| Di C 3 hok rfl rfl rfl rfl rfl (b_add (by omega) (by omega)) <| Dm C 4 hok rfl rfl rfl <| Dm C 5 hok rfl rfl rfl <| Dm C 6 hok rfl rfl rfl <| Di C 7 hok rfl rfl rfl rfl rfl (b_add (by omega) (by omega)) <| Dm C 8 hok rfl rfl rfl <| Dm C 9 hok rfl rfl rfl <| Dm C 10 hok rfl rfl rfl <| Di C 11 hok rfl rfl rfl rfl rfl (b_add (by omega) (by omega)) <| Dx C 12 hok rfl rfl rfl runUnderlying28 sizeOf3 <| D1 C 13 hok rfl rfl isAgg3 (by repeat (first | exact Mh | apply Mt)) (vals_at (k := F + (2 * root + 1)) (by omega) (by omega)) <| Dm C 14 hok rfl rfl rfl <| Dm C 15 hok rfl rfl rfl <| Dm C 16 hok rfl rfl rfl <| Di C 17 hok rfl rfl rfl rfl rfl (b_add (by omega) (by omega)) <| Dx C 18 hok rfl rfl rfl runUnderlying28 sizeOf3 <| D1 C 19 hok rfl rfl isAgg3 (by repeat (first | exact Mh | apply Mt)) (vals_at (k := F + root) (by omega) (by omega)) <| Dx C 20 hok rfl rfl rfl runUnderlying28 sizeOf3 <| De 21 none [false, false] hok (fun σr rest A hk => ?_)
        refine R.store C rfl (A.w rfl rfl) (A.x rfl rfl) (A.x rfl rfl) sizeOf3 rfl rfl rfl (by repeat (first | exact Uh | apply Ut)) (vals_put (k := F + root) (by omega) (by omega)) (hk undef _ ⟨QFs.nil, ?_⟩)
        refine Dx C 22 hok rfl rfl rfl runUnderlying28 sizeOf3 <| De 23 none [] hok (fun σr rest A hk => ?_)
        refine R.store C rfl (A.w rfl rfl) (A.x rfl rfl) (A.x rfl rfl) sizeOf3 rfl rfl rfl (by repeat (first | exact Uh | apply Ut)) (vals_put (k := F + (2 * root + 1)) (by omega) (by simp; omega)) (hk undef _ ⟨QFs.nil, ?_⟩)
        refine D.done C hok (by kernel_rfl) <| X.region C rfl rfl <| Rm C rfl rfl <| Ad C rfl rfl <| X.inBlock C.1 <| X.weaken ?_ (hnext ((2 * root + 1), swp d1 (F + root) (F + (2 * root + 1))) ⟨by simpa [swp] using h1, by simp; omega, hs⟩ (by simp; omega))
        exact ⟨rfl, rfl, rfl, congrArg (fun z => some (Value.int .i64 z)) (by omega), trivial⟩
theorem heapSort_c {p : Nat} {sp : List Value} {d : Array Int} {cap a b : Nat} {ro : RO} (hn : d.size ≤ 1000000000) (hab : a ≤ b) (hb : b ≤ d.size) : CallS J 185 p sp d cap [.int .i64 (a : Int), .int .i64 (b : Int)] ro (.tuple #[]) (heapSort ltInt d a b) := by
  refine CallS.intro hJ (by kernel_rfl) fun c cs tail hret => ?_
  let J := J
  have hq : ((b : Int) - a - 1).tdiv 2 = (((b - a - 1) / 2 : Nat) : Int) := by
    rcases Nat.lt_or_eq_of_le hab with h | h
    · rw [Int.tdiv_eq_ediv_of_nonneg (by omega)]; omega
    · subst h; rw [show (a : Int) - a - 1 = -1 by omega, show a - a - 1 = 0 by omega]; rfl
  refine enter_X (n := 56) func185 rfl rfl (Nl rfl) ?_
  have C : Ctx prog main J (bf 185 .normal) := ⟨hJ, by decide⟩
  refine Xr C rfl rfl <| Rm C rfl rfl <| Ad C rfl rfl <| Xr C rfl rfl <| Ad C rfl rfl <| Xr C rfl rfl <| Rm C rfl rfl <| Rm C rfl rfl <| R.int C rfl rfl rfl rfl (b_sub (by omega) (by omega)) <| Ad C rfl rfl <| Xs C <| Xr C rfl rfl <| Rm C rfl rfl <| R.int C rfl rfl rfl rfl (b_sub (by omega) (by omega)) <| R.int C rfl rfl rfl rfl (b_quo (by decide) (by omega) (by omega)) <| R.fixv (t := 17) (v' := .int .i64 ((((b - a - 1) / 2 : Nat) : Nat) : Int)) rfl (by exact congrArg (Value.int .i64) hq) <| Ad C rfl rfl <| X.block C.1 <| X.loopI (ι := Nat × Array Int) C.1 (fun s => s.2.size = d.size ∧ s.1 ≤ (b - a - 1) / 2 + 1 ∧ heapBuild ltInt (b - a) a s.1 s.2 = heapBuild ltInt (b - a) a ((b - a - 1) / 2 + 1) d) (fun s => [(0, .slice (some ⟨p, 0, none⟩) d.size cap), (6, .int .i64 (a : Int)), (7, .int .i64 0), (8, .int .i64 ((b - a : Nat) : Int)), (9, .int .i64 ((s.1 : Int) - 1))])
    (fun s => ⟨ro, (p, .cells (vals s.2 ++ sp).toArray 3 (0, 0)) :: tail⟩) (fun s => s.1) ((b - a - 1) / 2 + 1, d) ⟨rfl, Nat.le_refl _, rfl⟩ rfl ⟨rfl, rfl, rfl, congrArg (fun z => some (Value.int .i64 z)) (by omega), congrArg (fun z => some (Value.int .i64 z)) (by omega), trivial⟩ fun s hs hnext => ?_
  obtain ⟨k, d1⟩ := s
  obtain ⟨h1, h2, hs⟩ := hs
  simp only at h1 h2 hs hnext ⊢
  refine Xs C <| Xr C rfl rfl <| Rm C rfl rfl <| R.int C rfl rfl rfl rfl b_geq <| R.done C <| X.cond C.1 rfl (fun hge => ?_) (fun hge => ?_)
  · have hge := hge
    simp only [decide_eq_true_eq] at hge
    obtain ⟨k, rfl⟩ : ∃ k', k = k' + 1 := ⟨k - 1, by omega⟩
    have hcall := siftDown_c hJ (p := p) (sp := sp) (d := d1) (cap := cap) (lo := k) (hi := b - a) (F := a) (ro := ro) (by omega) (by omega) (by omega)
    unfold CallS at hcall
    rw [h1] at hcall
    refine X.skip C.1 <| Xs C <| X.block C.1 <| X.region C rfl rfl <| Rm C rfl rfl <| Rm C rfl rfl <| R.fixv (t := 23) (v' := .int .i64 (k : Int)) rfl (by (congr 1; omega)) <| Rm C rfl rfl <| Rm C rfl rfl <| R.call C rfl rfl rfl rfl rfl hcall fun v' ro' pre' hle' hp' => R.done C <| X.inBlock C.1 <| X.region C rfl rfl ?_
    obtain ⟨rfl, rfl, rfl⟩ := hp'
    refine Rm C rfl rfl <| R.int C rfl rfl rfl rfl (b_sub (by omega) (by omega)) <| Ad C rfl rfl <| X.weaken ?_ (hnext (k, siftDown ltInt (b - a) a k d1) ⟨by rw [siftDown_size _ _ _ _ _ (Nat.le_refl _)]; exact h1, by simp; omega, hs⟩ (by simp))
    exact ⟨rfl, rfl, rfl, rfl, congrArg (fun z => some (Value.int .i64 z)) (by omega), trivial⟩
  · have hge := hge
    simp only [decide_eq_false_iff_not] at hge
    obtain rfl : k = 0 := by omega
    simp only [heapBuild] at hs
    refine X.exit C.1 rfl <| Xr C rfl rfl <| Rm C rfl rfl <| R.int C rfl rfl rfl rfl (b_sub (by omega) (by omega)) <| Ad C rfl rfl <| X.block C.1 <| X.loopI (ι := Nat × Array Int) C.1 (fun s => s.2.size = d.size ∧ s.1 ≤ b - a ∧ heapPop ltInt a s.1 s.2 = heapSort ltInt d a b) (fun s => [(0, .slice (some ⟨p, 0, none⟩) d.size cap), (6, .int .i64 (a : Int)), (7, .int .i64 0), (10, .int .i64 ((s.1 : Int) - 1))])
      (fun s => ⟨ro, (p, .cells (vals s.2 ++ sp).toArray 3 (0, 0)) :: tail⟩) (fun s => s.1) (b - a, d1) ⟨h1, Nat.le_refl _, by rw [hs]; rfl⟩ rfl ⟨rfl, rfl, rfl, congrArg (fun z => some (Value.int .i64 z)) (by omega), trivial⟩ fun s hs2 hnext2 => ?_
    obtain ⟨k, d2⟩ := s
    obtain ⟨k1, k2, k3⟩ := hs2
    simp only at k1 k2 k3 hnext2 ⊢
    refine Xs C <| Xr C rfl rfl <| Rm C rfl rfl <| R.int C rfl rfl rfl rfl b_geq <| R.done C <| X.cond C.1 rfl (fun hge2 => ?_) (fun hge2 => ?_)
    · have hge2 := hge2
      simp only [decide_eq_true_eq] at hge2
      obtain ⟨k, rfl⟩ : ∃ k', k = k' + 1 := ⟨k - 1, by omega⟩
      have hsz : (swp d2 a (a + k)).size = d.size := by simpa [swp] using k1
      have hcall := siftDown_c hJ (p := p) (sp := sp) (d := swp d2 a (a + k)) (cap := cap) (lo := 0) (hi := k) (F := a) (ro := ro) (by omega) (by omega) (by omega)
      unfold CallS at hcall
      rw [hsz] at hcall
      refine X.skip C.1 <| Xs C <| X.block C.1 <| Xs C <| Xd C fun hok => Dm C 0 hok rfl rfl rfl <| Dm C 1 hok rfl rfl rfl <| Dm C 2 hok rfl rfl rfl <| Dm C 3 hok rfl rfl rfl <| Dm C 4 hok rfl rfl rfl <| Di C 5 hok rfl rfl rfl rfl rfl (b_add (by omega) (by omega)) <| Dm C 6 hok rfl rfl rfl <| Dm C 7 hok rfl rfl rfl <| Dm C 8 hok rfl rfl rfl <| Di C 9 hok rfl rfl rfl rfl rfl (b_add (by omega) (by omega)) <| Dx C 10 hok rfl rfl rfl runUnderlying28 sizeOf3 <| D1 C 11 hok rfl rfl isAgg3 (by repeat (first | exact Mh | apply Mt)) (vals_at (k := a + k) (by omega) (by omega)) <| Dm C 12 hok rfl rfl rfl <| Dm C 13 hok rfl rfl rfl <| Dx C 14 hok rfl rfl rfl runUnderlying28 sizeOf3 <| D1 C 15 hok rfl rfl isAgg3 (by repeat (first | exact Mh | apply Mt)) (vals_at (k := a) (by omega) (by omega)) <| Dx C 16 hok rfl rfl rfl runUnderlying28 sizeOf3 <| De 17 none [false, false] hok (fun σr rest A hk => ?_)
      refine R.store C rfl (A.w rfl rfl) (A.x rfl rfl) (A.x rfl rfl) sizeOf3 rfl rfl rfl (by repeat (first | exact Uh | apply Ut)) (vals_put (k := a) (by omega) (by omega)) (hk undef _ ⟨QFs.nil, ?_⟩)
      refine Dx C 18 hok rfl rfl rfl runUnderlying28 sizeOf3 <| De 19 none [] hok (fun σr rest A hk => ?_)
      refine R.store C rfl (A.w rfl rfl) (A.x rfl rfl) (A.x rfl rfl) sizeOf3 rfl rfl rfl (by repeat (first | exact Uh | apply Ut)) (vals_put (k := a + k) (by omega) (by simp; omega)) (hk undef _ ⟨QFs.nil, ?_⟩)
      refine D.done C hok (by kernel_rfl) <| X.region C rfl rfl <| Rm C rfl rfl <| Rm C rfl rfl <| Rm C rfl rfl <| R.fixv (t := 53) (v' := .int .i64 (k : Int)) rfl (by (congr 1; omega)) <| Rm C rfl rfl <| R.call C rfl rfl rfl rfl rfl hcall fun v' ro' pre' hle' hp' => R.done C <| X.inBlock C.1 <| X.region C rfl rfl ?_
      obtain ⟨rfl, rfl, rfl⟩ := hp'
      refine Rm C rfl rfl <| R.int C rfl rfl rfl rfl (b_sub (by omega) (by omega)) <| Ad C rfl rfl <| X.weaken ?_ (hnext2 (k, siftDown ltInt k a 0 (swp d2 a (a + k))) ⟨by rw [siftDown_size _ _ _ _ _ (Nat.le_refl _)]; exact hsz, by simp; omega, k3⟩ (by simp))
      exact ⟨rfl, rfl, rfl, congrArg (fun z => some (Value.int .i64 z)) (by omega), trivial⟩
    · have hge2 := hge2
      simp only [decide_eq_false_iff_not] at hge2
      obtain rfl : k = 0 := by omega
      simp only [heapPop] at k3
      refine X.exit C.1 rfl <| X.fall C rfl rfl func185 rfl (by exact .nil) ?_
      exact hret _ _ rfl k3
end Go.Lg.B
namespace Go.Lg.B
open Go Go.Conc Go.Lg Go.Proofs Go.Proofs.Tryz
open Go.Sort (ltInt swp order2 median medianAdjacent choosePivot reverseLoop reverseRange Hint)
theorem rev_go {i j : Nat} {d : Array Int} (h : i < j) : reverseLoop i j d = reverseLoop (i + 1) (j - 1) (swp d i j) := by rw [reverseLoop, if_pos h]
theorem rev_stop {i j : Nat} {d : Array Int} (h : j ≤ i) : reverseLoop i j d = d := by rw [reverseLoop, if_neg (by omega)]
def CallQ (J : Goroutine → Mem → Prop) (f : FuncId) (p q : Nat) (sp : List Value) (d : Array Int) (s : Nat) (args : List Value) (ro : RO) (v : Value) (s' : Nat) : Prop :=
  CallV prog J (fnv f) args ro [(q, .cells [.int .i64 (s : Int)].toArray 3 (0, 0)), (p, .cells (vals d ++ sp).toArray 3 (0, 0))] fun v' ro' pre' => v' = v ∧ ro' = ro ∧ pre' = [(q, .cells [.int .i64 (s' : Int)].toArray 3 (0, 0)), (p, .cells (vals d ++ sp).toArray 3 (0, 0))]
def BackQ (J : Goroutine → Mem → Prop) (c : Frame) (cs : List Frame) (ro : RO) (tail : List (Nat × Obj)) (p q : Nat) (sp : List Value) (d : Array Int) (v : Value) (s' : Nat) : Prop :=
  ∀ v' s2, v' = v → s2 = s' → J (G (c.finish v') cs) ⟨ro, (q, .cells [.int .i64 (s2 : Int)].toArray 3 (0, 0)) :: (p, .cells (vals d ++ sp).toArray 3 (0, 0)) :: tail⟩
variable {main : Bool} {J : Goroutine → Mem → Prop} (hJ : Closed prog main J)
include hJ
theorem CallQ.intro {f : FuncId} {p q : Nat} {sp : List Value} {d : Array Int} {s s' : Nat} {args : List Value} {ro : RO} {v : Value} (hc : callableB prog f = true)
    (h : ∀ c cs tail, BackQ J c cs ro tail p q sp d v s' → J (G (Frame.enter prog f args.toArray .normal) (c :: cs)) ⟨ro, (q, .cells [.int .i64 (s : Int)].toArray 3 (0, 0)) :: (p, .cells (vals d ++ sp).toArray 3 (0, 0)) :: tail⟩) : CallQ J f p q sp d s args ro v s' :=
  CallV.intro (first := []) (cap := []) hJ hc fun c cs tail hret => by
    have := h c cs tail fun v' s2 e1 e2 => hret v' ro [(q, .cells [.int .i64 (s2 : Int)].toArray 3 (0, 0)), (p, .cells (vals d ++ sp).toArray 3 (0, 0))] _ (RO.le_refl _) ⟨e1, rfl, by rw [e2]⟩ (.refl _)
    simpa using this
theorem reverseRange_c {p : Nat} {sp : List Value} {d : Array Int} {cap a b : Nat} {ro : RO} (hn : d.size ≤ 1000000000) (hab : a < b) (hb : b ≤ d.size) : CallS J 188 p sp d cap [.int .i64 (a : Int), .int .i64 (b : Int)] ro (.tuple #[]) (reverseRange d a b) := by
  refine CallS.intro hJ (by kernel_rfl) fun c cs tail hret => ?_
  let J := J
  refine enter_X (n := 32) func188 rfl rfl (Nl rfl) ?_
  have C : Ctx prog main J (bf 188 .normal) := ⟨hJ, by decide⟩
  refine Xr C rfl rfl <| Rm C rfl rfl <| Ad C rfl rfl <| Xr C rfl rfl <| Rm C rfl rfl <| R.int C rfl rfl rfl rfl (b_sub (by omega) (by omega)) <| Ad C rfl rfl <| X.block C.1 <| X.loopI (ι := Nat × Nat × Array Int) C.1 (fun s => s.2.2.size = d.size ∧ s.2.1 < d.size ∧ s.1 ≤ d.size ∧ reverseLoop s.1 s.2.1 s.2.2 = reverseRange d a b) (fun s => [(0, .slice (some ⟨p, 0, none⟩) d.size cap), (6, .int .i64 (s.1 : Int)), (7, .int .i64 (s.2.1 : Int))])
    (fun s => ⟨ro, (p, .cells (vals s.2.2 ++ sp).toArray 3 (0, 0)) :: tail⟩) (fun s => s.2.1 - s.1) (a, b - 1, d) ⟨rfl, by show b - 1 < d.size; omega, by show a ≤ d.size; omega, rfl⟩ rfl ⟨rfl, rfl, congrArg (fun z => some (Value.int .i64 z)) (by show (b : Int) - 1 = ((b - 1 : Nat) : Int); omega), trivial⟩ fun s hs hnext => ?_
  obtain ⟨i, j, d1⟩ := s
  obtain ⟨h1, h2, h4, h3⟩ := hs
  simp only at h1 h2 h3 h4 hnext ⊢
  refine Xs C <| Xr C rfl rfl <| Rm C rfl rfl <| Rm C rfl rfl <| R.int C rfl rfl rfl rfl b_lss <| R.done C <| X.cond C.1 rfl (fun hlt => ?_) (fun hlt => ?_)
  · have hlt := hlt
    simp only [decide_eq_true_eq] at hlt
    rw [rev_go (by omega)] at h3
    refine X.skip C.1 <| X.block C.1 <| Xs C <| Xd C fun hok => Dm C 0 hok rfl rfl rfl <| Dm C 1 hok rfl rfl rfl <| Dm C 2 hok rfl rfl rfl <| Dm C 3 hok rfl rfl rfl <| Dm C 4 hok rfl rfl rfl <| Dm C 5 hok rfl rfl rfl <| Dx C 6 hok rfl rfl rfl runUnderlying28 sizeOf3 <| D1 C 7 hok rfl rfl isAgg3 (by repeat (first | exact Mh | apply Mt)) (vals_at (k := j) (by omega) (by omega)) <| Dm C 8 hok rfl rfl rfl <| Dm C 9 hok rfl rfl rfl <| Dx C 10 hok rfl rfl rfl runUnderlying28 sizeOf3 <| D1 C 11 hok rfl rfl isAgg3 (by repeat (first | exact Mh | apply Mt)) (vals_at (k := i) (by omega) (by omega)) <| Dx C 12 hok rfl rfl rfl runUnderlying28 sizeOf3 <| De 13 none [false, false] hok (fun σr rest A hk => ?_)
    refine R.store C rfl (A.w rfl rfl) (A.x rfl rfl) (A.x rfl rfl) sizeOf3 rfl rfl rfl (by repeat (first | exact Uh | apply Ut)) (vals_put (k := i) (by omega) (by omega)) (hk undef _ ⟨QFs.nil, ?_⟩)
    refine Dx C 14 hok rfl rfl rfl runUnderlying28 sizeOf3 <| De 15 none [] hok (fun σr rest A hk => ?_)
    refine R.store C rfl (A.w rfl rfl) (A.x rfl rfl) (A.x rfl rfl) sizeOf3 rfl rfl rfl (by repeat (first | exact Uh | apply Ut)) (vals_put (k := j) (by omega) (by simp; omega)) (hk undef _ ⟨QFs.nil, ?_⟩)
    refine D.done C hok (by kernel_rfl) <| Xr C rfl rfl <| Rm C rfl rfl <| R.int C rfl rfl rfl rfl (b_add (by omega) (by omega)) <| Ad C rfl rfl <| X.region C rfl rfl <| Rm C rfl rfl <| R.int C rfl rfl rfl rfl (b_sub (by omega) (by omega)) <| Ad C rfl rfl <| X.inBlock C.1 <| X.weaken ?_ (hnext (i + 1, j - 1, swp d1 i j) ⟨by simpa [swp] using h1, by show j - 1 < d.size; omega, by show i + 1 ≤ d.size; omega, h3⟩ (by simp; omega))
    exact ⟨rfl, by simp [look], congrArg (fun z => some (Value.int .i64 z)) (by show (j : Int) - 1 = ((j - 1 : Nat) : Int); omega), trivial⟩
  · have hlt := hlt
    simp only [decide_eq_false_iff_not] at hlt
    rw [rev_stop (by omega)] at h3
    refine X.exit C.1 rfl <| X.fall C rfl rfl func188 rfl (by exact .nil) ?_
    exact hret _ _ rfl h3
theorem order2_c {p q : Nat} {sp : List Value} {d : Array Int} {n cap a b s : Nat} {ro : RO} (hn : d.size = n) (hn2 : n ≤ 1000000000) (ha : a < n) (hb : b < n) (hs : s ≤ 1000) :
    CallQ J 256 p q sp d s [.slice (some ⟨p, 0, none⟩) n cap, .int .i64 (a : Int), .int .i64 (b : Int), .pointer (some ⟨q, 0, none⟩)] ro (.tuple [.int .i64 ((order2 ltInt d a b s).1 : Int), .int .i64 ((order2 ltInt d a b s).2.1 : Int)].toArray) (order2 ltInt d a b s).2.2 := by
  refine CallQ.intro hJ (by kernel_rfl) fun c cs tail hret => ?_
  let J := J
  refine enter_X (n := 28) func256 rfl rfl (Nl rfl) ?_
  have C : Ctx prog main J (bf 256 .normal) := ⟨hJ, by decide⟩
  refine Xr C rfl rfl <| R.asg C rfl rfl rfl <| Ad C rfl rfl <| Xs C <| Xs C <| Xd C fun hok => Dm C 0 hok rfl rfl rfl <| Dm C 1 hok rfl rfl rfl <| Dx C 2 hok rfl rfl rfl runUnderlying28 sizeOf3 <| D1 C 3 hok rfl rfl isAgg3 (by repeat (first | exact Mh | apply Mt)) (vals_at (k := b) (by omega) (by omega)) <| Dm C 4 hok rfl rfl rfl <| Dm C 5 hok rfl rfl rfl <| Dx C 6 hok rfl rfl rfl runUnderlying28 sizeOf3 <| D1 C 7 hok rfl rfl isAgg3 (by repeat (first | exact Mh | apply Mt)) (vals_at (k := a) (by omega) (by omega)) <| De 8 (some 18) [false, false] hok (fun σr rest A hk => ?_)
  refine R.callP C rfl (A.w rfl rfl) (A.x rfl rfl) (A.s rfl rfl) (less_c hJ _ _ _) (hk _ _ ⟨QFs.nil, ?_⟩)
  refine D.done C hok (by kernel_rfl) <| X.cond C.1 rfl (fun hl => ?_) (fun hl => ?_)
  · have hl := hl
    have e : order2 ltInt d a b s = (b, a, s + 1) := by rw [order2, if_pos hl]
    rw [e] at hret
    refine Xr C rfl rfl <| Rm C rfl rfl <| R.nilCheck C rfl rfl rfl <| R.loadOne C rfl rfl rfl isAgg3 (by repeat (first | exact Mh | apply Mt)) rfl <| R.int C rfl rfl rfl rfl (b_add (by omega) (by omega)) <| R.nilCheck C rfl rfl rfl <| R.store C rfl rfl rfl rfl sizeOf3 rfl rfl rfl (by repeat (first | exact Uh | apply Ut)) (.here .nil) <| R.done C <| Xr C rfl rfl <| Rm C rfl rfl <| Rm C rfl rfl <| R.asg C rfl rfl rfl <| Ad C rfl rfl <| X.ret C rfl rfl func256 rfl (by exact .tmp rfl (.tmp rfl .nil)) ?_
    exact hret _ (s + 1) rfl rfl
  · have hl := hl
    have e : order2 ltInt d a b s = (a, b, s) := by rw [order2, if_neg (by simp [hl])]
    rw [e] at hret
    refine X.skip C.1 <| Xr C rfl rfl <| Rm C rfl rfl <| Rm C rfl rfl <| R.asg C rfl rfl rfl <| Ad C rfl rfl <| X.ret C rfl rfl func256 rfl (by exact .tmp rfl (.tmp rfl .nil)) ?_
    exact hret _ s rfl rfl
omit hJ in
theorem order2_lt {d : Array Int} {a b s n : Nat} (ha : a < n) (hb : b < n) : (order2 ltInt d a b s).1 < n ∧ (order2 ltInt d a b s).2.1 < n := by
  rcases Go.Sort.order2_mem ltInt d a b s with ⟨h1, h2⟩ | ⟨h1, h2⟩ <;> rw [h1, h2] <;> exact ⟨by assumption, by assumption⟩
theorem median_c {p q : Nat} {sp : List Value} {d : Array Int} {n cap a b e s : Nat} {ro : RO} (hn : d.size = n) (hn2 : n ≤ 1000000000) (ha : a < n) (hb : b < n) (he : e < n) (hs : s ≤ 900) :
    CallQ J 235 p q sp d s [.slice (some ⟨p, 0, none⟩) n cap, .int .i64 (a : Int), .int .i64 (b : Int), .int .i64 (e : Int), .pointer (some ⟨q, 0, none⟩)] ro (.int .i64 ((median ltInt d a b e s).1 : Int)) (median ltInt d a b e s).2 := by
  refine CallQ.intro hJ (by kernel_rfl) fun c cs tail hret => ?_
  let J := J
  have hm : median ltInt d a b e s = ((order2 ltInt d (order2 ltInt d a b s).1 (order2 ltInt d (order2 ltInt d a b s).2.1 e (order2 ltInt d a b s).2.2).1 (order2 ltInt d (order2 ltInt d a b s).2.1 e (order2 ltInt d a b s).2.2).2.2).2.1, (order2 ltInt d (order2 ltInt d a b s).1 (order2 ltInt d (order2 ltInt d a b s).2.1 e (order2 ltInt d a b s).2.2).1 (order2 ltInt d (order2 ltInt d a b s).2.1 e (order2 ltInt d a b s).2.2).2.2).2.2) := rfl
  rw [hm] at hret
  have hr1 := order2_lt (d := d) (s := s) ha hb
  have hc1 := Go.Sort.order2_count (lt := ltInt) d a b s
  have k1 := order2_c hJ (p := p) (q := q) (sp := sp) (cap := cap) (ro := ro) hn hn2 ha hb (s := s) (by omega)
  generalize order2 ltInt d a b s = r1 at hret hr1 hc1 k1
  have hr2 := order2_lt (d := d) (s := r1.2.2) hr1.2 he
  have hc2 := Go.Sort.order2_count (lt := ltInt) d r1.2.1 e r1.2.2
  have k2 := order2_c hJ (p := p) (q := q) (sp := sp) (cap := cap) (ro := ro) hn hn2 hr1.2 he (s := r1.2.2) (by omega)
  generalize order2 ltInt d r1.2.1 e r1.2.2 = r2 at hret hr2 hc2 k2
  have hr3 := order2_lt (d := d) (s := r2.2.2) hr1.1 hr2.1
  have k3 := order2_c hJ (p := p) (q := q) (sp := sp) (cap := cap) (ro := ro) hn hn2 hr1.1 hr2.1 (s := r2.2.2) (by omega)
  generalize order2 ltInt d r1.1 r2.1 r2.2.2 = r3 at hret hr3 k3
  refine enter_X (n := 36) func235 rfl rfl (Nl rfl) ?_
  have C : Ctx prog main J (bf 235 .normal) := ⟨hJ, by decide⟩
  refine Xr C rfl rfl <| Ad C rfl rfl <| Xr C rfl rfl <| Rm C rfl rfl <| Rm C rfl rfl <| Rm C rfl rfl <| Rm C rfl rfl <| R.call C rfl rfl rfl rfl rfl k1 fun v1 ro1 pre1 hle1 hp1 => ?_
  obtain ⟨rfl, rfl, rfl⟩ := hp1
  refine Rm C rfl rfl <| R.ext C rfl rfl rfl rfl <| R.ext C rfl rfl rfl rfl <| R.asg C rfl rfl rfl <| Ad C rfl rfl <| Xr C rfl rfl <| Rm C rfl rfl <| Rm C rfl rfl <| Rm C rfl rfl <| Rm C rfl rfl <| R.call C rfl rfl rfl rfl rfl k2 fun v1 ro1 pre1 hle1 hp1 => ?_
  obtain ⟨rfl, rfl, rfl⟩ := hp1
  refine Rm C rfl rfl <| R.ext C rfl rfl rfl rfl <| R.ext C rfl rfl rfl rfl <| R.asg C rfl rfl rfl <| Ad C rfl rfl <| Xr C rfl rfl <| Rm C rfl rfl <| Rm C rfl rfl <| Rm C rfl rfl <| Rm C rfl rfl <| R.call C rfl rfl rfl rfl rfl k3 fun v1 ro1 pre1 hle1 hp1 => ?_
  obtain ⟨rfl, rfl, rfl⟩ := hp1
  refine Rm C rfl rfl <| R.ext C rfl rfl rfl rfl <| R.ext C rfl rfl rfl rfl <| R.asg C rfl rfl rfl <| Ad C rfl rfl <| Xr C rfl rfl <| Rm C rfl rfl <| Ad C rfl rfl <| X.ret C rfl rfl func235 rfl (by exact .tmp rfl .nil) ?_
  exact hret _ _ rfl rfl
theorem medianAdjacent_c {p q : Nat} {sp : List Value} {d : Array Int} {n cap a s : Nat} {ro : RO} (hn : d.size = n) (hn2 : n ≤ 1000000000) (ha : 1 ≤ a) (hb : a + 1 < n) (hs : s ≤ 900) :
    CallQ J 234 p q sp d s [.slice (some ⟨p, 0, none⟩) n cap, .int .i64 (a : Int), .pointer (some ⟨q, 0, none⟩)] ro (.int .i64 ((medianAdjacent ltInt d a s).1 : Int)) (medianAdjacent ltInt d a s).2 := by
  refine CallQ.intro hJ (by kernel_rfl) fun c cs tail hret => ?_
  let J := J
  have k1 := median_c hJ (p := p) (q := q) (sp := sp) (cap := cap) (ro := ro) (d := d) (a := a - 1) (b := a) (e := a + 1) hn hn2 (by omega) (by omega) (by omega) hs
  refine enter_X (n := 15) func234 rfl rfl (Nl rfl) ?_
  have C : Ctx prog main J (bf 234 .normal) := ⟨hJ, by decide⟩
  refine Xr C rfl rfl <| Ad C rfl rfl <| Xr C rfl rfl <| Rm C rfl rfl <| Rm C rfl rfl <| R.int C rfl rfl rfl rfl (b_sub (by omega) (by omega)) <| R.fixv (t := 9) (v' := .int .i64 ((a - 1 : Nat) : Int)) rfl (by (congr 1; omega)) <| Rm C rfl rfl <| Rm C rfl rfl <| R.int C rfl rfl rfl rfl (b_add (by omega) (by omega)) <| R.fixv (t := 12) (v' := .int .i64 ((a + 1 : Nat) : Int)) rfl (by rfl) <| Rm C rfl rfl <| R.call C rfl rfl rfl rfl rfl k1 fun v1 ro1 pre1 hle1 hp1 => ?_
  obtain ⟨rfl, rfl, rfl⟩ := hp1
  refine Ad C rfl rfl <| X.ret C rfl rfl func234 rfl (by exact .tmp rfl .nil) ?_
  exact hret _ _ rfl rfl
omit hJ in
def hintZ : Hint → Int
  | .unknown => 0
  | .increasing => 1
  | .decreasing => 2
theorem choosePivot_c {p : Nat} {sp : List Value} {d : Array Int} {cap a b : Nat} {ro : RO} (hn : d.size ≤ 1000000000) (hab : a < b) (hb : b ≤ d.size) : CallS J 187 p sp d cap [.int .i64 (a : Int), .int .i64 (b : Int)] ro (.tuple [.int .i64 ((choosePivot ltInt d a b).1 : Int), .int .i64 (hintZ (choosePivot ltInt d a b).2)].toArray) d := by
  refine CallS.intro hJ (by kernel_rfl) fun c cs tail hret => ?_
  let J := J
  refine enter_X (n := 57) func187 rfl rfl (Nl rfl) ?_
  have C : Ctx prog main J (bf 187 .normal) := ⟨hJ, by decide⟩
  refine Xr C rfl rfl <| R.asg C rfl rfl rfl <| Ad C rfl rfl <| Xr C rfl rfl <| Rm C rfl rfl <| Rm C rfl rfl <| R.int C rfl rfl rfl rfl (b_sub (by omega) (by omega)) <| Ad C rfl rfl <| Xr C rfl rfl <| R.alloc C rfl rfl zeroValue3 rfl fun p9 => R.done C <| Xr C rfl rfl <| Rm C rfl rfl <| Rm C rfl rfl <| R.int C rfl rfl rfl rfl (b_quoP (by omega) (by omega) (by decide)) <| R.int C rfl rfl rfl rfl (b_mul (by omega) (by omega)) <| R.int C rfl rfl rfl rfl (b_add (by omega) (by omega)) <| R.fixv (t := 20) (v' := .int .i64 ((a + (b - a) / 4 * 1 : Nat) : Int)) rfl (by (congr 1; omega)) <| Ad C rfl rfl <| Xr C rfl rfl <| Rm C rfl rfl <| Rm C rfl rfl <| R.int C rfl rfl rfl rfl (b_quoP (by omega) (by omega) (by decide)) <| R.int C rfl rfl rfl rfl (b_mul (by omega) (by omega)) <| R.int C rfl rfl rfl rfl (b_add (by omega) (by omega)) <| R.fixv (t := 25) (v' := .int .i64 ((a + (b - a) / 4 * 2 : Nat) : Int)) rfl (by (congr 1; omega)) <| Ad C rfl rfl <| Xr C rfl rfl <| Rm C rfl rfl <| Rm C rfl rfl <| R.int C rfl rfl rfl rfl (b_quoP (by omega) (by omega) (by decide)) <| R.int C rfl rfl rfl rfl (b_mul (by omega) (by omega)) <| R.int C rfl rfl rfl rfl (b_add (by omega) (by omega)) <| R.fixv (t := 30) (v' := .int .i64 ((a + (b - a) / 4 * 3 : Nat) : Int)) rfl (by (congr 1; omega)) <| Ad C rfl rfl <| Xs C <| Xr C rfl rfl <| Rm C rfl rfl <| R.int C rfl rfl rfl rfl b_geq <| R.done C ?_; refine X.cond C.1 rfl (fun h8 => ?_) (fun h8 => ?_)
  · have h8 := h8
    simp only [ge_iff_le, decide_eq_true_eq] at h8
    refine Xs C <| Xr C rfl rfl <| Rm C rfl rfl <| R.int C rfl rfl rfl rfl b_geq <| R.done C <| X.cond C.1 rfl (fun h50 => ?_) (fun h50 => ?_)
    · have h50 := h50
      simp only [ge_iff_le, decide_eq_true_eq] at h50
      have ki := fun q => medianAdjacent_c hJ (p := p) (q := q) (sp := sp) (cap := cap) (ro := ro) (d := d) (a := a + (b - a) / 4 * 1) (s := 0) rfl hn (by omega) (by omega) (by omega)
      have mi := Go.Sort.medianAdjacent_mem ltInt d (a + (b - a) / 4 * 1) 0
      have ci := Go.Sort.medianAdjacent_count (lt := ltInt) d (a + (b - a) / 4 * 1) 0
      have hcp0 : choosePivot ltInt d a b = ((median ltInt d (medianAdjacent ltInt d (a + (b - a) / 4 * 1) 0).1 (medianAdjacent ltInt d (a + (b - a) / 4 * 2) (medianAdjacent ltInt d (a + (b - a) / 4 * 1) 0).2).1 (medianAdjacent ltInt d (a + (b - a) / 4 * 3) (medianAdjacent ltInt d (a + (b - a) / 4 * 2) (medianAdjacent ltInt d (a + (b - a) / 4 * 1) 0).2).2).1 (medianAdjacent ltInt d (a + (b - a) / 4 * 3) (medianAdjacent ltInt d (a + (b - a) / 4 * 2) (medianAdjacent ltInt d (a + (b - a) / 4 * 1) 0).2).2).2).1,
          if (median ltInt d (medianAdjacent ltInt d (a + (b - a) / 4 * 1) 0).1 (medianAdjacent ltInt d (a + (b - a) / 4 * 2) (medianAdjacent ltInt d (a + (b - a) / 4 * 1) 0).2).1 (medianAdjacent ltInt d (a + (b - a) / 4 * 3) (medianAdjacent ltInt d (a + (b - a) / 4 * 2) (medianAdjacent ltInt d (a + (b - a) / 4 * 1) 0).2).2).1 (medianAdjacent ltInt d (a + (b - a) / 4 * 3) (medianAdjacent ltInt d (a + (b - a) / 4 * 2) (medianAdjacent ltInt d (a + (b - a) / 4 * 1) 0).2).2).2).2 = 0 then Hint.increasing else if (median ltInt d (medianAdjacent ltInt d (a + (b - a) / 4 * 1) 0).1 (medianAdjacent ltInt d (a + (b - a) / 4 * 2) (medianAdjacent ltInt d (a + (b - a) / 4 * 1) 0).2).1 (medianAdjacent ltInt d (a + (b - a) / 4 * 3) (medianAdjacent ltInt d (a + (b - a) / 4 * 2) (medianAdjacent ltInt d (a + (b - a) / 4 * 1) 0).2).2).1 (medianAdjacent ltInt d (a + (b - a) / 4 * 3) (medianAdjacent ltInt d (a + (b - a) / 4 * 2) (medianAdjacent ltInt d (a + (b - a) / 4 * 1) 0).2).2).2).2 = 12 then .decreasing else .unknown) := by
        unfold choosePivot
        simp only [ge_iff_le, if_pos (show 8 ≤ b - a by omega), if_pos (show 50 ≤ b - a by omega)]
      generalize medianAdjacent ltInt d (a + (b - a) / 4 * 1) 0 = ri at *
      have kj := fun q => medianAdjacent_c hJ (p := p) (q := q) (sp := sp) (cap := cap) (ro := ro) (d := d) (a := a + (b - a) / 4 * 2) (s := ri.2) rfl hn (by omega) (by omega) (by omega)
      have mj := Go.Sort.medianAdjacent_mem ltInt d (a + (b - a) / 4 * 2) ri.2
      have cj := Go.Sort.medianAdjacent_count (lt := ltInt) d (a + (b - a) / 4 * 2) ri.2
      generalize medianAdjacent ltInt d (a + (b - a) / 4 * 2) ri.2 = rj at *
      have kk := fun q => medianAdjacent_c hJ (p := p) (q := q) (sp := sp) (cap := cap) (ro := ro) (d := d) (a := a + (b - a) / 4 * 3) (s := rj.2) rfl hn (by omega) (by omega) (by omega)
      have mk := Go.Sort.medianAdjacent_mem ltInt d (a + (b - a) / 4 * 3) rj.2
      have ck := Go.Sort.medianAdjacent_count (lt := ltInt) d (a + (b - a) / 4 * 3) rj.2
      generalize medianAdjacent ltInt d (a + (b - a) / 4 * 3) rj.2 = rk at *
      have km := fun q => median_c hJ (p := p) (q := q) (sp := sp) (cap := cap) (ro := ro) (d := d) (a := ri.1) (b := rj.1) (e := rk.1) (s := rk.2) rfl hn (by omega) (by omega) (by omega) (by omega)
      generalize median ltInt d ri.1 rj.1 rk.1 rk.2 = rr at *
      have hcp : choosePivot ltInt d a b = (rr.1, if rr.2 = 0 then Hint.increasing else if rr.2 = 12 then .decreasing else .unknown) := hcp0
      refine Xr C rfl rfl <| Rm C rfl rfl <| Rm C rfl rfl <| R.call C rfl rfl rfl rfl rfl (ki p9) fun v1 ro1 pre1 hle1 hp1 => ?_
      obtain ⟨rfl, rfl, rfl⟩ := hp1
      refine Ad C rfl rfl <| Xr C rfl rfl <| Rm C rfl rfl <| Rm C rfl rfl <| R.call C rfl rfl rfl rfl rfl (kj p9) fun v1 ro1 pre1 hle1 hp1 => ?_
      obtain ⟨rfl, rfl, rfl⟩ := hp1
      refine Ad C rfl rfl <| X.region C rfl rfl <| Rm C rfl rfl <| Rm C rfl rfl <| R.call C rfl rfl rfl rfl rfl (kk p9) fun v1 ro1 pre1 hle1 hp1 => ?_
      obtain ⟨rfl, rfl, rfl⟩ := hp1
      refine Ad C rfl rfl <| X.region C rfl rfl <| Rm C rfl rfl <| Rm C rfl rfl <| Rm C rfl rfl <| Rm C rfl rfl <| R.call C rfl rfl rfl rfl rfl (km p9) fun v1 ro1 pre1 hle1 hp1 => ?_
      obtain ⟨rfl, rfl, rfl⟩ := hp1
      refine Ad C rfl rfl <| Xr C rfl rfl <| R.loadOne C rfl rfl rfl isAgg3 (by repeat (first | exact Mh | apply Mt)) rfl <| R.done C <| X.block C.1 <| Xr C rfl rfl <| R.int C rfl rfl rfl rfl b_eql <| Ad C rfl rfl <| X.cond C.1 rfl (fun hz => ?_) (fun hz => ?_)
      · have hz := hz
        have hz' : rr.2 = 0 := by simpa using hz
        rw [hcp, if_pos hz'] at hret
        refine Xr C rfl rfl <| Rm C rfl rfl <| R.asg C rfl rfl rfl <| Ad C rfl rfl <| X.drop C.1 (own' := _ :: tail) (List.sublist_cons_self _ _) <| X.ret C rfl rfl func187 rfl (by exact .tmp rfl (.tmp rfl .nil)) ?_
        exact hret _ _ rfl rfl
      · have hz := hz
        have hz' : ¬ rr.2 = 0 := by simpa using hz
        rw [hcp, if_neg hz'] at hret
        refine Xr C rfl rfl <| R.int C rfl rfl rfl rfl b_eql <| Ad C rfl rfl <| X.cond C.1 rfl (fun hy => ?_) (fun hy => ?_)
        · have hy := hy
          have hy' : rr.2 = 12 := by simp at hy; omega
          rw [if_pos hy'] at hret
          refine Xr C rfl rfl <| Rm C rfl rfl <| R.asg C rfl rfl rfl <| Ad C rfl rfl <| X.drop C.1 (own' := _ :: tail) (List.sublist_cons_self _ _) <| X.ret C rfl rfl func187 rfl (by exact .tmp rfl (.tmp rfl .nil)) ?_
          exact hret _ _ rfl rfl
        · have hy := hy
          have hy' : ¬ rr.2 = 12 := by simp at hy; omega
          rw [if_neg hy'] at hret
          refine Xr C rfl rfl <| Rm C rfl rfl <| R.asg C rfl rfl rfl <| Ad C rfl rfl <| X.drop C.1 (own' := _ :: tail) (List.sublist_cons_self _ _) <| X.ret C rfl rfl func187 rfl (by exact .tmp rfl (.tmp rfl .nil)) ?_
          exact hret _ _ rfl rfl
    · have h50 := h50
      simp only [ge_iff_le, decide_eq_false_iff_not] at h50
      have km := fun q => median_c hJ (p := p) (q := q) (sp := sp) (cap := cap) (ro := ro) (d := d) (a := a + (b - a) / 4 * 1) (b := a + (b - a) / 4 * 2) (e := a + (b - a) / 4 * 3) (s := 0) rfl hn (by omega) (by omega) (by omega) (by omega)
      have hcp0 : choosePivot ltInt d a b = ((median ltInt d (a + (b - a) / 4 * 1) (a + (b - a) / 4 * 2) (a + (b - a) / 4 * 3) 0).1, if (median ltInt d (a + (b - a) / 4 * 1) (a + (b - a) / 4 * 2) (a + (b - a) / 4 * 3) 0).2 = 0 then Hint.increasing else if (median ltInt d (a + (b - a) / 4 * 1) (a + (b - a) / 4 * 2) (a + (b - a) / 4 * 3) 0).2 = 12 then .decreasing else .unknown) := by
        unfold choosePivot
        simp only [ge_iff_le, if_pos (show 8 ≤ b - a by omega), if_neg (show ¬ 50 ≤ b - a by omega)]
      generalize median ltInt d (a + (b - a) / 4 * 1) (a + (b - a) / 4 * 2) (a + (b - a) / 4 * 3) 0 = rr at *
      have hcp := hcp0
      refine X.skip C.1 <| X.region C rfl rfl <| Rm C rfl rfl <| Rm C rfl rfl <| Rm C rfl rfl <| Rm C rfl rfl <| R.call C rfl rfl rfl rfl rfl (km p9) fun v1 ro1 pre1 hle1 hp1 => ?_
      obtain ⟨rfl, rfl, rfl⟩ := hp1
      refine Ad C rfl rfl <| Xr C rfl rfl <| R.loadOne C rfl rfl rfl isAgg3 (by repeat (first | exact Mh | apply Mt)) rfl <| R.done C <| X.block C.1 <| Xr C rfl rfl <| R.int C rfl rfl rfl rfl b_eql <| Ad C rfl rfl <| X.cond C.1 rfl (fun hz => ?_) (fun hz => ?_)
      · have hz := hz
        have hz' : rr.2 = 0 := by simpa using hz
        rw [hcp, if_pos hz'] at hret
        refine Xr C rfl rfl <| Rm C rfl rfl <| R.asg C rfl rfl rfl <| Ad C rfl rfl <| X.drop C.1 (own' := _ :: tail) (List.sublist_cons_self _ _) <| X.ret C rfl rfl func187 rfl (by exact .tmp rfl (.tmp rfl .nil)) ?_
        exact hret _ _ rfl rfl
      · have hz := hz
        have hz' : ¬ rr.2 = 0 := by simpa using hz
        rw [hcp, if_neg hz'] at hret
        refine Xr C rfl rfl <| R.int C rfl rfl rfl rfl b_eql <| Ad C rfl rfl <| X.cond C.1 rfl (fun hy => ?_) (fun hy => ?_)
        · have hy := hy
          have hy' : rr.2 = 12 := by simp at hy; omega
          rw [if_pos hy'] at hret
          refine Xr C rfl rfl <| Rm C rfl rfl <| R.asg C rfl rfl rfl <| Ad C rfl rfl <| X.drop C.1 (own' := _ :: tail) (List.sublist_cons_self _ _) <| X.ret C rfl rfl func187 rfl (by exact .tmp rfl (.tmp rfl .nil)) ?_
          exact hret _ _ rfl rfl
        · have hy := hy
          have hy' : ¬ rr.2 = 12 := by simp at hy; omega
          rw [if_neg hy'] at hret
          refine Xr C rfl rfl <| Rm C rfl rfl <| R.asg C rfl rfl rfl <| Ad C rfl rfl <| X.drop C.1 (own' := _ :: tail) (List.sublist_cons_self _ _) <| X.ret C rfl rfl func187 rfl (by exact .tmp rfl (.tmp rfl .nil)) ?_
          exact hret _ _ rfl rfl
  · have h8 := h8
    simp only [ge_iff_le, decide_eq_false_iff_not] at h8
    have hcp : choosePivot ltInt d a b = (a + (b - a) / 4 * 2, Hint.increasing) := by
      unfold choosePivot
      simp only [ge_iff_le, if_neg (show ¬ 8 ≤ b - a by omega)]
      rfl
    rw [hcp] at hret
    refine X.skip C.1 <| Xr C rfl rfl <| R.loadOne C rfl rfl rfl isAgg3 (by repeat (first | exact Mh | apply Mt)) rfl <| R.done C <| X.block C.1 <| Xr C rfl rfl <| R.int C rfl rfl rfl rfl b_eql <| Ad C rfl rfl <| X.cond C.1 rfl (fun hz => ?_) (fun hz => ?_)
    · have hz := hz
      refine Xr C rfl rfl <| Rm C rfl rfl <| R.asg C rfl rfl rfl <| Ad C rfl rfl <| X.drop C.1 (own' := _ :: tail) (List.sublist_cons_self _ _) <| X.ret C rfl rfl func187 rfl (by exact .tmp rfl (.tmp rfl .nil)) ?_
      exact hret _ _ rfl rfl
    · have hz := hz
      simp at hz
end Go.Lg.B
namespace Go.Lg
open Go Go.Conc
theorem X.loopB {P : Program} {main : Bool} {J : Goroutine → Mem → Prop} {b : Frame} {cs : List Frame} {n : Nat} {ds : List Deferred} {σ : Slots} {M : Mem} {k : List Item} {id : Nat} {ι : Type} {c : Code} (hJ : Closed P main J) (Inv : ι → Prop) (σf : ι → Slots) (Mf : ι → Mem) (μ : ι → Nat) (i₀ : ι) (E : ι → Prop) (h0 : Inv i₀) (hM : M = Mf i₀) (hs : keeps σ (σf i₀))
    (hexit : ∀ i, E i → X J b cs n k ds (σf i) (Mf i))
    (step : ∀ i, Inv i → (∀ j, Inv j → μ j < μ i → X J b cs n (.inLoop c :: .inBlock id :: k) ds (σf j) (Mf j)) → (∀ j, E j → X J b cs n k ds (σf j) (Mf j)) → X J b cs n (.code c :: .inLoop c :: .inBlock id :: k) ds (σf i) (Mf i)) : X J b cs n (.code (.loop c) :: .inBlock id :: k) ds σ M :=
  X.loopI hJ Inv σf Mf μ i₀ h0 hM hs fun i hi hn => step i hi hn hexit
end Go.Lg
namespace Go.Lg.B
open Go Go.Conc Go.Lg Go.Proofs Go.Proofs.Tryz
open Go.Sort (ltInt swp scanUp scanDown partLoop partEqLoop partition partitionEqual)
theorem scanUp_go {p : Int → Bool} {d : Array Int} {i j : Nat} (h : i ≤ j) (hp : p d[i]! = true) : scanUp p d j i = scanUp p d j (i + 1) := by rw [scanUp, if_pos (by simp [h, hp])]
theorem scanUp_stop {p : Int → Bool} {d : Array Int} {i j : Nat} (h : j < i ∨ p d[i]! = false) : scanUp p d j i = i := by
  rw [scanUp, if_neg]
  rcases h with h | h
  · simp; omega
  · simp [h]
theorem scanDown_go {p : Int → Bool} {d : Array Int} {i j : Nat} (h : i ≤ j) (hj : 0 < j) (hp : p d[j]! = true) : scanDown p d i j = scanDown p d i (j - 1) := by
  obtain ⟨j, rfl⟩ : ∃ k, j = k + 1 := ⟨j - 1, by omega⟩
  rw [scanDown, if_pos (by simp [h, hp])]; rfl
theorem scanDown_stop {p : Int → Bool} {d : Array Int} {i j : Nat} (h : j < i ∨ p d[j]! = false) : scanDown p d i j = j := by
  cases j with
  | zero => rfl
  | succ j =>
    rw [scanDown, if_neg]
    rcases h with h | h
    · simp; omega
    · simp [h]
theorem swp_sz {d : Array Int} {i j : Nat} : (swp d i j).size = d.size := by simp [swp]
theorem part_now {d d1 : Array Int} {a b pv i j : Nat} (h1 : d1 = swp d a pv) (hi : i = scanUp (fun x => ltInt x d1[a]!) d1 (b - 1) (a + 1)) (hj : j = scanDown (fun x => !ltInt x d1[a]!) d1 i (b - 1)) (h : j < i) : partition ltInt d a b pv = (j, true, swp d1 j a) := by
  subst h1; subst hi; subst hj
  unfold partition
  simp only
  rw [if_pos h]
theorem part_later {d d1 : Array Int} {a b pv i j : Nat} (h1 : d1 = swp d a pv) (hi : i = scanUp (fun x => ltInt x d1[a]!) d1 (b - 1) (a + 1)) (hj : j = scanDown (fun x => !ltInt x d1[a]!) d1 i (b - 1)) (h : ¬ j < i) : partition ltInt d a b pv = ((partLoop ltInt a (i + 1) (j - 1) (swp d1 i j)).1, false, swp (partLoop ltInt a (i + 1) (j - 1) (swp d1 i j)).2 (partLoop ltInt a (i + 1) (j - 1) (swp d1 i j)).1 a) := by
  subst h1; subst hi; subst hj
  unfold partition
  simp only
  rw [if_neg h]
theorem scan_ne {p q : Int → Bool} (hq : ∀ x, q x = !p x) {d : Array Int} {i0 j0 i j : Nat} (hi : i = scanUp p d j0 i0) (hj : j = scanDown q d i j0) (h : i ≤ j) (h0 : 0 < j) : i < j := by
  refine Nat.lt_of_le_of_ne h fun e => ?_
  have h1 := (Go.Sort.scanUp_spec p d j0 _ i0 rfl).2.2.2
  have h2 := Go.Sort.scanDown_spec q d i j0
  rw [← hi] at h1
  rw [← hj] at h2
  have h3 := h1 (by omega)
  have h4 := h2.2.2.2 h h0
  rw [hq, ← e, h3] at h4
  cases h4
variable {main : Bool} {J : Goroutine → Mem → Prop} (hJ : Closed prog main J)
include hJ
theorem partition_c {p : Nat} {sp : List Value} {d : Array Int} {cap a b pv : Nat} {ro : RO} (hn : d.size ≤ 1000000000) (hp1 : a ≤ pv) (hp2 : pv < b) (hb : b ≤ d.size) : CallS J 192 p sp d cap [.int .i64 (a : Int), .int .i64 (b : Int), .int .i64 (pv : Int)] ro (.tuple [.int .i64 ((partition ltInt d a b pv).1 : Int), .bool (partition ltInt d a b pv).2.1].toArray) (partition ltInt d a b pv).2.2 := by
  refine CallS.intro hJ (by kernel_rfl) fun c cs tail hret => ?_
  let J := J
  refine enter_X (n := 168) func192 rfl rfl (Nl rfl) ?_
  have C : Ctx prog main J (bf 192 .normal) := ⟨hJ, by decide⟩
  refine Xr C rfl rfl <| R.asg C rfl rfl rfl <| Ad C rfl rfl <| Xs C <| Xd C fun hok => Dm C 0 hok rfl rfl rfl <| Dm C 1 hok rfl rfl rfl <| Dm C 2 hok rfl rfl rfl <| Dm C 3 hok rfl rfl rfl <| Dm C 4 hok rfl rfl rfl <| Dm C 5 hok rfl rfl rfl <| Dx C 6 hok rfl rfl rfl runUnderlying28 sizeOf3 <| D1 C 7 hok rfl rfl isAgg3 (by repeat (first | exact Mh | apply Mt)) (vals_at (k := pv) (by omega) (by omega)) <| Dm C 8 hok rfl rfl rfl <| Dm C 9 hok rfl rfl rfl <| Dx C 10 hok rfl rfl rfl runUnderlying28 sizeOf3 <| D1 C 11 hok rfl rfl isAgg3 (by repeat (first | exact Mh | apply Mt)) (vals_at (k := a) (by omega) (by omega)) <| Dx C 12 hok rfl rfl rfl runUnderlying28 sizeOf3 <| De 13 none [false, false] hok (fun σr rest A hk => ?_)
  refine R.store C rfl (A.w rfl rfl) (A.x rfl rfl) (A.x rfl rfl) sizeOf3 rfl rfl rfl (by repeat (first | exact Uh | apply Ut)) (vals_put (k := a) (by omega) (by omega)) (hk undef _ ⟨QFs.nil, ?_⟩)
  refine Dx C 14 hok rfl rfl rfl runUnderlying28 sizeOf3 <| De 15 none [] hok (fun σr rest A hk => ?_)
  refine R.store C rfl (A.w rfl rfl) (A.x rfl rfl) (A.x rfl rfl) sizeOf3 rfl rfl rfl (by repeat (first | exact Uh | apply Ut)) (vals_put (k := pv) (by omega) (by simp; omega)) (hk undef _ ⟨QFs.nil, ?_⟩)
  refine D.done C hok (by kernel_rfl) <| Xr C rfl rfl ?_
  obtain ⟨d1, hd1e⟩ : ∃ d1, d1 = swp d a pv := ⟨_, rfl⟩
  have hd1 : d1.size = d.size := by rw [hd1e, swp_sz]
  have hd1v : (d.setIfInBounds a d[pv]!).setIfInBounds pv d[a]! = d1 := hd1e.symm
  rw [hd1v]
  refine Rm C rfl rfl <| R.int C rfl rfl rfl rfl (b_add (by omega) (by omega)) <| R.fixv (t := 27) (v' := .int .i64 ((a + 1 : Nat) : Int)) rfl (by rfl) <| Rm C rfl rfl <| R.int C rfl rfl rfl rfl (b_sub (by omega) (by omega)) <| R.fixv (t := 29) (v' := .int .i64 ((b - 1 : Nat) : Int)) rfl (by (congr 1; omega)) <| R.asg C rfl rfl rfl <| Ad C rfl rfl <| Xs C <| X.block C.1 <| X.loopB (ι := Nat) C.1 (fun i => a < i ∧ i ≤ (b - 1) + 1 ∧ (a + 1) ≤ i ∧ scanUp (fun x => ltInt x d1[a]!) d1 (b - 1) i = scanUp (fun x => ltInt x d1[a]!) d1 (b - 1) (a + 1)) (fun i => [(0, .slice (some ⟨p, 0, none⟩) d.size cap), (1, .int .i64 (a : Int)), (10, .int .i64 ((i : Nat) : Int)), (11, .int .i64 (((b - 1) : Nat) : Int))])
    (fun _ => ⟨ro, (p, .cells (vals d1 ++ sp).toArray 3 (0, 0)) :: tail⟩) (fun i => (b - 1) + 1 - i) ((a + 1)) (fun i => a < i ∧ i ≤ (b - 1) + 1 ∧ (a + 1) ≤ i ∧ i = scanUp (fun x => ltInt x d1[a]!) d1 (b - 1) (a + 1)) ⟨by omega, by omega, by omega, rfl⟩ rfl ⟨rfl, rfl, rfl, rfl, trivial⟩ (fun i1 hi1 => ?_) fun i1 hi1 hnx hex => ?_
  · obtain ⟨i1a, i1b, i1c, i1d⟩ := hi1
    refine Xs C <| X.block C.1 <| X.loopB (ι := Nat) C.1 (fun j => j < b ∧ i1 ≤ j + 1 ∧ j ≤ (b - 1) ∧ scanDown (fun x => !ltInt x d1[a]!) d1 i1 j = scanDown (fun x => !ltInt x d1[a]!) d1 i1 (b - 1)) (fun j => [(0, .slice (some ⟨p, 0, none⟩) d.size cap), (1, .int .i64 (a : Int)), (10, .int .i64 ((i1 : Nat) : Int)), (11, .int .i64 ((j : Nat) : Int))])
      (fun _ => ⟨ro, (p, .cells (vals d1 ++ sp).toArray 3 (0, 0)) :: tail⟩) (fun j => j) ((b - 1)) (fun j => j < b ∧ i1 ≤ j + 1 ∧ j ≤ (b - 1) ∧ j = scanDown (fun x => !ltInt x d1[a]!) d1 i1 (b - 1)) ⟨by omega, by omega, by omega, rfl⟩ rfl ⟨rfl, rfl, rfl, rfl, trivial⟩ (fun j2 hj2 => ?_) fun j2 hj2 hnx hex => ?_
    · obtain ⟨j2a, j2b, j2c, j2d⟩ := hj2
      refine Xs C <| Xr C rfl rfl <| Rm C rfl rfl <| Rm C rfl rfl <| R.int C rfl rfl rfl rfl b_gtr <| R.done C <| X.cond C.1 rfl (fun hgt => ?_) (fun hgt => ?_)
      · have hgt := hgt
        simp only [decide_eq_true_eq] at hgt
        rw [part_now hd1e i1d j2d (by omega)] at hret
        refine Xs C <| Xd C fun hok => Dm C 0 hok rfl rfl rfl <| Dm C 1 hok rfl rfl rfl <| Dm C 2 hok rfl rfl rfl <| Dm C 3 hok rfl rfl rfl <| Dm C 4 hok rfl rfl rfl <| Dm C 5 hok rfl rfl rfl <| Dx C 6 hok rfl rfl rfl runUnderlying28 sizeOf3 <| D1 C 7 hok rfl rfl isAgg3 (by repeat (first | exact Mh | apply Mt)) (vals_at (k := a) (by omega) (by omega)) <| Dm C 8 hok rfl rfl rfl <| Dm C 9 hok rfl rfl rfl <| Dx C 10 hok rfl rfl rfl runUnderlying28 sizeOf3 <| D1 C 11 hok rfl rfl isAgg3 (by repeat (first | exact Mh | apply Mt)) (vals_at (k := j2) (by omega) (by omega)) <| Dx C 12 hok rfl rfl rfl runUnderlying28 sizeOf3 <| De 13 none [false, false] hok (fun σr rest A hk => ?_)
        refine R.store C rfl (A.w rfl rfl) (A.x rfl rfl) (A.x rfl rfl) sizeOf3 rfl rfl rfl (by repeat (first | exact Uh | apply Ut)) (vals_put (k := j2) (by omega) (by omega)) (hk undef _ ⟨QFs.nil, ?_⟩)
        refine Dx C 14 hok rfl rfl rfl runUnderlying28 sizeOf3 <| De 15 none [] hok (fun σr rest A hk => ?_)
        refine R.store C rfl (A.w rfl rfl) (A.x rfl rfl) (A.x rfl rfl) sizeOf3 rfl rfl rfl (by repeat (first | exact Uh | apply Ut)) (vals_put (k := a) (by omega) (by simp; omega)) (hk undef _ ⟨QFs.nil, ?_⟩)
        refine D.done C hok (by kernel_rfl) <| Xr C rfl rfl <| Rm C rfl rfl <| R.asg C rfl rfl rfl <| Ad C rfl rfl <| X.ret C rfl rfl func192 rfl (by exact .tmp rfl (.tmp rfl .nil)) ?_
        exact hret _ _ rfl rfl
      · have hgt := hgt
        simp only [decide_eq_false_iff_not] at hgt
        have hne := scan_ne (fun _ => rfl) i1d j2d (by omega) (by omega)
        rw [part_later hd1e i1d j2d (by omega)] at hret
        refine X.skip C.1 <| Xs C <| Xd C fun hok => Dm C 0 hok rfl rfl rfl <| Dm C 1 hok rfl rfl rfl <| Dm C 2 hok rfl rfl rfl <| Dm C 3 hok rfl rfl rfl <| Dm C 4 hok rfl rfl rfl <| Dm C 5 hok rfl rfl rfl <| Dx C 6 hok rfl rfl rfl runUnderlying28 sizeOf3 <| D1 C 7 hok rfl rfl isAgg3 (by repeat (first | exact Mh | apply Mt)) (vals_at (k := j2) (by omega) (by omega)) <| Dm C 8 hok rfl rfl rfl <| Dm C 9 hok rfl rfl rfl <| Dx C 10 hok rfl rfl rfl runUnderlying28 sizeOf3 <| D1 C 11 hok rfl rfl isAgg3 (by repeat (first | exact Mh | apply Mt)) (vals_at (k := i1) (by omega) (by omega)) <| Dx C 12 hok rfl rfl rfl runUnderlying28 sizeOf3 <| De 13 none [false, false] hok (fun σr rest A hk => ?_)
        refine R.store C rfl (A.w rfl rfl) (A.x rfl rfl) (A.x rfl rfl) sizeOf3 rfl rfl rfl (by repeat (first | exact Uh | apply Ut)) (vals_put (k := i1) (by omega) (by omega)) (hk undef _ ⟨QFs.nil, ?_⟩)
        refine Dx C 14 hok rfl rfl rfl runUnderlying28 sizeOf3 <| De 15 none [] hok (fun σr rest A hk => ?_)
        refine R.store C rfl (A.w rfl rfl) (A.x rfl rfl) (A.x rfl rfl) sizeOf3 rfl rfl rfl (by repeat (first | exact Uh | apply Ut)) (vals_put (k := j2) (by omega) (by simp; omega)) (hk undef _ ⟨QFs.nil, ?_⟩)
        refine D.done C hok (by kernel_rfl) <| Xr C rfl rfl <| Rm C rfl rfl <| R.int C rfl rfl rfl rfl (b_add (by omega) (by omega)) <| R.fixv (t := 96) (v' := .int .i64 ((i1 + 1 : Nat) : Int)) rfl (by rfl) <| Ad C rfl rfl <| Xr C rfl rfl <| Rm C rfl rfl <| R.int C rfl rfl rfl rfl (b_sub (by omega) (by omega)) <| R.fixv (t := 98) (v' := .int .i64 ((j2 - 1 : Nat) : Int)) rfl (by (congr 1; omega)) <| Ad C rfl rfl <| Xs C <| X.block C.1 <| X.loopB (ι := Nat × Nat × Array Int) C.1 (fun s => a < s.1 ∧ s.1 ≤ s.2.1 + 1 ∧ s.2.1 < b ∧ s.2.2.size = d.size ∧ partLoop ltInt a s.1 s.2.1 s.2.2 = partLoop ltInt a (i1 + 1) (j2 - 1) (swp d1 i1 j2)) (fun s => [(0, .slice (some ⟨p, 0, none⟩) d.size cap), (1, .int .i64 (a : Int)), (10, .int .i64 ((s.1 : Nat) : Int)), (11, .int .i64 ((s.2.1 : Nat) : Int))])
          (fun s => ⟨ro, (p, .cells (vals s.2.2 ++ sp).toArray 3 (0, 0)) :: tail⟩) (fun s => s.2.1 + 1 - s.1) (i1 + 1, j2 - 1, swp d1 i1 j2) (fun s => s.2.1 < b ∧ s.2.2.size = d.size ∧ a ≤ s.2.1 ∧ partLoop ltInt a (i1 + 1) (j2 - 1) (swp d1 i1 j2) = (s.2.1, s.2.2)) ⟨by show a < i1 + 1; omega, by show i1 + 1 ≤ j2 - 1 + 1; omega, by show j2 - 1 < b; omega, by rw [swp_sz]; exact hd1, rfl⟩ rfl ⟨rfl, rfl, rfl, rfl, trivial⟩ (fun s hs => ?_) fun s hs hnxM hexM => ?_
        · obtain ⟨i3, j3, d2⟩ := s
          obtain ⟨h1, h2, h4, h3⟩ := hs
          simp only at h1 h2 h3 h4 ⊢
          rw [h3] at hret
          refine Xs C <| Xd C fun hok => Dm C 0 hok rfl rfl rfl <| Dm C 1 hok rfl rfl rfl <| Dm C 2 hok rfl rfl rfl <| Dm C 3 hok rfl rfl rfl <| Dm C 4 hok rfl rfl rfl <| Dm C 5 hok rfl rfl rfl <| Dx C 6 hok rfl rfl rfl runUnderlying28 sizeOf3 <| D1 C 7 hok rfl rfl isAgg3 (by repeat (first | exact Mh | apply Mt)) (vals_at (k := a) (by omega) (by omega)) <| Dm C 8 hok rfl rfl rfl <| Dm C 9 hok rfl rfl rfl <| Dx C 10 hok rfl rfl rfl runUnderlying28 sizeOf3 <| D1 C 11 hok rfl rfl isAgg3 (by repeat (first | exact Mh | apply Mt)) (vals_at (k := j3) (by omega) (by omega)) <| Dx C 12 hok rfl rfl rfl runUnderlying28 sizeOf3 <| De 13 none [false, false] hok (fun σr rest A hk => ?_)
          refine R.store C rfl (A.w rfl rfl) (A.x rfl rfl) (A.x rfl rfl) sizeOf3 rfl rfl rfl (by repeat (first | exact Uh | apply Ut)) (vals_put (k := j3) (by omega) (by omega)) (hk undef _ ⟨QFs.nil, ?_⟩)
          refine Dx C 14 hok rfl rfl rfl runUnderlying28 sizeOf3 <| De 15 none [] hok (fun σr rest A hk => ?_)
          refine R.store C rfl (A.w rfl rfl) (A.x rfl rfl) (A.x rfl rfl) sizeOf3 rfl rfl rfl (by repeat (first | exact Uh | apply Ut)) (vals_put (k := a) (by omega) (by simp; omega)) (hk undef _ ⟨QFs.nil, ?_⟩)
          refine D.done C hok (by kernel_rfl) <| Xr C rfl rfl <| Rm C rfl rfl <| R.asg C rfl rfl rfl <| Ad C rfl rfl <| X.ret C rfl rfl func192 rfl (by exact .tmp rfl (.tmp rfl .nil)) ?_
          exact hret _ _ rfl rfl
        · obtain ⟨i3, j3, d2⟩ := s
          obtain ⟨h1, h3, h4, h2, h5⟩ := hs
          simp only at h1 h2 h3 h4 h5 hnxM hexM ⊢
          refine X.block C.1 <| Xs C <| X.block C.1 <| X.loopB (ι := Nat) C.1 (fun i => a < i ∧ i ≤ j3 + 1 ∧ i3 ≤ i ∧ scanUp (fun x => ltInt x d2[a]!) d2 j3 i = scanUp (fun x => ltInt x d2[a]!) d2 j3 i3) (fun i => [(0, .slice (some ⟨p, 0, none⟩) d.size cap), (1, .int .i64 (a : Int)), (10, .int .i64 ((i : Nat) : Int)), (11, .int .i64 ((j3 : Nat) : Int))])
            (fun _ => ⟨ro, (p, .cells (vals d2 ++ sp).toArray 3 (0, 0)) :: tail⟩) (fun i => j3 + 1 - i) (i3) (fun i => a < i ∧ i ≤ j3 + 1 ∧ i3 ≤ i ∧ i = scanUp (fun x => ltInt x d2[a]!) d2 j3 i3) ⟨by omega, by omega, by omega, rfl⟩ rfl ⟨rfl, rfl, rfl, rfl, trivial⟩ (fun i4 hi4 => ?_) fun i4 hi4 hnx hex => ?_
          · obtain ⟨i4a, i4b, i4c, i4d⟩ := hi4
            refine Xs C <| X.block C.1 <| X.loopB (ι := Nat) C.1 (fun j => j < b ∧ i4 ≤ j + 1 ∧ j ≤ j3 ∧ scanDown (fun x => !ltInt x d2[a]!) d2 i4 j = scanDown (fun x => !ltInt x d2[a]!) d2 i4 j3) (fun j => [(0, .slice (some ⟨p, 0, none⟩) d.size cap), (1, .int .i64 (a : Int)), (10, .int .i64 ((i4 : Nat) : Int)), (11, .int .i64 ((j : Nat) : Int))])
              (fun _ => ⟨ro, (p, .cells (vals d2 ++ sp).toArray 3 (0, 0)) :: tail⟩) (fun j => j) (j3) (fun j => j < b ∧ i4 ≤ j + 1 ∧ j ≤ j3 ∧ j = scanDown (fun x => !ltInt x d2[a]!) d2 i4 j3) ⟨by omega, by omega, by omega, rfl⟩ rfl ⟨rfl, rfl, rfl, rfl, trivial⟩ (fun j5 hj5 => ?_) fun j5 hj5 hnx hex => ?_
            · obtain ⟨j5a, j5b, j5c, j5d⟩ := hj5
              refine Xs C <| Xr C rfl rfl <| Rm C rfl rfl <| Rm C rfl rfl <| R.int C rfl rfl rfl rfl b_gtr <| R.done C <| X.cond C.1 rfl (fun hgt => ?_) (fun hgt => ?_)
              · have hgt := hgt
                simp only [decide_eq_true_eq] at hgt
                refine X.exit C.1 rfl <| X.weaken ?_ (hexM (i4, j5, d2) ⟨by show j5 < b; omega, h2, by show a ≤ j5; omega, by rw [← h5, Go.Sort.partLoop_eq, ← i4d, ← j5d, if_pos (by omega)]⟩)
                exact ⟨rfl, rfl, rfl, rfl, trivial⟩
              · have hgt := hgt
                simp only [decide_eq_false_iff_not] at hgt
                have hne := scan_ne (fun _ => rfl) i4d j5d (by omega) (by omega)
                refine X.skip C.1 <| Xs C <| Xd C fun hok => Dm C 0 hok rfl rfl rfl <| Dm C 1 hok rfl rfl rfl <| Dm C 2 hok rfl rfl rfl <| Dm C 3 hok rfl rfl rfl <| Dm C 4 hok rfl rfl rfl <| Dm C 5 hok rfl rfl rfl <| Dx C 6 hok rfl rfl rfl runUnderlying28 sizeOf3 <| D1 C 7 hok rfl rfl isAgg3 (by repeat (first | exact Mh | apply Mt)) (vals_at (k := j5) (by omega) (by omega)) <| Dm C 8 hok rfl rfl rfl <| Dm C 9 hok rfl rfl rfl <| Dx C 10 hok rfl rfl rfl runUnderlying28 sizeOf3 <| D1 C 11 hok rfl rfl isAgg3 (by repeat (first | exact Mh | apply Mt)) (vals_at (k := i4) (by omega) (by omega)) <| Dx C 12 hok rfl rfl rfl runUnderlying28 sizeOf3 <| De 13 none [false, false] hok (fun σr rest A hk => ?_)
                refine R.store C rfl (A.w rfl rfl) (A.x rfl rfl) (A.x rfl rfl) sizeOf3 rfl rfl rfl (by repeat (first | exact Uh | apply Ut)) (vals_put (k := i4) (by omega) (by omega)) (hk undef _ ⟨QFs.nil, ?_⟩)
                refine Dx C 14 hok rfl rfl rfl runUnderlying28 sizeOf3 <| De 15 none [] hok (fun σr rest A hk => ?_)
                refine R.store C rfl (A.w rfl rfl) (A.x rfl rfl) (A.x rfl rfl) sizeOf3 rfl rfl rfl (by repeat (first | exact Uh | apply Ut)) (vals_put (k := j5) (by omega) (by simp; omega)) (hk undef _ ⟨QFs.nil, ?_⟩)
                refine D.done C hok (by kernel_rfl) <| Xr C rfl rfl <| Rm C rfl rfl <| R.int C rfl rfl rfl rfl (b_add (by omega) (by omega)) <| Ad C rfl rfl <| X.region C rfl rfl <| Rm C rfl rfl <| R.int C rfl rfl rfl rfl (b_sub (by omega) (by omega)) <| Ad C rfl rfl <| X.inBlock C.1 <| X.weaken ?_ (hnxM (i4 + 1, j5 - 1, swp d2 i4 j5) ⟨by show a < i4 + 1; omega, by show i4 + 1 ≤ j5 - 1 + 1; omega, by show j5 - 1 < b; omega, by rw [swp_sz]; exact h2, by rw [← h5, Go.Sort.partLoop_eq (d := d2), ← i4d, ← j5d, if_neg (by omega)]⟩ (by show j5 - 1 + 1 - (i4 + 1) < j3 + 1 - i3; omega))
                exact ⟨rfl, rfl, by simp [look], congrArg (fun z => some (Value.int .i64 z)) (by show (j5 : Int) - 1 = ((j5 - 1 : Nat) : Int); omega), trivial⟩
            · obtain ⟨j5a, j5b, j5c, j5d⟩ := hj5
              refine Xs C <| Xs C <| Xd C fun hok => Dm C 0 hok rfl rfl rfl <| Dm C 1 hok rfl rfl rfl <| Di C 2 hok rfl rfl rfl rfl rfl b_leq <| Dm C 3 hok rfl rfl rfl <| D.fix (t := 118) rfl (fun hg => ?_) (fun hg => ?_)
              · have hg := hg
                simp only [decide_eq_true_eq] at hg
                refine Dm C 4 hok rfl rfl rfl <| Dm C 5 hok rfl rfl rfl <| Dx C 6 hok rfl rfl rfl runUnderlying28 sizeOf3 <| D1 C 7 hok rfl rfl isAgg3 (by repeat (first | exact Mh | apply Mt)) (vals_at (k := j5) (by omega) (by omega)) <| Dm C 8 hok rfl rfl rfl <| Dm C 9 hok rfl rfl rfl <| Dx C 10 hok rfl rfl rfl runUnderlying28 sizeOf3 <| D1 C 11 hok rfl rfl isAgg3 (by repeat (first | exact Mh | apply Mt)) (vals_at (k := a) (by omega) (by omega)) <| De 12 (some 127) [false, false] hok (fun σr rest A hk => ?_)
                refine R.callP C rfl (A.w rfl rfl) (A.x rfl rfl) (A.s rfl rfl) (less_c hJ _ _ _) (hk _ _ ⟨QFs.nil, ?_⟩)
                refine Dp 13 hok (fun _ _ _ A h => R.not C rfl (A.w rfl rfl) (A.x rfl rfl) h) <| Dp 14 hok (fun _ _ _ A h => R.pickT C rfl (A.w rfl rfl) (A.x rfl rfl) (A.x rfl rfl) h) <| D.done C hok (by kernel_rfl) <| X.cond C.1 rfl (fun hl => ?_) (fun hl => ?_)
                · have hl := hl
                  refine X.skip C.1 <| X.block C.1 <| X.region C rfl rfl <| Rm C rfl rfl <| R.int C rfl rfl rfl rfl (b_sub (by omega) (by omega)) <| Ad C rfl rfl <| X.inBlock C.1 <| X.weaken ?_ (hnx (j5 - 1) ⟨by omega, by omega, by omega, ?_⟩ (by omega))
                  · exact ⟨rfl, rfl, rfl, congrArg (fun z => some (Value.int .i64 z)) (by omega), trivial⟩
                  · exact (scanDown_go (p := (fun x => !ltInt x d2[a]!)) (by omega) (by omega) hl).symm.trans j5d
                · have hl := hl
                  refine X.exit C.1 rfl <| X.weaken ?_ (hex j5 ⟨by omega, by omega, by omega, (scanDown_stop (p := (fun x => !ltInt x d2[a]!)) (.inr hl)).symm.trans j5d⟩)
                  exact ⟨rfl, rfl, rfl, rfl, trivial⟩
              · have hg := hg
                simp only [decide_eq_false_iff_not] at hg
                refine Du C 4 hok rfl <| Du C 5 hok rfl <| Du C 6 hok rfl <| Du C 7 hok rfl <| Du C 8 hok rfl <| Du C 9 hok rfl <| Du C 10 hok rfl <| Du C 11 hok rfl <| Du C 12 hok rfl <| Du C 13 hok rfl <| Dp 14 hok (fun _ _ _ A h => R.pickF C rfl (A.w rfl rfl) (A.x rfl rfl) (A.x rfl rfl) h) <| D.done C hok (by kernel_rfl) <| X.cond C.1 rfl (fun h => nomatch h) (fun _ => ?_)
                refine X.exit C.1 rfl <| X.weaken ?_ (hex j5 ⟨by omega, by omega, by omega, (scanDown_stop (p := (fun x => !ltInt x d2[a]!)) (.inl (by omega))).symm.trans j5d⟩)
                exact ⟨rfl, rfl, rfl, rfl, trivial⟩
          · obtain ⟨i4a, i4b, i4c, i4d⟩ := hi4
            refine Xs C <| Xs C <| Xd C fun hok => Dm C 0 hok rfl rfl rfl <| Dm C 1 hok rfl rfl rfl <| Di C 2 hok rfl rfl rfl rfl rfl b_leq <| Dm C 3 hok rfl rfl rfl <| D.fix (t := 102) rfl (fun hg => ?_) (fun hg => ?_)
            · have hg := hg
              simp only [decide_eq_true_eq] at hg
              refine Dm C 4 hok rfl rfl rfl <| Dm C 5 hok rfl rfl rfl <| Dx C 6 hok rfl rfl rfl runUnderlying28 sizeOf3 <| D1 C 7 hok rfl rfl isAgg3 (by repeat (first | exact Mh | apply Mt)) (vals_at (k := i4) (by omega) (by omega)) <| Dm C 8 hok rfl rfl rfl <| Dm C 9 hok rfl rfl rfl <| Dx C 10 hok rfl rfl rfl runUnderlying28 sizeOf3 <| D1 C 11 hok rfl rfl isAgg3 (by repeat (first | exact Mh | apply Mt)) (vals_at (k := a) (by omega) (by omega)) <| De 12 (some 111) [false, false] hok (fun σr rest A hk => ?_)
              refine R.callP C rfl (A.w rfl rfl) (A.x rfl rfl) (A.s rfl rfl) (less_c hJ _ _ _) (hk _ _ ⟨QFs.nil, ?_⟩)
              refine Dp 13 hok (fun _ _ _ A h => R.pickT C rfl (A.w rfl rfl) (A.x rfl rfl) (A.x rfl rfl) h) <| D.done C hok (by kernel_rfl) <| X.cond C.1 rfl (fun hl => ?_) (fun hl => ?_)
              · have hl := hl
                refine X.skip C.1 <| X.block C.1 <| X.region C rfl rfl <| Rm C rfl rfl <| R.int C rfl rfl rfl rfl (b_add (by omega) (by omega)) <| Ad C rfl rfl <| X.inBlock C.1 <| X.weaken ?_ (hnx (i4 + 1) ⟨by omega, by omega, by omega, ?_⟩ (by omega))
                · exact ⟨rfl, rfl, by simp [look], rfl, trivial⟩
                · exact (scanUp_go (p := (fun x => ltInt x d2[a]!)) (by omega) hl).symm.trans i4d
              · have hl := hl
                refine X.exit C.1 rfl <| X.weaken ?_ (hex i4 ⟨by omega, by omega, by omega, (scanUp_stop (p := (fun x => ltInt x d2[a]!)) (.inr hl)).symm.trans i4d⟩)
                exact ⟨rfl, rfl, rfl, rfl, trivial⟩
            · have hg := hg
              simp only [decide_eq_false_iff_not] at hg
              refine Du C 4 hok rfl <| Du C 5 hok rfl <| Du C 6 hok rfl <| Du C 7 hok rfl <| Du C 8 hok rfl <| Du C 9 hok rfl <| Du C 10 hok rfl <| Du C 11 hok rfl <| Du C 12 hok rfl <| Dp 13 hok (fun _ _ _ A h => R.pickF C rfl (A.w rfl rfl) (A.x rfl rfl) (A.x rfl rfl) h) <| D.done C hok (by kernel_rfl) <| X.cond C.1 rfl (fun h => nomatch h) (fun _ => ?_)
              refine X.exit C.1 rfl <| X.weaken ?_ (hex i4 ⟨by omega, by omega, by omega, (scanUp_stop (p := (fun x => ltInt x d2[a]!)) (.inl (by omega))).symm.trans i4d⟩)
              exact ⟨rfl, rfl, rfl, rfl, trivial⟩
    · obtain ⟨j2a, j2b, j2c, j2d⟩ := hj2
      refine Xs C <| Xs C <| Xd C fun hok => Dm C 0 hok rfl rfl rfl <| Dm C 1 hok rfl rfl rfl <| Di C 2 hok rfl rfl rfl rfl rfl b_leq <| Dm C 3 hok rfl rfl rfl <| D.fix (t := 49) rfl (fun hg => ?_) (fun hg => ?_)
      · have hg := hg
        simp only [decide_eq_true_eq] at hg
        refine Dm C 4 hok rfl rfl rfl <| Dm C 5 hok rfl rfl rfl <| Dx C 6 hok rfl rfl rfl runUnderlying28 sizeOf3 <| D1 C 7 hok rfl rfl isAgg3 (by repeat (first | exact Mh | apply Mt)) (vals_at (k := j2) (by omega) (by omega)) <| Dm C 8 hok rfl rfl rfl <| Dm C 9 hok rfl rfl rfl <| Dx C 10 hok rfl rfl rfl runUnderlying28 sizeOf3 <| D1 C 11 hok rfl rfl isAgg3 (by repeat (first | exact Mh | apply Mt)) (vals_at (k := a) (by omega) (by omega)) <| De 12 (some 58) [false, false] hok (fun σr rest A hk => ?_)
        refine R.callP C rfl (A.w rfl rfl) (A.x rfl rfl) (A.s rfl rfl) (less_c hJ _ _ _) (hk _ _ ⟨QFs.nil, ?_⟩)
        refine Dp 13 hok (fun _ _ _ A h => R.not C rfl (A.w rfl rfl) (A.x rfl rfl) h) <| Dp 14 hok (fun _ _ _ A h => R.pickT C rfl (A.w rfl rfl) (A.x rfl rfl) (A.x rfl rfl) h) <| D.done C hok (by kernel_rfl) <| X.cond C.1 rfl (fun hl => ?_) (fun hl => ?_)
        · have hl := hl
          refine X.skip C.1 <| X.block C.1 <| X.region C rfl rfl <| Rm C rfl rfl <| R.int C rfl rfl rfl rfl (b_sub (by omega) (by omega)) <| Ad C rfl rfl <| X.inBlock C.1 <| X.weaken ?_ (hnx (j2 - 1) ⟨by omega, by omega, by omega, ?_⟩ (by omega))
          · exact ⟨rfl, rfl, rfl, congrArg (fun z => some (Value.int .i64 z)) (by omega), trivial⟩
          · exact (scanDown_go (p := (fun x => !ltInt x d1[a]!)) (by omega) (by omega) hl).symm.trans j2d
        · have hl := hl
          refine X.exit C.1 rfl <| X.weaken ?_ (hex j2 ⟨by omega, by omega, by omega, (scanDown_stop (p := (fun x => !ltInt x d1[a]!)) (.inr hl)).symm.trans j2d⟩)
          exact ⟨rfl, rfl, rfl, rfl, trivial⟩
      · have hg := hg
        simp only [decide_eq_false_iff_not] at hg
        refine Du C 4 hok rfl <| Du C 5 hok rfl <| Du C 6 hok rfl <| Du C 7 hok rfl <| Du C 8 hok rfl <| Du C 9 hok rfl <| Du C 10 hok rfl <| Du C 11 hok rfl <| Du C 12 hok rfl <| Du C 13 hok rfl <| Dp 14 hok (fun _ _ _ A h => R.pickF C rfl (A.w rfl rfl) (A.x rfl rfl) (A.x rfl rfl) h) <| D.done C hok (by kernel_rfl) <| X.cond C.1 rfl (fun h => nomatch h) (fun _ => ?_)
        refine X.exit C.1 rfl <| X.weaken ?_ (hex j2 ⟨by omega, by omega, by omega, (scanDown_stop (p := (fun x => !ltInt x d1[a]!)) (.inl (by omega))).symm.trans j2d⟩)
        exact ⟨rfl, rfl, rfl, rfl, trivial⟩
  · obtain ⟨i1a, i1b, i1c, i1d⟩ := hi1
    refine Xs C <| Xs C <| Xd C fun hok => Dm C 0 hok rfl rfl rfl <| Dm C 1 hok rfl rfl rfl <| Di C 2 hok rfl rfl rfl rfl rfl b_leq <| Dm C 3 hok rfl rfl rfl <| D.fix (t := 33) rfl (fun hg => ?_) (fun hg => ?_)
    · have hg := hg
      simp only [decide_eq_true_eq] at hg
      refine Dm C 4 hok rfl rfl rfl <| Dm C 5 hok rfl rfl rfl <| Dx C 6 hok rfl rfl rfl runUnderlying28 sizeOf3 <| D1 C 7 hok rfl rfl isAgg3 (by repeat (first | exact Mh | apply Mt)) (vals_at (k := i1) (by omega) (by omega)) <| Dm C 8 hok rfl rfl rfl <| Dm C 9 hok rfl rfl rfl <| Dx C 10 hok rfl rfl rfl runUnderlying28 sizeOf3 <| D1 C 11 hok rfl rfl isAgg3 (by repeat (first | exact Mh | apply Mt)) (vals_at (k := a) (by omega) (by omega)) <| De 12 (some 42) [false, false] hok (fun σr rest A hk => ?_)
      refine R.callP C rfl (A.w rfl rfl) (A.x rfl rfl) (A.s rfl rfl) (less_c hJ _ _ _) (hk _ _ ⟨QFs.nil, ?_⟩)
      refine Dp 13 hok (fun _ _ _ A h => R.pickT C rfl (A.w rfl rfl) (A.x rfl rfl) (A.x rfl rfl) h) <| D.done C hok (by kernel_rfl) <| X.cond C.1 rfl (fun hl => ?_) (fun hl => ?_)
      · have hl := hl
        refine X.skip C.1 <| X.block C.1 <| X.region C rfl rfl <| Rm C rfl rfl <| R.int C rfl rfl rfl rfl (b_add (by omega) (by omega)) <| Ad C rfl rfl <| X.inBlock C.1 <| X.weaken ?_ (hnx (i1 + 1) ⟨by omega, by omega, by omega, ?_⟩ (by omega))
        · exact ⟨rfl, rfl, by simp [look], rfl, trivial⟩
        · exact (scanUp_go (p := (fun x => ltInt x d1[a]!)) (by omega) hl).symm.trans i1d
      · have hl := hl
        refine X.exit C.1 rfl <| X.weaken ?_ (hex i1 ⟨by omega, by omega, by omega, (scanUp_stop (p := (fun x => ltInt x d1[a]!)) (.inr hl)).symm.trans i1d⟩)
        exact ⟨rfl, rfl, rfl, rfl, trivial⟩
    · have hg := hg
      simp only [decide_eq_false_iff_not] at hg
      refine Du C 4 hok rfl <| Du C 5 hok rfl <| Du C 6 hok rfl <| Du C 7 hok rfl <| Du C 8 hok rfl <| Du C 9 hok rfl <| Du C 10 hok rfl <| Du C 11 hok rfl <| Du C 12 hok rfl <| Dp 13 hok (fun _ _ _ A h => R.pickF C rfl (A.w rfl rfl) (A.x rfl rfl) (A.x rfl rfl) h) <| D.done C hok (by kernel_rfl) <| X.cond C.1 rfl (fun h => nomatch h) (fun _ => ?_)
      refine X.exit C.1 rfl <| X.weaken ?_ (hex i1 ⟨by omega, by omega, by omega, (scanUp_stop (p := (fun x => ltInt x d1[a]!)) (.inl (by omega))).symm.trans i1d⟩)
      exact ⟨rfl, rfl, rfl, rfl, trivial⟩
theorem partitionEqual_c {p : Nat} {sp : List Value} {d : Array Int} {cap a b pv : Nat} {ro : RO} (hn : d.size ≤ 1000000000) (hp1 : a ≤ pv) (hp2 : pv < b) (hb : b ≤ d.size) : CallS J 191 p sp d cap [.int .i64 (a : Int), .int .i64 (b : Int), .int .i64 (pv : Int)] ro (.int .i64 ((partitionEqual ltInt d a b pv).1 : Int)) (partitionEqual ltInt d a b pv).2 := by
  refine CallS.intro hJ (by kernel_rfl) fun c cs tail hret => ?_
  let J := J
  refine enter_X (n := 84) func191 rfl rfl (Nl rfl) ?_
  have C : Ctx prog main J (bf 191 .normal) := ⟨hJ, by decide⟩
  refine Xr C rfl rfl <| Ad C rfl rfl <| Xs C <| Xd C fun hok => Dm C 0 hok rfl rfl rfl <| Dm C 1 hok rfl rfl rfl <| Dm C 2 hok rfl rfl rfl <| Dm C 3 hok rfl rfl rfl <| Dm C 4 hok rfl rfl rfl <| Dm C 5 hok rfl rfl rfl <| Dx C 6 hok rfl rfl rfl runUnderlying28 sizeOf3 <| D1 C 7 hok rfl rfl isAgg3 (by repeat (first | exact Mh | apply Mt)) (vals_at (k := pv) (by omega) (by omega)) <| Dm C 8 hok rfl rfl rfl <| Dm C 9 hok rfl rfl rfl <| Dx C 10 hok rfl rfl rfl runUnderlying28 sizeOf3 <| D1 C 11 hok rfl rfl isAgg3 (by repeat (first | exact Mh | apply Mt)) (vals_at (k := a) (by omega) (by omega)) <| Dx C 12 hok rfl rfl rfl runUnderlying28 sizeOf3 <| De 13 none [false, false] hok (fun σr rest A hk => ?_)
  refine R.store C rfl (A.w rfl rfl) (A.x rfl rfl) (A.x rfl rfl) sizeOf3 rfl rfl rfl (by repeat (first | exact Uh | apply Ut)) (vals_put (k := a) (by omega) (by omega)) (hk undef _ ⟨QFs.nil, ?_⟩)
  refine Dx C 14 hok rfl rfl rfl runUnderlying28 sizeOf3 <| De 15 none [] hok (fun σr rest A hk => ?_)
  refine R.store C rfl (A.w rfl rfl) (A.x rfl rfl) (A.x rfl rfl) sizeOf3 rfl rfl rfl (by repeat (first | exact Uh | apply Ut)) (vals_put (k := pv) (by omega) (by simp; omega)) (hk undef _ ⟨QFs.nil, ?_⟩)
  refine D.done C hok (by kernel_rfl) <| Xr C rfl rfl ?_
  have hdef : partitionEqual ltInt d a b pv = partEqLoop ltInt a (a + 1) (b - 1) (swp d a pv) := rfl
  rw [hdef] at hret
  obtain ⟨d1, hd1e⟩ : ∃ d1, d1 = swp d a pv := ⟨_, rfl⟩
  have hd1 : d1.size = d.size := by rw [hd1e, swp_sz]
  have hd1v : (d.setIfInBounds a d[pv]!).setIfInBounds pv d[a]! = d1 := hd1e.symm
  rw [hd1v]
  rw [← hd1e] at hret
  refine Rm C rfl rfl <| R.int C rfl rfl rfl rfl (b_add (by omega) (by omega)) <| R.fixv (t := 26) (v' := .int .i64 ((a + 1 : Nat) : Int)) rfl (by rfl) <| Rm C rfl rfl <| R.int C rfl rfl rfl rfl (b_sub (by omega) (by omega)) <| R.fixv (t := 28) (v' := .int .i64 ((b - 1 : Nat) : Int)) rfl (by (congr 1; omega)) <| R.asg C rfl rfl rfl <| Ad C rfl rfl <| Xs C <| X.block C.1 <| X.loopB (ι := Nat × Nat × Array Int) C.1 (fun s => a < s.1 ∧ s.1 ≤ s.2.1 + 1 ∧ s.2.1 < b ∧ s.2.2.size = d.size ∧ partEqLoop ltInt a s.1 s.2.1 s.2.2 = partEqLoop ltInt a (a + 1) (b - 1) d1) (fun s => [(0, .slice (some ⟨p, 0, none⟩) d.size cap), (1, .int .i64 (a : Int)), (9, .int .i64 ((s.1 : Nat) : Int)), (10, .int .i64 ((s.2.1 : Nat) : Int))])
    (fun s => ⟨ro, (p, .cells (vals s.2.2 ++ sp).toArray 3 (0, 0)) :: tail⟩) (fun s => s.2.1 + 1 - s.1) (a + 1, b - 1, d1) (fun s => s.2.2.size = d.size ∧ s.1 ≤ d.size ∧ partEqLoop ltInt a (a + 1) (b - 1) d1 = (s.1, s.2.2)) ⟨by show a < a + 1; omega, by show a + 1 ≤ b - 1 + 1; omega, by show b - 1 < b; omega, hd1, rfl⟩ rfl ⟨rfl, rfl, rfl, rfl, trivial⟩ (fun s hs => ?_) fun s hs hnxM hexM => ?_
  · obtain ⟨i3, j3, d2⟩ := s
    obtain ⟨h1, h2, h3⟩ := hs
    simp only at h1 h2 h3 ⊢
    rw [h3] at hret
    refine Xr C rfl rfl <| Rm C rfl rfl <| Ad C rfl rfl <| X.ret C rfl rfl func191 rfl (by exact .tmp rfl .nil) ?_
    exact hret _ _ rfl rfl
  · obtain ⟨i3, j3, d2⟩ := s
    obtain ⟨h1, h3, h4, h2, h5⟩ := hs
    simp only at h1 h2 h3 h4 h5 hnxM hexM ⊢
    refine X.block C.1 <| Xs C <| X.block C.1 <| X.loopB (ι := Nat) C.1 (fun i => a < i ∧ i ≤ j3 + 1 ∧ i3 ≤ i ∧ scanUp (fun x => !ltInt d2[a]! x) d2 j3 i = scanUp (fun x => !ltInt d2[a]! x) d2 j3 i3) (fun i => [(0, .slice (some ⟨p, 0, none⟩) d.size cap), (1, .int .i64 (a : Int)), (9, .int .i64 ((i : Nat) : Int)), (10, .int .i64 ((j3 : Nat) : Int))])
      (fun _ => ⟨ro, (p, .cells (vals d2 ++ sp).toArray 3 (0, 0)) :: tail⟩) (fun i => j3 + 1 - i) (i3) (fun i => a < i ∧ i ≤ j3 + 1 ∧ i3 ≤ i ∧ i = scanUp (fun x => !ltInt d2[a]! x) d2 j3 i3) ⟨by omega, by omega, by omega, rfl⟩ rfl ⟨rfl, rfl, rfl, rfl, trivial⟩ (fun i4 hi4 => ?_) fun i4 hi4 hnx hex => ?_
    · obtain ⟨i4a, i4b, i4c, i4d⟩ := hi4
      refine Xs C <| X.block C.1 <| X.loopB (ι := Nat) C.1 (fun j => j < b ∧ i4 ≤ j + 1 ∧ j ≤ j3 ∧ scanDown (fun x => ltInt d2[a]! x) d2 i4 j = scanDown (fun x => ltInt d2[a]! x) d2 i4 j3) (fun j => [(0, .slice (some ⟨p, 0, none⟩) d.size cap), (1, .int .i64 (a : Int)), (9, .int .i64 ((i4 : Nat) : Int)), (10, .int .i64 ((j : Nat) : Int))])
        (fun _ => ⟨ro, (p, .cells (vals d2 ++ sp).toArray 3 (0, 0)) :: tail⟩) (fun j => j) (j3) (fun j => j < b ∧ i4 ≤ j + 1 ∧ j ≤ j3 ∧ j = scanDown (fun x => ltInt d2[a]! x) d2 i4 j3) ⟨by omega, by omega, by omega, rfl⟩ rfl ⟨rfl, rfl, rfl, rfl, trivial⟩ (fun j5 hj5 => ?_) fun j5 hj5 hnx hex => ?_
      · obtain ⟨j5a, j5b, j5c, j5d⟩ := hj5
        refine Xs C <| Xr C rfl rfl <| Rm C rfl rfl <| Rm C rfl rfl <| R.int C rfl rfl rfl rfl b_gtr <| R.done C <| X.cond C.1 rfl (fun hgt => ?_) (fun hgt => ?_)
        · have hgt := hgt
          simp only [decide_eq_true_eq] at hgt
          refine X.exit C.1 rfl <| X.weaken ?_ (hexM (i4, j5, d2) ⟨h2, by show i4 ≤ d.size; omega, by rw [← h5, Go.Sort.partEqLoop_eq, ← i4d, ← j5d, if_pos (by omega)]⟩)
          exact ⟨rfl, rfl, rfl, rfl, trivial⟩
        · have hgt := hgt
          simp only [decide_eq_false_iff_not] at hgt
          have hne := scan_ne (fun _ => (Bool.not_not _).symm) i4d j5d (by omega) (by omega)
          refine X.skip C.1 <| Xs C <| Xd C fun hok => Dm C 0 hok rfl rfl rfl <| Dm C 1 hok rfl rfl rfl <| Dm C 2 hok rfl rfl rfl <| Dm C 3 hok rfl rfl rfl <| Dm C 4 hok rfl rfl rfl <| Dm C 5 hok rfl rfl rfl <| Dx C 6 hok rfl rfl rfl runUnderlying28 sizeOf3 <| D1 C 7 hok rfl rfl isAgg3 (by repeat (first | exact Mh | apply Mt)) (vals_at (k := j5) (by omega) (by omega)) <| Dm C 8 hok rfl rfl rfl <| Dm C 9 hok rfl rfl rfl <| Dx C 10 hok rfl rfl rfl runUnderlying28 sizeOf3 <| D1 C 11 hok rfl rfl isAgg3 (by repeat (first | exact Mh | apply Mt)) (vals_at (k := i4) (by omega) (by omega)) <| Dx C 12 hok rfl rfl rfl runUnderlying28 sizeOf3 <| De 13 none [false, false] hok (fun σr rest A hk => ?_)
          refine R.store C rfl (A.w rfl rfl) (A.x rfl rfl) (A.x rfl rfl) sizeOf3 rfl rfl rfl (by repeat (first | exact Uh | apply Ut)) (vals_put (k := i4) (by omega) (by omega)) (hk undef _ ⟨QFs.nil, ?_⟩)
          refine Dx C 14 hok rfl rfl rfl runUnderlying28 sizeOf3 <| De 15 none [] hok (fun σr rest A hk => ?_)
          refine R.store C rfl (A.w rfl rfl) (A.x rfl rfl) (A.x rfl rfl) sizeOf3 rfl rfl rfl (by repeat (first | exact Uh | apply Ut)) (vals_put (k := j5) (by omega) (by simp; omega)) (hk undef _ ⟨QFs.nil, ?_⟩)
          refine D.done C hok (by kernel_rfl) <| Xr C rfl rfl <| Rm C rfl rfl <| R.int C rfl rfl rfl rfl (b_add (by omega) (by omega)) <| Ad C rfl rfl <| X.region C rfl rfl <| Rm C rfl rfl <| R.int C rfl rfl rfl rfl (b_sub (by omega) (by omega)) <| Ad C rfl rfl <| X.inBlock C.1 <| X.weaken ?_ (hnxM (i4 + 1, j5 - 1, swp d2 i4 j5) ⟨by show a < i4 + 1; omega, by show i4 + 1 ≤ j5 - 1 + 1; omega, by show j5 - 1 < b; omega, by rw [swp_sz]; exact h2, by rw [← h5, Go.Sort.partEqLoop_eq (d := d2), ← i4d, ← j5d, if_neg (by omega)]⟩ (by show j5 - 1 + 1 - (i4 + 1) < j3 + 1 - i3; omega))
          exact ⟨rfl, rfl, by simp [look], congrArg (fun z => some (Value.int .i64 z)) (by show (j5 : Int) - 1 = ((j5 - 1 : Nat) : Int); omega), trivial⟩
      · obtain ⟨j5a, j5b, j5c, j5d⟩ := hj5
        refine Xs C <| Xs C <| Xd C fun hok => Dm C 0 hok rfl rfl rfl <| Dm C 1 hok rfl rfl rfl <| Di C 2 hok rfl rfl rfl rfl rfl b_leq <| Dm C 3 hok rfl rfl rfl <| D.fix (t := 49) rfl (fun hg => ?_) (fun hg => ?_)
        · have hg := hg
          simp only [decide_eq_true_eq] at hg
          refine Dm C 4 hok rfl rfl rfl <| Dm C 5 hok rfl rfl rfl <| Dx C 6 hok rfl rfl rfl runUnderlying28 sizeOf3 <| D1 C 7 hok rfl rfl isAgg3 (by repeat (first | exact Mh | apply Mt)) (vals_at (k := a) (by omega) (by omega)) <| Dm C 8 hok rfl rfl rfl <| Dm C 9 hok rfl rfl rfl <| Dx C 10 hok rfl rfl rfl runUnderlying28 sizeOf3 <| D1 C 11 hok rfl rfl isAgg3 (by repeat (first | exact Mh | apply Mt)) (vals_at (k := j5) (by omega) (by omega)) <| De 12 (some 58) [false, false] hok (fun σr rest A hk => ?_)
          refine R.callP C rfl (A.w rfl rfl) (A.x rfl rfl) (A.s rfl rfl) (less_c hJ _ _ _) (hk _ _ ⟨QFs.nil, ?_⟩)
          refine Dp 13 hok (fun _ _ _ A h => R.pickT C rfl (A.w rfl rfl) (A.x rfl rfl) (A.x rfl rfl) h) <| D.done C hok (by kernel_rfl) <| X.cond C.1 rfl (fun hl => ?_) (fun hl => ?_)
          · have hl := hl
            refine X.skip C.1 <| X.block C.1 <| X.region C rfl rfl <| Rm C rfl rfl <| R.int C rfl rfl rfl rfl (b_sub (by omega) (by omega)) <| Ad C rfl rfl <| X.inBlock C.1 <| X.weaken ?_ (hnx (j5 - 1) ⟨by omega, by omega, by omega, ?_⟩ (by omega))
            · exact ⟨rfl, rfl, rfl, congrArg (fun z => some (Value.int .i64 z)) (by omega), trivial⟩
            · exact (scanDown_go (p := (fun x => ltInt d2[a]! x)) (by omega) (by omega) hl).symm.trans j5d
          · have hl := hl
            refine X.exit C.1 rfl <| X.weaken ?_ (hex j5 ⟨by omega, by omega, by omega, (scanDown_stop (p := (fun x => ltInt d2[a]! x)) (.inr hl)).symm.trans j5d⟩)
            exact ⟨rfl, rfl, rfl, rfl, trivial⟩
        · have hg := hg
          simp only [decide_eq_false_iff_not] at hg
          refine Du C 4 hok rfl <| Du C 5 hok rfl <| Du C 6 hok rfl <| Du C 7 hok rfl <| Du C 8 hok rfl <| Du C 9 hok rfl <| Du C 10 hok rfl <| Du C 11 hok rfl <| Du C 12 hok rfl <| Dp 13 hok (fun _ _ _ A h => R.pickF C rfl (A.w rfl rfl) (A.x rfl rfl) (A.x rfl rfl) h) <| D.done C hok (by kernel_rfl) <| X.cond C.1 rfl (fun h => nomatch h) (fun _ => ?_)
          refine X.exit C.1 rfl <| X.weaken ?_ (hex j5 ⟨by omega, by omega, by omega, (scanDown_stop (p := (fun x => ltInt d2[a]! x)) (.inl (by omega))).symm.trans j5d⟩)
          exact ⟨rfl, rfl, rfl, rfl, trivial⟩
    · obtain ⟨i4a, i4b, i4c, i4d⟩ := hi4
      refine Xs C <| Xs C <| Xd C fun hok => Dm C 0 hok rfl rfl rfl <| Dm C 1 hok rfl rfl rfl <| Di C 2 hok rfl rfl rfl rfl rfl b_leq <| Dm C 3 hok rfl rfl rfl <| D.fix (t := 32) rfl (fun hg => ?_) (fun hg => ?_)
      · have hg := hg
        simp only [decide_eq_true_eq] at hg
        refine Dm C 4 hok rfl rfl rfl <| Dm C 5 hok rfl rfl rfl <| Dx C 6 hok rfl rfl rfl runUnderlying28 sizeOf3 <| D1 C 7 hok rfl rfl isAgg3 (by repeat (first | exact Mh | apply Mt)) (vals_at (k := a) (by omega) (by omega)) <| Dm C 8 hok rfl rfl rfl <| Dm C 9 hok rfl rfl rfl <| Dx C 10 hok rfl rfl rfl runUnderlying28 sizeOf3 <| D1 C 11 hok rfl rfl isAgg3 (by repeat (first | exact Mh | apply Mt)) (vals_at (k := i4) (by omega) (by omega)) <| De 12 (some 41) [false, false] hok (fun σr rest A hk => ?_)
        refine R.callP C rfl (A.w rfl rfl) (A.x rfl rfl) (A.s rfl rfl) (less_c hJ _ _ _) (hk _ _ ⟨QFs.nil, ?_⟩)
        refine Dp 13 hok (fun _ _ _ A h => R.not C rfl (A.w rfl rfl) (A.x rfl rfl) h) <| Dp 14 hok (fun _ _ _ A h => R.pickT C rfl (A.w rfl rfl) (A.x rfl rfl) (A.x rfl rfl) h) <| D.done C hok (by kernel_rfl) <| X.cond C.1 rfl (fun hl => ?_) (fun hl => ?_)
        · have hl := hl
          refine X.skip C.1 <| X.block C.1 <| X.region C rfl rfl <| Rm C rfl rfl <| R.int C rfl rfl rfl rfl (b_add (by omega) (by omega)) <| Ad C rfl rfl <| X.inBlock C.1 <| X.weaken ?_ (hnx (i4 + 1) ⟨by omega, by omega, by omega, ?_⟩ (by omega))
          · exact ⟨rfl, rfl, by simp [look], rfl, trivial⟩
          · exact (scanUp_go (p := (fun x => !ltInt d2[a]! x)) (by omega) hl).symm.trans i4d
        · have hl := hl
          refine X.exit C.1 rfl <| X.weaken ?_ (hex i4 ⟨by omega, by omega, by omega, (scanUp_stop (p := (fun x => !ltInt d2[a]! x)) (.inr hl)).symm.trans i4d⟩)
          exact ⟨rfl, rfl, rfl, rfl, trivial⟩
      · have hg := hg
        simp only [decide_eq_false_iff_not] at hg
        refine Du C 4 hok rfl <| Du C 5 hok rfl <| Du C 6 hok rfl <| Du C 7 hok rfl <| Du C 8 hok rfl <| Du C 9 hok rfl <| Du C 10 hok rfl <| Du C 11 hok rfl <| Du C 12 hok rfl <| Du C 13 hok rfl <| Dp 14 hok (fun _ _ _ A h => R.pickF C rfl (A.w rfl rfl) (A.x rfl rfl) (A.x rfl rfl) h) <| D.done C hok (by kernel_rfl) <| X.cond C.1 rfl (fun h => nomatch h) (fun _ => ?_)
        refine X.exit C.1 rfl <| X.weaken ?_ (hex i4 ⟨by omega, by omega, by omega, (scanUp_stop (p := (fun x => !ltInt d2[a]! x)) (.inl (by omega))).symm.trans i4d⟩)
        exact ⟨rfl, rfl, rfl, rfl, trivial⟩
end Go.Lg.B
namespace Go.Lg.B
open Go Go.Conc Go.Lg Go.Proofs Go.Proofs.Tryz
open Go.Sort (ltInt swp scanSorted shiftDown shiftUp partialIns partialInsertionSort fixDown fixUp)
theorem scanS_go {d : Array Int} {b i : Nat} (h : i < b) (hl : (!ltInt d[i]! d[i - 1]!) = true) : scanSorted ltInt d b i = scanSorted ltInt d b (i + 1) := by rw [scanSorted, if_pos (by simp only [hl, Bool.and_true, decide_eq_true_eq]; exact h)]
theorem scanS_stop {d : Array Int} {b i : Nat} (h : b ≤ i ∨ (!ltInt d[i]! d[i - 1]!) = false) : scanSorted ltInt d b i = i := by
  rw [scanSorted, if_neg]
  rcases h with h | h
  · simp; omega
  · simp only [h, Bool.and_false]; decide
theorem shD_go {d : Array Int} {j : Nat} (hj : 1 ≤ j) (h : (!ltInt d[j]! d[j - 1]!) = false) : shiftDown ltInt j d = shiftDown ltInt (j - 1) (swp d j (j - 1)) := by
  obtain ⟨j, rfl⟩ : ∃ k, j = k + 1 := ⟨j - 1, by omega⟩
  have h : (!ltInt d[j + 1]! d[j]!) = false := by simpa using h
  simp only [shiftDown]
  rw [if_neg (by rw [h]; simp)]; rfl
theorem shD_stop {d : Array Int} {j : Nat} (h : j = 0 ∨ (!ltInt d[j]! d[j - 1]!) = true) : shiftDown ltInt j d = d := by
  cases j with
  | zero => rfl
  | succ j =>
    have h : (!ltInt d[j + 1]! d[j]!) = true := by simpa using h
    simp only [shiftDown]
    rw [if_pos h]
theorem shU_go {d : Array Int} {b j : Nat} (hj : j < b) (h : (!ltInt d[j]! d[j - 1]!) = false) : shiftUp ltInt b j d = shiftUp ltInt b (j + 1) (swp d j (j - 1)) := by
  rw [shiftUp, if_pos hj, if_neg (by rw [h]; simp)]
theorem shU_stop {d : Array Int} {b j : Nat} (h : b ≤ j ∨ (!ltInt d[j]! d[j - 1]!) = true) : shiftUp ltInt b j d = d := by
  rw [shiftUp]
  rcases h with h | h
  · rw [if_neg (by omega)]
  · split <;> first | rfl | rw [if_pos h]
variable {main : Bool} {J : Goroutine → Mem → Prop} (hJ : Closed prog main J)
include hJ
theorem partialIns_c {p : Nat} {sp : List Value} {d : Array Int} {cap a b : Nat} {ro : RO} (hn : d.size ≤ 1000000000) (hab : a < b) (hb : b ≤ d.size) : CallS J 189 p sp d cap [.int .i64 (a : Int), .int .i64 (b : Int)] ro (.bool (partialInsertionSort ltInt d a b).2) (partialInsertionSort ltInt d a b).1 := by
  refine CallS.intro hJ (by kernel_rfl) fun c cs tail hret => ?_
  let J := J
  refine enter_X (n := 133) func189 rfl rfl (Nl rfl) ?_
  have C : Ctx prog main J (bf 189 .normal) := ⟨hJ, by decide⟩
  refine Xr C rfl rfl <| Ad C rfl rfl <| Xr C rfl rfl <| Rm C rfl rfl <| R.int C rfl rfl rfl rfl (b_add (by omega) (by omega)) <| Ad C rfl rfl <| Xs C <| Xr C rfl rfl <| Ad C rfl rfl <| X.block C.1 <| X.loopI (ι := Nat × Nat × Array Int) C.1 (fun s => s.1 ≤ 5 ∧ a + 1 ≤ s.2.1 ∧ s.2.1 ≤ b ∧ s.2.2.size = d.size ∧ partialIns ltInt a b (5 - s.1) s.2.1 s.2.2 = partialInsertionSort ltInt d a b) (fun s => [(0, .slice (some ⟨p, 0, none⟩) d.size cap), (1, .int .i64 (a : Int)), (2, .int .i64 (b : Int)), (7, .int .i64 ((s.2.1 : Nat) : Int)), (8, .int .i64 ((s.1 : Nat) : Int))])
    (fun s => ⟨ro, (p, .cells (vals s.2.2 ++ sp).toArray 3 (0, 0)) :: tail⟩) (fun s => 5 - s.1) (0, a + 1, d) ⟨Nat.zero_le _, Nat.le_refl _, by show a + 1 ≤ b; omega, rfl, rfl⟩ rfl ⟨rfl, rfl, rfl, by simp [look], rfl, trivial⟩ fun s hs hnext => ?_
  obtain ⟨k, i0, d2⟩ := s
  obtain ⟨hk, hi1, hi2, h1, hp5⟩ := hs
  simp only at hk hi1 hi2 h1 hp5 hnext ⊢
  refine Xs C <| Xr C rfl rfl <| Rm C rfl rfl <| R.int C rfl rfl rfl rfl b_lss <| R.done C <| X.cond C.1 rfl (fun hk5 => ?_) (fun hk5 => ?_)
  · have hk5 := hk5
    simp only [decide_eq_true_eq] at hk5
    rw [show 5 - k = (5 - (k + 1)) + 1 by omega, Go.Sort.partialIns_succ] at hp5
    refine X.skip C.1 <| Xs C <| X.block C.1 <| Xs C <| X.block C.1 <| X.loopB (ι := Nat) C.1 (fun i => i0 ≤ i ∧ i ≤ b ∧ scanSorted ltInt d2 b i = scanSorted ltInt d2 b i0) (fun i => [(0, .slice (some ⟨p, 0, none⟩) d.size cap), (1, .int .i64 (a : Int)), (2, .int .i64 (b : Int)), (7, .int .i64 ((i : Nat) : Int)), (8, .int .i64 ((k : Nat) : Int))])
      (fun _ => ⟨ro, (p, .cells (vals d2 ++ sp).toArray 3 (0, 0)) :: tail⟩) (fun i => b - i) i0 (fun i => i0 ≤ i ∧ i ≤ b ∧ i = scanSorted ltInt d2 b i0) ⟨Nat.le_refl _, hi2, rfl⟩ rfl ⟨rfl, rfl, rfl, rfl, rfl, trivial⟩ (fun i h => ?_) fun i h hns hes => ?_
    · obtain ⟨hia, hib, hic⟩ := h
      rw [← hic] at hp5
      refine Xs C <| Xr C rfl rfl <| Rm C rfl rfl <| Rm C rfl rfl <| R.int C rfl rfl rfl rfl b_eql <| R.done C <| X.cond C.1 rfl (fun hend => ?_) (fun hend => ?_)
      · have hend := hend
        have hib' : i = b := by simp at hend; omega
        rw [if_pos hib'] at hp5
        rw [← hp5] at hret
        refine Xr C rfl rfl <| Ad C rfl rfl <| X.ret C rfl rfl func189 rfl (by exact .tmp rfl .nil) ?_
        exact hret _ _ rfl rfl
      · have hend := hend
        have hib' : ¬ i = b := by simp at hend; omega
        rw [if_neg hib'] at hp5
        refine X.skip C.1 <| Xs C <| Xr C rfl rfl <| Rm C rfl rfl <| Rm C rfl rfl <| R.int C rfl rfl rfl rfl (b_sub (by omega) (by omega)) <| R.int C rfl rfl rfl rfl b_lss <| R.done C <| X.cond C.1 rfl (fun h50 => ?_) (fun h50 => ?_)
        · have h50 := h50
          simp only [decide_eq_true_eq] at h50
          rw [if_pos (by omega)] at hp5
          rw [← hp5] at hret
          refine Xr C rfl rfl <| Ad C rfl rfl <| X.ret C rfl rfl func189 rfl (by exact .tmp rfl .nil) ?_
          exact hret _ _ rfl rfl
        · have h50 := h50
          simp only [decide_eq_false_iff_not] at h50
          rw [if_neg (by omega)] at hp5
          refine X.skip C.1 <| Xs C <| Xd C fun hok => Dm C 0 hok rfl rfl rfl <| Dm C 1 hok rfl rfl rfl <| Dm C 2 hok rfl rfl rfl <| Dm C 3 hok rfl rfl rfl <| Di C 4 hok rfl rfl rfl rfl rfl (b_sub (by omega) (by omega)) <| Dm C 5 hok rfl rfl rfl <| Dm C 6 hok rfl rfl rfl <| Di C 7 hok rfl rfl rfl rfl rfl (b_sub (by omega) (by omega)) <| Dx C 8 hok rfl rfl rfl runUnderlying28 sizeOf3 <| D1 C 9 hok rfl rfl isAgg3 (by repeat (first | exact Mh | apply Mt)) (vals_at (k := i - 1) (by omega) (by omega)) <| Dm C 10 hok rfl rfl rfl <| Dm C 11 hok rfl rfl rfl <| Dx C 12 hok rfl rfl rfl runUnderlying28 sizeOf3 <| D1 C 13 hok rfl rfl isAgg3 (by repeat (first | exact Mh | apply Mt)) (vals_at (k := i) (by omega) (by omega)) <| Dx C 14 hok rfl rfl rfl runUnderlying28 sizeOf3 <| De 15 none [false, false] hok (fun σr rest A hk => ?_)
          refine R.store C rfl (A.w rfl rfl) (A.x rfl rfl) (A.x rfl rfl) sizeOf3 rfl rfl rfl (by repeat (first | exact Uh | apply Ut)) (vals_put (k := i) (by omega) (by omega)) (hk undef _ ⟨QFs.nil, ?_⟩)
          refine Dx C 16 hok rfl rfl rfl runUnderlying28 sizeOf3 <| De 17 none [] hok (fun σr rest A hk => ?_)
          refine R.store C rfl (A.w rfl rfl) (A.x rfl rfl) (A.x rfl rfl) sizeOf3 rfl rfl rfl (by repeat (first | exact Uh | apply Ut)) (vals_put (k := i - 1) (by omega) (by simp; omega)) (hk undef _ ⟨QFs.nil, ?_⟩)
          refine D.done C hok (by kernel_rfl) <| Xs C <| Xr C rfl rfl ?_
          have hsw : (d2.setIfInBounds i d2[i - 1]!).setIfInBounds (i - 1) d2[i]! = (swp d2 i (i - 1)) := rfl
          rw [hsw]
          refine Rm C rfl rfl <| Rm C rfl rfl <| R.int C rfl rfl rfl rfl (b_sub (by omega) (by omega)) <| R.int C rfl rfl rfl rfl b_geq <| R.done C <| X.cond C.1 rfl (fun hd0 => ?_) (fun hd0 => ?_)
          · have hd0 := hd0
            simp only [decide_eq_true_eq] at hd0
            refine Xr C rfl rfl <| Rm C rfl rfl <| R.int C rfl rfl rfl rfl (b_sub (by omega) (by omega)) <| R.fixv (t := 63) (v' := .int .i64 ((i - 1 : Nat) : Int)) rfl (by (congr 1; omega)) <| Ad C rfl rfl <| X.block C.1 <| X.loopB (ι := Nat × Array Int) C.1 (fun s => s.1 < b ∧ s.2.size = d.size ∧ shiftDown ltInt s.1 s.2 = shiftDown ltInt (i - 1) (swp d2 i (i - 1))) (fun s => [(0, .slice (some ⟨p, 0, none⟩) d.size cap), (1, .int .i64 (a : Int)), (2, .int .i64 (b : Int)), (7, .int .i64 ((i : Nat) : Int)), (8, .int .i64 ((k : Nat) : Int)), (9, .int .i64 ((s.1 : Nat) : Int))])
              (fun s => ⟨ro, (p, .cells (vals s.2 ++ sp).toArray 3 (0, 0)) :: tail⟩) (fun s => s.1) (i - 1, (swp d2 i (i - 1))) (fun s => s.2.size = d.size ∧ shiftDown ltInt (i - 1) (swp d2 i (i - 1)) = s.2) ⟨by show i - 1 < b; omega, by rw [swp_sz]; exact h1, rfl⟩ rfl ⟨rfl, rfl, rfl, rfl, rfl, rfl, trivial⟩ (fun s hs => ?_) fun s hs hnd hed => ?_
            · obtain ⟨j, d3⟩ := s
              obtain ⟨h31, h32⟩ := hs
              simp only at h31 h32 ⊢
              refine Xr C rfl rfl <| Rm C rfl rfl <| Rm C rfl rfl <| R.int C rfl rfl rfl rfl (b_sub (by omega) (by omega)) <| R.int C rfl rfl rfl rfl b_geq <| R.done C <| X.cond C.1 rfl (fun hu => ?_) (fun hu => ?_)
              · have hu := hu
                simp only [decide_eq_true_eq] at hu
                refine Xr C rfl rfl <| Rm C rfl rfl <| R.int C rfl rfl rfl rfl (b_add (by omega) (by omega)) <| R.fixv (t := 100) (v' := .int .i64 ((i + 1 : Nat) : Int)) rfl (by rfl) <| Ad C rfl rfl <| X.block C.1 <| X.loopB (ι := Nat × Array Int) C.1 (fun s => i + 1 ≤ s.1 ∧ s.1 ≤ b ∧ s.2.size = d.size ∧ shiftUp ltInt b s.1 s.2 = shiftUp ltInt b (i + 1) d3) (fun s => [(0, .slice (some ⟨p, 0, none⟩) d.size cap), (1, .int .i64 (a : Int)), (2, .int .i64 (b : Int)), (7, .int .i64 ((i : Nat) : Int)), (8, .int .i64 ((k : Nat) : Int)), (10, .int .i64 ((s.1 : Nat) : Int))])
                  (fun s => ⟨ro, (p, .cells (vals s.2 ++ sp).toArray 3 (0, 0)) :: tail⟩) (fun s => b - s.1) (i + 1, d3) (fun s => s.2.size = d.size ∧ shiftUp ltInt b (i + 1) d3 = s.2) ⟨Nat.le_refl _, by show i + 1 ≤ b; omega, h31, rfl⟩ rfl ⟨rfl, rfl, rfl, rfl, rfl, rfl, trivial⟩ (fun s hs => ?_) fun s hs hnu heu => ?_
                · obtain ⟨j, d5⟩ := s
                  obtain ⟨h51, h52⟩ := hs
                  simp only at h51 h52 ⊢
                  refine X.inBlock C.1 <| X.region C rfl rfl <| Rm C rfl rfl <| R.int C rfl rfl rfl rfl (b_add (by omega) (by omega)) <| Ad C rfl rfl <| X.weaken ?_ (hnext (k + 1, i, d5) ⟨by show k + 1 ≤ 5; omega, by show a + 1 ≤ i; omega, by show i ≤ b; omega, ?_, ?_⟩ (by show 5 - (k + 1) < 5 - k; omega))
                  · exact ⟨rfl, rfl, rfl, rfl, by simp [look], trivial⟩
                  · show (d5).size = d.size; first | assumption | (rw [swp_sz]; assumption)
                  · show partialIns ltInt a b (5 - (k + 1)) i d5 = _
                    rw [← hp5]; rw [fixDown, if_pos (by omega), h32]; rw [fixUp, if_pos (by omega), h52]
                · obtain ⟨j, d4⟩ := s
                  obtain ⟨g1, g2, g3, g4⟩ := hs
                  simp only at g1 g2 g3 g4 hnu heu ⊢
                  refine Xs C <| Xr C rfl rfl <| Rm C rfl rfl <| Rm C rfl rfl <| R.int C rfl rfl rfl rfl b_lss <| R.done C <| X.cond C.1 rfl (fun hjb => ?_) (fun hjb => ?_)
                  · have hjb := hjb
                    simp only [decide_eq_true_eq] at hjb
                    refine X.skip C.1 <| Xs C <| X.block C.1 <| Xs C <| Xs C <| Xd C fun hok => Dm C 0 hok rfl rfl rfl <| Dm C 1 hok rfl rfl rfl <| Dx C 2 hok rfl rfl rfl runUnderlying28 sizeOf3 <| D1 C 3 hok rfl rfl isAgg3 (by repeat (first | exact Mh | apply Mt)) (vals_at (k := j) (by omega) (by omega)) <| Dm C 4 hok rfl rfl rfl <| Dm C 5 hok rfl rfl rfl <| Di C 6 hok rfl rfl rfl rfl rfl (b_sub (by omega) (by omega)) <| Dx C 7 hok rfl rfl rfl runUnderlying28 sizeOf3 <| D1 C 8 hok rfl rfl isAgg3 (by repeat (first | exact Mh | apply Mt)) (vals_at (k := j - 1) (by omega) (by omega)) <| De 9 (some 115) [false, false] hok (fun σr rest A hk => ?_)
                    refine R.callP C rfl (A.w rfl rfl) (A.x rfl rfl) (A.s rfl rfl) (less_c hJ _ _ _) (hk _ _ ⟨QFs.nil, ?_⟩)
                    refine Dp 10 hok (fun _ _ _ A h => R.not C rfl (A.w rfl rfl) (A.x rfl rfl) h) <| D.done C hok (by kernel_rfl) <| X.cond C.1 rfl (fun hl => ?_) (fun hl => ?_)
                    · have hl := hl
                      refine X.exit C.1 rfl <| X.weaken ?_ (heu (j, d4) ⟨g3, by rw [← g4, shU_stop (.inr hl)]⟩)
                      exact ⟨rfl, rfl, rfl, rfl, rfl, rfl, trivial⟩
                    · have hl := hl
                      refine X.skip C.1 <| Xd C fun hok => Dm C 0 hok rfl rfl rfl <| Dm C 1 hok rfl rfl rfl <| Dm C 2 hok rfl rfl rfl <| Dm C 3 hok rfl rfl rfl <| Di C 4 hok rfl rfl rfl rfl rfl (b_sub (by omega) (by omega)) <| Dm C 5 hok rfl rfl rfl <| Dm C 6 hok rfl rfl rfl <| Di C 7 hok rfl rfl rfl rfl rfl (b_sub (by omega) (by omega)) <| Dx C 8 hok rfl rfl rfl runUnderlying28 sizeOf3 <| D1 C 9 hok rfl rfl isAgg3 (by repeat (first | exact Mh | apply Mt)) (vals_at (k := j - 1) (by omega) (by omega)) <| Dm C 10 hok rfl rfl rfl <| Dm C 11 hok rfl rfl rfl <| Dx C 12 hok rfl rfl rfl runUnderlying28 sizeOf3 <| D1 C 13 hok rfl rfl isAgg3 (by repeat (first | exact Mh | apply Mt)) (vals_at (k := j) (by omega) (by omega)) <| Dx C 14 hok rfl rfl rfl runUnderlying28 sizeOf3 <| De 15 none [false, false] hok (fun σr rest A hk => ?_)
                      refine R.store C rfl (A.w rfl rfl) (A.x rfl rfl) (A.x rfl rfl) sizeOf3 rfl rfl rfl (by repeat (first | exact Uh | apply Ut)) (vals_put (k := j) (by omega) (by omega)) (hk undef _ ⟨QFs.nil, ?_⟩)
                      refine Dx C 16 hok rfl rfl rfl runUnderlying28 sizeOf3 <| De 17 none [] hok (fun σr rest A hk => ?_)
                      refine R.store C rfl (A.w rfl rfl) (A.x rfl rfl) (A.x rfl rfl) sizeOf3 rfl rfl rfl (by repeat (first | exact Uh | apply Ut)) (vals_put (k := j - 1) (by omega) (by simp; omega)) (hk undef _ ⟨QFs.nil, ?_⟩)
                      refine D.done C hok (by kernel_rfl) <| X.inBlock C.1 <| X.region C rfl rfl <| Rm C rfl rfl <| R.int C rfl rfl rfl rfl (b_add (by omega) (by omega)) <| Ad C rfl rfl <| X.weaken ?_ (hnu (j + 1, swp d4 j (j - 1)) ⟨by show i + 1 ≤ j + 1; omega, by show j + 1 ≤ b; omega, by rw [swp_sz]; exact g3, by rw [← g4, shU_go (by omega) hl]⟩ (by show b - (j + 1) < b - j; omega))
                      exact ⟨rfl, rfl, rfl, rfl, rfl, by simp [look], trivial⟩
                  · have hjb := hjb
                    simp only [decide_eq_false_iff_not] at hjb
                    refine X.exit C.1 rfl <| X.weaken ?_ (heu (j, d4) ⟨g3, by rw [← g4, shU_stop (.inl (by omega))]⟩)
                    exact ⟨rfl, rfl, rfl, rfl, rfl, rfl, trivial⟩
              · have hu := hu
                simp only [decide_eq_false_iff_not] at hu
                refine X.skip C.1 <| X.inBlock C.1 <| X.region C rfl rfl <| Rm C rfl rfl <| R.int C rfl rfl rfl rfl (b_add (by omega) (by omega)) <| Ad C rfl rfl <| X.weaken ?_ (hnext (k + 1, i, d3) ⟨by show k + 1 ≤ 5; omega, by show a + 1 ≤ i; omega, by show i ≤ b; omega, ?_, ?_⟩ (by show 5 - (k + 1) < 5 - k; omega))
                · exact ⟨rfl, rfl, rfl, rfl, by simp [look], trivial⟩
                · show (d3).size = d.size; first | assumption | (rw [swp_sz]; assumption)
                · show partialIns ltInt a b (5 - (k + 1)) i d3 = _
                  rw [← hp5]; rw [fixDown, if_pos (by omega), h32]; rw [fixUp, if_neg (by omega)]
            · obtain ⟨j, d4⟩ := s
              obtain ⟨g1, g3, g4⟩ := hs
              simp only at g1 g3 g4 hnd hed ⊢
              refine Xs C <| Xr C rfl rfl <| Rm C rfl rfl <| R.int C rfl rfl rfl rfl b_geq <| R.done C <| X.cond C.1 rfl (fun hjb => ?_) (fun hjb => ?_)
              · have hjb := hjb
                simp only [decide_eq_true_eq] at hjb
                refine X.skip C.1 <| Xs C <| X.block C.1 <| Xs C <| Xs C <| Xd C fun hok => Dm C 0 hok rfl rfl rfl <| Dm C 1 hok rfl rfl rfl <| Dx C 2 hok rfl rfl rfl runUnderlying28 sizeOf3 <| D1 C 3 hok rfl rfl isAgg3 (by repeat (first | exact Mh | apply Mt)) (vals_at (k := j) (by omega) (by omega)) <| Dm C 4 hok rfl rfl rfl <| Dm C 5 hok rfl rfl rfl <| Di C 6 hok rfl rfl rfl rfl rfl (b_sub (by omega) (by omega)) <| Dx C 7 hok rfl rfl rfl runUnderlying28 sizeOf3 <| D1 C 8 hok rfl rfl isAgg3 (by repeat (first | exact Mh | apply Mt)) (vals_at (k := j - 1) (by omega) (by omega)) <| De 9 (some 77) [false, false] hok (fun σr rest A hk => ?_)
                refine R.callP C rfl (A.w rfl rfl) (A.x rfl rfl) (A.s rfl rfl) (less_c hJ _ _ _) (hk _ _ ⟨QFs.nil, ?_⟩)
                refine Dp 10 hok (fun _ _ _ A h => R.not C rfl (A.w rfl rfl) (A.x rfl rfl) h) <| D.done C hok (by kernel_rfl) <| X.cond C.1 rfl (fun hl => ?_) (fun hl => ?_)
                · have hl := hl
                  refine X.exit C.1 rfl <| X.weaken ?_ (hed (j, d4) ⟨g3, by rw [← g4, shD_stop (.inr hl)]⟩)
                  exact ⟨rfl, rfl, rfl, rfl, rfl, rfl, trivial⟩
                · have hl := hl
                  refine X.skip C.1 <| Xd C fun hok => Dm C 0 hok rfl rfl rfl <| Dm C 1 hok rfl rfl rfl <| Dm C 2 hok rfl rfl rfl <| Dm C 3 hok rfl rfl rfl <| Di C 4 hok rfl rfl rfl rfl rfl (b_sub (by omega) (by omega)) <| Dm C 5 hok rfl rfl rfl <| Dm C 6 hok rfl rfl rfl <| Di C 7 hok rfl rfl rfl rfl rfl (b_sub (by omega) (by omega)) <| Dx C 8 hok rfl rfl rfl runUnderlying28 sizeOf3 <| D1 C 9 hok rfl rfl isAgg3 (by repeat (first | exact Mh | apply Mt)) (vals_at (k := j - 1) (by omega) (by omega)) <| Dm C 10 hok rfl rfl rfl <| Dm C 11 hok rfl rfl rfl <| Dx C 12 hok rfl rfl rfl runUnderlying28 sizeOf3 <| D1 C 13 hok rfl rfl isAgg3 (by repeat (first | exact Mh | apply Mt)) (vals_at (k := j) (by omega) (by omega)) <| Dx C 14 hok rfl rfl rfl runUnderlying28 sizeOf3 <| De 15 none [false, false] hok (fun σr rest A hk => ?_)
                  refine R.store C rfl (A.w rfl rfl) (A.x rfl rfl) (A.x rfl rfl) sizeOf3 rfl rfl rfl (by repeat (first | exact Uh | apply Ut)) (vals_put (k := j) (by omega) (by omega)) (hk undef _ ⟨QFs.nil, ?_⟩)
                  refine Dx C 16 hok rfl rfl rfl runUnderlying28 sizeOf3 <| De 17 none [] hok (fun σr rest A hk => ?_)
                  refine R.store C rfl (A.w rfl rfl) (A.x rfl rfl) (A.x rfl rfl) sizeOf3 rfl rfl rfl (by repeat (first | exact Uh | apply Ut)) (vals_put (k := j - 1) (by omega) (by simp; omega)) (hk undef _ ⟨QFs.nil, ?_⟩)
                  refine D.done C hok (by kernel_rfl) <| X.inBlock C.1 <| X.region C rfl rfl <| Rm C rfl rfl <| R.int C rfl rfl rfl rfl (b_sub (by omega) (by omega)) <| Ad C rfl rfl <| X.weaken ?_ (hnd (j - 1, swp d4 j (j - 1)) ⟨by show j - 1 < b; omega, by rw [swp_sz]; exact g3, by rw [← g4, shD_go (by omega) hl]⟩ (by show j - 1 < j; omega))
                  exact ⟨rfl, rfl, rfl, rfl, rfl, congrArg (fun z => some (Value.int .i64 z)) (by show (j : Int) - 1 = ((j - 1 : Nat) : Int); omega), trivial⟩
              · have hjb := hjb
                simp only [decide_eq_false_iff_not] at hjb
                refine X.exit C.1 rfl <| X.weaken ?_ (hed (j, d4) ⟨g3, by rw [← g4, shD_stop (.inl (by omega))]⟩)
                exact ⟨rfl, rfl, rfl, rfl, rfl, rfl, trivial⟩
          · have hd0 := hd0
            simp only [decide_eq_false_iff_not] at hd0
            refine X.skip C.1 <| Xr C rfl rfl <| Rm C rfl rfl <| Rm C rfl rfl <| R.int C rfl rfl rfl rfl (b_sub (by omega) (by omega)) <| R.int C rfl rfl rfl rfl b_geq <| R.done C <| X.cond C.1 rfl (fun hu => ?_) (fun hu => ?_)
            · have hu := hu
              simp only [decide_eq_true_eq] at hu
              refine Xr C rfl rfl <| Rm C rfl rfl <| R.int C rfl rfl rfl rfl (b_add (by omega) (by omega)) <| R.fixv (t := 100) (v' := .int .i64 ((i + 1 : Nat) : Int)) rfl (by rfl) <| Ad C rfl rfl <| X.block C.1 <| X.loopB (ι := Nat × Array Int) C.1 (fun s => i + 1 ≤ s.1 ∧ s.1 ≤ b ∧ s.2.size = d.size ∧ shiftUp ltInt b s.1 s.2 = shiftUp ltInt b (i + 1) (swp d2 i (i - 1))) (fun s => [(0, .slice (some ⟨p, 0, none⟩) d.size cap), (1, .int .i64 (a : Int)), (2, .int .i64 (b : Int)), (7, .int .i64 ((i : Nat) : Int)), (8, .int .i64 ((k : Nat) : Int)), (10, .int .i64 ((s.1 : Nat) : Int))])
                (fun s => ⟨ro, (p, .cells (vals s.2 ++ sp).toArray 3 (0, 0)) :: tail⟩) (fun s => b - s.1) (i + 1, (swp d2 i (i - 1))) (fun s => s.2.size = d.size ∧ shiftUp ltInt b (i + 1) (swp d2 i (i - 1)) = s.2) ⟨Nat.le_refl _, by show i + 1 ≤ b; omega, by rw [swp_sz]; exact h1, rfl⟩ rfl ⟨rfl, rfl, rfl, rfl, rfl, rfl, trivial⟩ (fun s hs => ?_) fun s hs hnu heu => ?_
              · obtain ⟨j, d5⟩ := s
                obtain ⟨h51, h52⟩ := hs
                simp only at h51 h52 ⊢
                refine X.inBlock C.1 <| X.region C rfl rfl <| Rm C rfl rfl <| R.int C rfl rfl rfl rfl (b_add (by omega) (by omega)) <| Ad C rfl rfl <| X.weaken ?_ (hnext (k + 1, i, d5) ⟨by show k + 1 ≤ 5; omega, by show a + 1 ≤ i; omega, by show i ≤ b; omega, ?_, ?_⟩ (by show 5 - (k + 1) < 5 - k; omega))
                · exact ⟨rfl, rfl, rfl, rfl, by simp [look], trivial⟩
                · show (d5).size = d.size; first | assumption | (rw [swp_sz]; assumption)
                · show partialIns ltInt a b (5 - (k + 1)) i d5 = _
                  rw [← hp5]; rw [fixDown, if_neg (by omega)]; rw [fixUp, if_pos (by omega), h52]
              · obtain ⟨j, d4⟩ := s
                obtain ⟨g1, g2, g3, g4⟩ := hs
                simp only at g1 g2 g3 g4 hnu heu ⊢
                refine Xs C <| Xr C rfl rfl <| Rm C rfl rfl <| Rm C rfl rfl <| R.int C rfl rfl rfl rfl b_lss <| R.done C <| X.cond C.1 rfl (fun hjb => ?_) (fun hjb => ?_)
                · have hjb := hjb
                  simp only [decide_eq_true_eq] at hjb
                  refine X.skip C.1 <| Xs C <| X.block C.1 <| Xs C <| Xs C <| Xd C fun hok => Dm C 0 hok rfl rfl rfl <| Dm C 1 hok rfl rfl rfl <| Dx C 2 hok rfl rfl rfl runUnderlying28 sizeOf3 <| D1 C 3 hok rfl rfl isAgg3 (by repeat (first | exact Mh | apply Mt)) (vals_at (k := j) (by omega) (by omega)) <| Dm C 4 hok rfl rfl rfl <| Dm C 5 hok rfl rfl rfl <| Di C 6 hok rfl rfl rfl rfl rfl (b_sub (by omega) (by omega)) <| Dx C 7 hok rfl rfl rfl runUnderlying28 sizeOf3 <| D1 C 8 hok rfl rfl isAgg3 (by repeat (first | exact Mh | apply Mt)) (vals_at (k := j - 1) (by omega) (by omega)) <| De 9 (some 115) [false, false] hok (fun σr rest A hk => ?_)
                  refine R.callP C rfl (A.w rfl rfl) (A.x rfl rfl) (A.s rfl rfl) (less_c hJ _ _ _) (hk _ _ ⟨QFs.nil, ?_⟩)
                  refine Dp 10 hok (fun _ _ _ A h => R.not C rfl (A.w rfl rfl) (A.x rfl rfl) h) <| D.done C hok (by kernel_rfl) <| X.cond C.1 rfl (fun hl => ?_) (fun hl => ?_)
                  · have hl := hl
                    refine X.exit C.1 rfl <| X.weaken ?_ (heu (j, d4) ⟨g3, by rw [← g4, shU_stop (.inr hl)]⟩)
                    exact ⟨rfl, rfl, rfl, rfl, rfl, rfl, trivial⟩
                  · have hl := hl
                    refine X.skip C.1 <| Xd C fun hok => Dm C 0 hok rfl rfl rfl <| Dm C 1 hok rfl rfl rfl <| Dm C 2 hok rfl rfl rfl <| Dm C 3 hok rfl rfl rfl <| Di C 4 hok rfl rfl rfl rfl rfl (b_sub (by omega) (by omega)) <| Dm C 5 hok rfl rfl rfl <| Dm C 6 hok rfl rfl rfl <| Di C 7 hok rfl rfl rfl rfl rfl (b_sub (by omega) (by omega)) <| Dx C 8 hok rfl rfl rfl runUnderlying28 sizeOf3 <| D1 C 9 hok rfl rfl isAgg3 (by repeat (first | exact Mh | apply Mt)) (vals_at (k := j - 1) (by omega) (by omega)) <| Dm C 10 hok rfl rfl rfl <| Dm C 11 hok rfl rfl rfl <| Dx C 12 hok rfl rfl rfl runUnderlying28 sizeOf3 <| D1 C 13 hok rfl rfl isAgg3 (by repeat (first | exact Mh | apply Mt)) (vals_at (k := j) (by omega) (by omega)) <| Dx C 14 hok rfl rfl rfl runUnderlying28 sizeOf3 <| De 15 none [false, false] hok (fun σr rest A hk => ?_)
                    refine R.store C rfl (A.w rfl rfl) (A.x rfl rfl) (A.x rfl rfl) sizeOf3 rfl rfl rfl (by repeat (first | exact Uh | apply Ut)) (vals_put (k := j) (by omega) (by omega)) (hk undef _ ⟨QFs.nil, ?_⟩)
                    refine Dx C 16 hok rfl rfl rfl runUnderlying28 sizeOf3 <| De 17 none [] hok (fun σr rest A hk => ?_)
                    refine R.store C rfl (A.w rfl rfl) (A.x rfl rfl) (A.x rfl rfl) sizeOf3 rfl rfl rfl (by repeat (first | exact Uh | apply Ut)) (vals_put (k := j - 1) (by omega) (by simp; omega)) (hk undef _ ⟨QFs.nil, ?_⟩)
                    refine D.done C hok (by kernel_rfl) <| X.inBlock C.1 <| X.region C rfl rfl <| Rm C rfl rfl <| R.int C rfl rfl rfl rfl (b_add (by omega) (by omega)) <| Ad C rfl rfl <| X.weaken ?_ (hnu (j + 1, swp d4 j (j - 1)) ⟨by show i + 1 ≤ j + 1; omega, by show j + 1 ≤ b; omega, by rw [swp_sz]; exact g3, by rw [← g4, shU_go (by omega) hl]⟩ (by show b - (j + 1) < b - j; omega))
                    exact ⟨rfl, rfl, rfl, rfl, rfl, by simp [look], trivial⟩
                · have hjb := hjb
                  simp only [decide_eq_false_iff_not] at hjb
                  refine X.exit C.1 rfl <| X.weaken ?_ (heu (j, d4) ⟨g3, by rw [← g4, shU_stop (.inl (by omega))]⟩)
                  exact ⟨rfl, rfl, rfl, rfl, rfl, rfl, trivial⟩
            · have hu := hu
              simp only [decide_eq_false_iff_not] at hu
              refine X.skip C.1 <| X.inBlock C.1 <| X.region C rfl rfl <| Rm C rfl rfl <| R.int C rfl rfl rfl rfl (b_add (by omega) (by omega)) <| Ad C rfl rfl <| X.weaken ?_ (hnext (k + 1, i, (swp d2 i (i - 1))) ⟨by show k + 1 ≤ 5; omega, by show a + 1 ≤ i; omega, by show i ≤ b; omega, ?_, ?_⟩ (by show 5 - (k + 1) < 5 - k; omega))
              · exact ⟨rfl, rfl, rfl, rfl, by simp [look], trivial⟩
              · show ((swp d2 i (i - 1))).size = d.size; first | assumption | (rw [swp_sz]; assumption)
              · show partialIns ltInt a b (5 - (k + 1)) i (swp d2 i (i - 1)) = _
                rw [← hp5]; rw [fixDown, if_neg (by omega)]; rw [fixUp, if_neg (by omega)]
    · obtain ⟨hia, hib, hic⟩ := h
      refine Xs C <| Xs C <| Xd C fun hok => Dm C 0 hok rfl rfl rfl <| Dm C 1 hok rfl rfl rfl <| Di C 2 hok rfl rfl rfl rfl rfl b_lss <| Dm C 3 hok rfl rfl rfl <| D.fix (t := 20) rfl (fun hg => ?_) (fun hg => ?_)
      · have hg := hg
        simp only [decide_eq_true_eq] at hg
        refine Dm C 4 hok rfl rfl rfl <| Dm C 5 hok rfl rfl rfl <| Dx C 6 hok rfl rfl rfl runUnderlying28 sizeOf3 <| D1 C 7 hok rfl rfl isAgg3 (by repeat (first | exact Mh | apply Mt)) (vals_at (k := i) (by omega) (by omega)) <| Dm C 8 hok rfl rfl rfl <| Dm C 9 hok rfl rfl rfl <| Di C 10 hok rfl rfl rfl rfl rfl (b_sub (by omega) (by omega)) <| Dx C 11 hok rfl rfl rfl runUnderlying28 sizeOf3 <| D1 C 12 hok rfl rfl isAgg3 (by repeat (first | exact Mh | apply Mt)) (vals_at (k := i - 1) (by omega) (by omega)) <| De 13 (some 30) [false, false] hok (fun σr rest A hk => ?_)
        refine R.callP C rfl (A.w rfl rfl) (A.x rfl rfl) (A.s rfl rfl) (less_c hJ _ _ _) (hk _ _ ⟨QFs.nil, ?_⟩)
        refine Dp 14 hok (fun _ _ _ A h => R.not C rfl (A.w rfl rfl) (A.x rfl rfl) h) <| Dp 15 hok (fun _ _ _ A h => R.pickT C rfl (A.w rfl rfl) (A.x rfl rfl) (A.x rfl rfl) h) <| D.done C hok (by kernel_rfl) <| X.cond C.1 rfl (fun hl => ?_) (fun hl => ?_)
        · have hl := hl
          refine X.skip C.1 <| X.block C.1 <| X.region C rfl rfl <| Rm C rfl rfl <| R.int C rfl rfl rfl rfl (b_add (by omega) (by omega)) <| Ad C rfl rfl <| X.inBlock C.1 <| X.weaken ?_ (hns (i + 1) ⟨by omega, by omega, (scanS_go (by omega) hl).symm.trans hic⟩ (by omega))
          exact ⟨rfl, rfl, rfl, by simp [look], rfl, trivial⟩
        · have hl := hl
          refine X.exit C.1 rfl <| X.weaken ?_ (hes i ⟨by omega, by omega, (scanS_stop (.inr hl)).symm.trans hic⟩)
          exact ⟨rfl, rfl, rfl, rfl, rfl, trivial⟩
      · have hg := hg
        simp only [decide_eq_false_iff_not] at hg
        refine Du C 4 hok rfl <| Du C 5 hok rfl <| Du C 6 hok rfl <| Du C 7 hok rfl <| Du C 8 hok rfl <| Du C 9 hok rfl <| Du C 10 hok rfl <| Du C 11 hok rfl <| Du C 12 hok rfl <| Du C 13 hok rfl <| Du C 14 hok rfl <| Dp 15 hok (fun _ _ _ A h => R.pickF C rfl (A.w rfl rfl) (A.x rfl rfl) (A.x rfl rfl) h) <| D.done C hok (by kernel_rfl) <| X.cond C.1 rfl (fun h => nomatch h) (fun _ => ?_)
        refine X.exit C.1 rfl <| X.weaken ?_ (hes i ⟨by omega, by omega, (scanS_stop (.inl (by omega))).symm.trans hic⟩)
        exact ⟨rfl, rfl, rfl, rfl, rfl, trivial⟩
  · have hk5 := hk5
    simp only [decide_eq_false_iff_not] at hk5
    obtain rfl : k = 5 := by omega
    simp only [Nat.sub_self, partialIns] at hp5
    rw [← hp5] at hret
    refine X.exit C.1 rfl <| Xr C rfl rfl <| Ad C rfl rfl <| X.ret C rfl rfl func189 rfl (by exact .tmp rfl .nil) ?_
    exact hret _ _ rfl rfl
end Go.Lg.B
namespace Go.Lg
open Go Go.Conc
section
variable {P : Program} {main : Bool} {J : Goroutine → Mem → Prop} {b : Frame} (C : Ctx P main J b) {cs : List Frame} {n : Nat} {ds : List Deferred} {σ : Slots} {k : List Item} {ops : Array Oper} {i : Nat} {rest : List Nat}
  {d : Nat} {ty : TypeId} {pos : String} {af : Array Edge} {g : Option (Nat × Bool)}
include C
theorem R.indexStr {t : TypeId} {x y : Operand} {ik : IntKind} {z : Int} {s : ByteArray} {v : UInt8} {M : Mem} (ho : ops[i]? = some ⟨some d, .index t x y, ty, pos, af, g⟩) (hg : wantedS ops σ ⟨some d, .index t x y, ty, pos, af, g⟩ = some true) (hx : ev σ x = some (.string s))
    (hy : ev σ y = some (.int ik z)) (hu : ∀ w, Sem.run P (Go.underlying t) w = .ok .string w) (h0 : 0 ≤ z) (hv : s[z.toNat]? = some v)
    (h : R J b cs n ops rest k ds ((d, .int .u8 (v.toNat : Int)) :: σ) M) : R J b cs n ops (i :: rest) k ds σ M :=
  R.v C ho hg rfl (fun _ hh _ hk => by
    unfold execOp; simp only [hh.ev hx, hh.ev hy]
    refine ex_v ?_
    show Sm P M (Instr.index t (.string s) (.int ik z)) _
    unfold Instr.index
    refine Sm.bind (Sm.pure (Sm.bind (Sm.underlying hu ?_)))
    simp only [h0, if_true, hv]
    exact Sm.pure hk) h
end
end Go.Lg
namespace Go.Lg.B
open Go Go.Conc Go.Lg Go.Proofs Go.Proofs.Tryz
open Go.Sort (ltInt swp bitsLen bitsLen_le_iff xorNextN xorNext breakStep breakPatterns)
def lenTab : ByteArray := ⟨#[0, 1, 2, 2, 3, 3, 3, 3, 4, 4, 4, 4, 4, 4, 4, 4, 5, 5, 5, 5, 5, 5, 5, 5, 5, 5, 5, 5, 5, 5, 5, 5, 6, 6, 6, 6, 6, 6, 6, 6, 6, 6, 6, 6, 6, 6, 6, 6, 6, 6, 6, 6, 6, 6, 6, 6, 6, 6, 6, 6, 6, 6, 6, 6, 7, 7, 7, 7, 7, 7, 7, 7, 7, 7, 7, 7, 7, 7, 7, 7, 7, 7, 7, 7, 7, 7, 7, 7, 7, 7, 7, 7, 7, 7, 7, 7, 7, 7, 7, 7, 7, 7, 7, 7, 7, 7, 7, 7, 7, 7, 7, 7, 7, 7, 7, 7, 7, 7, 7, 7, 7, 7, 7, 7, 7, 7, 7, 7, 8, 8, 8, 8, 8, 8, 8, 8, 8, 8, 8, 8, 8, 8, 8, 8, 8, 8, 8, 8, 8, 8, 8, 8, 8, 8, 8, 8, 8, 8, 8, 8, 8, 8, 8, 8, 8, 8, 8, 8, 8, 8, 8, 8, 8, 8, 8, 8, 8, 8, 8, 8, 8, 8, 8, 8, 8, 8, 8, 8, 8, 8, 8, 8, 8, 8, 8, 8, 8, 8, 8, 8, 8, 8, 8, 8, 8, 8, 8, 8, 8, 8, 8, 8, 8, 8, 8, 8, 8, 8, 8, 8, 8, 8, 8, 8, 8, 8, 8, 8, 8, 8, 8, 8, 8, 8, 8, 8, 8, 8, 8, 8, 8, 8, 8, 8, 8, 8, 8, 8, 8, 8, 8, 8, 8, 8, 8, 8]⟩
def bl (y : Nat) : Nat := if y = 0 then 0 else if y < 2 then 1 else if y < 4 then 2 else if y < 8 then 3 else if y < 16 then 4 else if y < 32 then 5 else if y < 64 then 6 else if y < 128 then 7 else 8
theorem tab_all : ((List.range 256).all fun y => lenTab[y]? == some (UInt8.ofNat (bl y))) = true := by kernel_rfl
theorem bl_eq {y : Nat} (h : y < 256) : bitsLen y = bl y := by
  have h0 := bitsLen_le_iff y 0
  have h1 := bitsLen_le_iff y 1
  have h2 := bitsLen_le_iff y 2
  have h3 := bitsLen_le_iff y 3
  have h4 := bitsLen_le_iff y 4
  have h5 := bitsLen_le_iff y 5
  have h6 := bitsLen_le_iff y 6
  have h7 := bitsLen_le_iff y 7
  have h8 := bitsLen_le_iff y 8
  simp only [Nat.reducePow] at h0 h1 h2 h3 h4 h5 h6 h7 h8
  unfold bl
  split
  · omega
  · split
    · omega
    · split
      · omega
      · split
        · omega
        · split
          · omega
          · split
            · omega
            · split
              · omega
              · split <;> omega
theorem bl_le (y : Nat) : bl y ≤ 8 := by
  unfold bl
  repeat' split
  all_goals omega
theorem tab_at {z : Int} {y : Nat} (hz : z = (y : Int)) (h : y < 256) : lenTab[z.toNat]? = some (UInt8.ofNat (bitsLen y)) := by
  subst hz
  have := List.all_eq_true.1 tab_all y (List.mem_range.2 h)
  rw [bl_eq h, Int.toNat_natCast]
  simpa using this
theorem tab_val {y : Nat} (h : y < 256) : ((UInt8.ofNat (bitsLen y)).toNat : Int) = (bitsLen y : Int) := by
  have h1 := bl_le y
  rw [bl_eq h, UInt8.toNat_ofNat']
  omega
theorem bitsLen_shift {x k : Nat} (h : 2 ^ k ≤ x) : bitsLen x = bitsLen (x / 2 ^ k) + k := by
  have hp := Nat.two_pow_pos k
  have key : ∀ m, bitsLen x ≤ m + k ↔ bitsLen (x / 2 ^ k) ≤ m := fun m => by
    rw [bitsLen_le_iff, bitsLen_le_iff, Nat.div_lt_iff_lt_mul hp, Nat.pow_add]
  have h1 := (key (bitsLen (x / 2 ^ k))).2 (Nat.le_refl _)
  have h2 : k < bitsLen x := by
    refine Nat.lt_of_not_le fun h3 => ?_
    have := (bitsLen_le_iff x k).1 h3
    omega
  have h3 := (key (bitsLen x - k)).1 (by omega)
  omega
theorem b_xorU {P : Program} {t : TypeId} {x y : Nat} (hx : x < 18446744073709551616) (hy : y < 18446744073709551616) : ∀ M K, K (.int .u64 ((x ^^^ y : Nat) : Int)) M → Sm P M (binOp .xor t (.int .u64 (x : Int)) (.int .u64 (y : Int))) K := fun M K h => by
  rw [← bits_xor_u64_nat x y hx hy] at h
  unfold binOp; simp only [ne_eq, not_true_eq_false, if_false]
  exact (Sm.pure h : Sm P M (Pure.pure (.int .u64 (bits .xor .u64 (x : Int) (y : Int))) : Sem Value) K)
theorem b_andN {P : Program} {t : TypeId} {x y : Nat} (hx : x < 18446744073709551616) (hy : y < 18446744073709551616) : ∀ M K, K (.int .u64 ((x &&& y : Nat) : Int)) M → Sm P M (binOp .and t (.int .u64 (x : Int)) (.int .u64 (y : Int))) K := fun M K h => by
  rw [← bits_and_u64_nat x y hx hy] at h
  unfold binOp; simp only [ne_eq, not_true_eq_false, if_false]
  exact (Sm.pure h : Sm P M (Pure.pure (.int .u64 (bits .and .u64 (x : Int) (y : Int))) : Sem Value) K)
theorem b_shlU {P : Program} {t : TypeId} {k' : IntKind} {x n : Nat} (hn : n ≤ 63) : ∀ M K, K (.int .u64 ((x * 2 ^ n % 18446744073709551616 : Nat) : Int)) M → Sm P M (binOp .shl t (.int .u64 (x : Int)) (.int k' (n : Int))) K := fun M K h => by
  have e : min (n : Int).toNat IntKind.u64.bits = n := by simp only [IntKind.bits, Int.toNat_natCast]; omega
  have e2 : IntKind.u64.wrap ((x : Int) * 2 ^ n) = ((x * 2 ^ n % 18446744073709551616 : Nat) : Int) := by
    rw [IntKind.wrap_u64, Int.natCast_emod, Int.natCast_mul, Int.natCast_pow]; rfl
  rw [← e2] at h
  unfold binOp Op.shift; simp only [Int.not_lt.2 (Int.natCast_nonneg n), if_false, e]; exact Sm.pure h
def stAt (a len modulus idx : Nat) (s : UInt64 × Array Int) : Nat → UInt64 × Array Int
  | 0 => s
  | k + 1 => breakStep a len modulus (stAt a len modulus idx s k) (idx + k)
theorem stAt_size {a len modulus idx : Nat} {s : UInt64 × Array Int} : ∀ k, (stAt a len modulus idx s k).2.size = s.2.size
  | 0 => rfl
  | k + 1 => by simp only [stAt, breakStep]; rw [swp_sz]; exact stAt_size k
theorem b_subU {P : Program} {t : TypeId} {x y : Int} (h0 : 0 ≤ x - y) (h1 : x - y ≤ 18446744073709551615) : ∀ M K, K (.int .u64 (x - y)) M → Sm P M (binOp .sub t (.int .u64 x) (.int .u64 y)) K := fun M K h => by
  unfold binOp; simp only [ne_eq, not_true_eq_false, if_false, Op.intArith, IntWalk.u64_in _ ⟨h0, h1⟩]; exact Sm.pure h
theorem wrap_u8 {y : Nat} (h : y < 256) : IntKind.u8.wrap (y : Int) = (y : Int) := by rw [IntKind.wrap_u8]; omega
variable {main : Bool} {J : Goroutine → Mem → Prop} (hJ : Closed prog main J)
include hJ
theorem len64_c {x : Nat} (hx : x ≤ 1000000000) (ro : RO) : CallP prog J (fnv 194) [.int .u64 (x : Int)] ro (.int .i64 (bitsLen x : Int)) := by
  have h30 : bitsLen x ≤ 30 := (bitsLen_le_iff x 30).2 (by omega)
  refine CallP.intro hJ (by kernel_rfl) fun c cs tail hret => enter_X (n := 25) func194 rfl rfl (Nl rfl) ?_
  have C : Ctx prog main J (bf 194 .normal) := ⟨hJ, by decide⟩
  refine Xr C rfl rfl <| Ad C rfl rfl <| Xs C <| Xr C rfl rfl <| Rm C rfl rfl <| R.int C rfl rfl rfl rfl b_geq <| R.done C <| X.cond C.1 rfl (fun q0 => ?_) (fun q0 => ?_)
  · have q0 := q0
    simp only [decide_eq_true_eq] at q0; omega
  · have q0 := q0
    refine X.skip C.1 <| Xs C <| Xr C rfl rfl <| Rm C rfl rfl <| R.int C rfl rfl rfl rfl b_geq <| R.done C <| X.cond C.1 rfl (fun q1 => ?_) (fun q1 => ?_)
    · have q1 := q1
      simp only [decide_eq_true_eq] at q1
      have e1 := bitsLen_shift (x := x) (k := 16) (by omega)
      have e1 : bitsLen x = bitsLen (x / 65536) + 16 := e1
      refine Xr C rfl rfl <| Rm C rfl rfl <| R.shift C rfl rfl rfl rfl (b_shr (by decide) (by decide) (by omega)) <| R.fixv (t := 10) (v' := .int .u64 ((x / 65536 : Nat) : Int)) rfl (by first | rfl | (congr 1; done) | (congr 1; omega)) <| Ad C rfl rfl <| X.region C rfl rfl <| Rm C rfl rfl <| R.int C rfl rfl rfl rfl (b_add (by omega) (by omega)) <| Ad C rfl rfl <| Xs C <| Xr C rfl rfl <| Rm C rfl rfl <| R.int C rfl rfl rfl rfl b_geq <| R.done C <| X.cond C.1 rfl (fun q2 => ?_) (fun q2 => ?_)
      · have q2 := q2
        simp only [decide_eq_true_eq] at q2
        have e2 := bitsLen_shift (x := (x / 65536)) (k := 8) (by omega)
        have hz2 : (x / 65536) / 2 ^ 8 = (x / 65536) / 256 := rfl
        rw [hz2] at e2
        have hzl : (x / 65536) / 256 < 256 := by omega
        have hzb : bitsLen ((x / 65536) / 256) ≤ 8 := (bitsLen_le_iff _ 8).2 hzl
        refine Xr C rfl rfl <| Rm C rfl rfl <| R.shift C rfl rfl rfl rfl (b_shr (by decide) (by decide) (by omega)) <| R.fixv (t := 16) (v' := .int .u64 ((((x / 65536)) / 256 : Nat) : Int)) rfl (by first | rfl | (congr 1; done) | (congr 1; omega)) <| Ad C rfl rfl <| X.region C rfl rfl <| Rm C rfl rfl <| R.int C rfl rfl rfl rfl (b_add (by omega) (by omega)) <| Ad C rfl rfl <| Xr C rfl rfl <| Rm C rfl rfl <| Rm C rfl rfl <| R.convInt C rfl rfl rfl runUnderlying196 runUnderlying5 (wrap_u8 (by omega)) <| R.indexStr C rfl rfl rfl rfl runUnderlying9 (by omega) (tab_at rfl hzl) <| R.fixv (t := 22) (v' := .int .u8 ((bitsLen ((x / 65536) / 256) : Nat) : Int)) rfl (by exact congrArg (Value.int .u8) (tab_val hzl)) <| R.convInt C rfl rfl rfl runUnderlying5 runUnderlying3 (wrap64 (by omega) (by omega)) <| R.int C rfl rfl rfl rfl (b_add (by omega) (by omega)) <| Ad C rfl rfl <| Xt C func194 <| Hp hret ?_
        simp only [retVal]; congr 1; omega
      · have q2 := q2
        simp only [decide_eq_false_iff_not] at q2
        have hzl : (x / 65536) < 256 := by omega
        have hzb : bitsLen (x / 65536) ≤ 8 := (bitsLen_le_iff _ 8).2 hzl
        refine X.skip C.1 <| Xr C rfl rfl <| Rm C rfl rfl <| Rm C rfl rfl <| R.convInt C rfl rfl rfl runUnderlying196 runUnderlying5 (wrap_u8 (by omega)) <| R.indexStr C rfl rfl rfl rfl runUnderlying9 (by omega) (tab_at rfl hzl) <| R.fixv (t := 22) (v' := .int .u8 ((bitsLen ((x / 65536)) : Nat) : Int)) rfl (by exact congrArg (Value.int .u8) (tab_val hzl)) <| R.convInt C rfl rfl rfl runUnderlying5 runUnderlying3 (wrap64 (by omega) (by omega)) <| R.int C rfl rfl rfl rfl (b_add (by omega) (by omega)) <| Ad C rfl rfl <| Xt C func194 <| Hp hret ?_
        simp only [retVal]; congr 1; omega
    · have q1 := q1
      simp only [decide_eq_false_iff_not] at q1
      have hy : x < 65536 := by omega
      refine X.skip C.1 <| Xs C <| Xr C rfl rfl <| Rm C rfl rfl <| R.int C rfl rfl rfl rfl b_geq <| R.done C <| X.cond C.1 rfl (fun q2 => ?_) (fun q2 => ?_)
      · have q2 := q2
        simp only [decide_eq_true_eq] at q2
        have e2 := bitsLen_shift (x := x) (k := 8) (by omega)
        have hz2 : x / 2 ^ 8 = x / 256 := rfl
        rw [hz2] at e2
        have hzl : x / 256 < 256 := by omega
        have hzb : bitsLen (x / 256) ≤ 8 := (bitsLen_le_iff _ 8).2 hzl
        refine Xr C rfl rfl <| Rm C rfl rfl <| R.shift C rfl rfl rfl rfl (b_shr (by decide) (by decide) (by omega)) <| R.fixv (t := 16) (v' := .int .u64 (((x) / 256 : Nat) : Int)) rfl (by first | rfl | (congr 1; done) | (congr 1; omega)) <| Ad C rfl rfl <| X.region C rfl rfl <| Rm C rfl rfl <| R.int C rfl rfl rfl rfl (b_add (by omega) (by omega)) <| Ad C rfl rfl <| Xr C rfl rfl <| Rm C rfl rfl <| Rm C rfl rfl <| R.convInt C rfl rfl rfl runUnderlying196 runUnderlying5 (wrap_u8 (by omega)) <| R.indexStr C rfl rfl rfl rfl runUnderlying9 (by omega) (tab_at rfl hzl) <| R.fixv (t := 22) (v' := .int .u8 ((bitsLen (x / 256) : Nat) : Int)) rfl (by exact congrArg (Value.int .u8) (tab_val hzl)) <| R.convInt C rfl rfl rfl runUnderlying5 runUnderlying3 (wrap64 (by omega) (by omega)) <| R.int C rfl rfl rfl rfl (b_add (by omega) (by omega)) <| Ad C rfl rfl <| Xt C func194 <| Hp hret ?_
        simp only [retVal]; congr 1; omega
      · have q2 := q2
        simp only [decide_eq_false_iff_not] at q2
        have hzl : x < 256 := by omega
        have hzb : bitsLen x ≤ 8 := (bitsLen_le_iff _ 8).2 hzl
        refine X.skip C.1 <| Xr C rfl rfl <| Rm C rfl rfl <| Rm C rfl rfl <| R.convInt C rfl rfl rfl runUnderlying196 runUnderlying5 (wrap_u8 (by omega)) <| R.indexStr C rfl rfl rfl rfl runUnderlying9 (by omega) (tab_at rfl hzl) <| R.fixv (t := 22) (v' := .int .u8 ((bitsLen (x) : Nat) : Int)) rfl (by exact congrArg (Value.int .u8) (tab_val hzl)) <| R.convInt C rfl rfl rfl runUnderlying5 runUnderlying3 (wrap64 (by omega) (by omega)) <| R.int C rfl rfl rfl rfl (b_add (by omega) (by omega)) <| Ad C rfl rfl <| Xt C func194 <| Hp hret ?_
        simp only [retVal]; congr 1; omega
theorem len_c {x : Nat} (hx : x ≤ 1000000000) (ro : RO) : CallP prog J (fnv 159) [.int .u64 (x : Int)] ro (.int .i64 (bitsLen x : Int)) := by
  refine CallP.intro hJ (by kernel_rfl) fun c cs tail hret => enter_X (n := 8) func159 rfl rfl (Nl rfl) ?_
  have C : Ctx prog main J (bf 159 .normal) := ⟨hJ, by decide⟩
  refine Xr C rfl rfl <| Ad C rfl rfl <| Xs C <| X.cond C.1 rfl (fun h => nomatch h) (fun _ => ?_)
  refine X.skip C.1 <| Xr C rfl rfl <| Rm C rfl rfl <| R.callP C rfl rfl rfl rfl (len64_c hJ (by omega) _) <| Ad C rfl rfl <| Xt C func159 <| Hp hret ?_
  rfl
theorem nextPow_c {x : Nat} (hx : x ≤ 1000000000) (ro : RO) : CallP prog J (fnv 232) [.int .i64 (x : Int)] ro (.int .u64 ((2 ^ bitsLen x : Nat) : Int)) := by
  have h30 : bitsLen x ≤ 30 := (bitsLen_le_iff x 30).2 (by omega)
  have hp : 2 ^ bitsLen x ≤ 2 ^ 30 := Nat.pow_le_pow_right (by decide) h30
  have e1 : 1 * 2 ^ bitsLen x % 18446744073709551616 = 2 ^ bitsLen x := by rw [Nat.one_mul]; exact Nat.mod_eq_of_lt (by omega)
  refine CallP.intro hJ (by kernel_rfl) fun c cs tail hret => enter_X (n := 7) func232 rfl rfl (Nl rfl) ?_
  have C : Ctx prog main J (bf 232 .normal) := ⟨hJ, by decide⟩
  refine Xr C rfl rfl <| Ad C rfl rfl <| Xr C rfl rfl <| Rm C rfl rfl <| R.convInt C rfl rfl rfl runUnderlying3 runUnderlying189 (IntWalk.u64_in _ (by omega)) <| R.callP C rfl rfl rfl rfl (len_c hJ (by omega) _) <| R.shift C rfl rfl rfl rfl (b_shlU (x := 1) (by omega)) <| R.fixv (t := 6) (v' := .int .u64 ((2 ^ bitsLen x : Nat) : Int)) rfl (by exact congrArg (fun n : Nat => Value.int .u64 (n : Int)) e1) <| Ad C rfl rfl <| Xt C func232 <| Hp hret ?_
  rfl
theorem xorshift_c {x q : Nat} (hx : x < 18446744073709551616) (ro : RO) : CallV prog J (fnv 233) [.pointer (some ⟨q, 0, none⟩)] ro [(q, .cells [.int .u64 (x : Int)].toArray 292 (0, 0))] fun v ro' pre' => v = .int .u64 (xorNextN x : Int) ∧ ro' = ro ∧ pre' = [(q, .cells [.int .u64 (xorNextN x : Int)].toArray 292 (0, 0))] := by
  refine CallV.intro (first := []) (cap := []) hJ (by kernel_rfl) fun c cs tail hret => ?_
  let J := J
  obtain ⟨xa, hA⟩ : ∃ xa : Nat, xa = x ^^^ (x * 2 ^ 13 % 18446744073709551616) := ⟨_, rfl⟩
  obtain ⟨xb, hB⟩ : ∃ xb : Nat, xb = xa ^^^ (xa / 128) := ⟨_, rfl⟩
  obtain ⟨xe, hE⟩ : ∃ xe : Nat, xe = xb ^^^ (xb * 2 ^ 17 % 18446744073709551616) := ⟨_, rfl⟩
  have lA : xa < 18446744073709551616 := by rw [hA]; exact Nat.xor_lt_two_pow (n := 64) (by omega) (by omega)
  have lB : xb < 18446744073709551616 := by rw [hB]; exact Nat.xor_lt_two_pow (n := 64) (by omega) (by omega)
  have hv : xorNextN x = xe := by rw [hE, hB, hA]; rfl
  rw [hv] at hret
  have vA := congrArg (fun n : Nat => Value.int .u64 (n : Int)) hA.symm
  have vB := congrArg (fun n : Nat => Value.int .u64 (n : Int)) hB.symm
  have vE := congrArg (fun n : Nat => Value.int .u64 (n : Int)) hE.symm
  clear hA hB hE hv
  refine enter_X (n := 33) func233 rfl rfl (Nl rfl) ?_
  have C : Ctx prog main J (bf 233 .normal) := ⟨hJ, by decide⟩
  refine Xr C rfl rfl <| Ad C rfl rfl <| Xs C <| Xd C fun hok => Dm C 0 hok rfl rfl rfl <| Dp 1 hok (fun _ _ _ A h => R.nilCheck C rfl (A.w rfl rfl) (A.x rfl rfl) h) <| D1 C 2 hok rfl rfl isAgg292 (by repeat (first | exact Mh | apply Mt)) rfl <| Dm C 3 hok rfl rfl rfl <| Dp 4 hok (fun _ _ _ A h => R.nilCheck C rfl (A.w rfl rfl) (A.x rfl rfl) h) <| D1 C 5 hok rfl rfl isAgg292 (by repeat (first | exact Mh | apply Mt)) rfl <| Dp 6 hok (fun _ _ _ A h => R.shift C rfl (A.w rfl rfl) (A.x rfl rfl) (A.x rfl rfl) (b_shlU (n := 13) (by decide)) h) <| Di C 7 hok rfl rfl rfl rfl rfl (b_xorU hx (Nat.mod_lt _ (by decide))) <| D.fixv (t := 10) (v' := .int .u64 ((xa : Nat) : Int)) rfl (by exact vA) <| Dp 8 hok (fun _ _ _ A h => R.nilCheck C rfl (A.w rfl rfl) (A.x rfl rfl) h) <| De 9 none [false, false] hok (fun σr rest A hk => ?_)
  refine R.store C rfl (A.w rfl rfl) (A.x rfl rfl) (A.x rfl rfl) sizeOf292 rfl rfl rfl (by repeat (first | exact Uh | apply Ut)) (.here .nil) (hk undef _ ⟨QFs.nil, ?_⟩)
  refine D.done C hok (by kernel_rfl) <| Xs C <| Xd C fun hok => Dm C 0 hok rfl rfl rfl <| Dp 1 hok (fun _ _ _ A h => R.nilCheck C rfl (A.w rfl rfl) (A.x rfl rfl) h) <| D1 C 2 hok rfl rfl isAgg292 (by repeat (first | exact Mh | apply Mt)) rfl <| Dm C 3 hok rfl rfl rfl <| Dp 4 hok (fun _ _ _ A h => R.nilCheck C rfl (A.w rfl rfl) (A.x rfl rfl) h) <| D1 C 5 hok rfl rfl isAgg292 (by repeat (first | exact Mh | apply Mt)) rfl <| Dp 6 hok (fun _ _ _ A h => R.shift C rfl (A.w rfl rfl) (A.x rfl rfl) (A.x rfl rfl) (b_shr (by decide) (by decide) (by omega)) h) <| D.fixv (t := 18) (v' := .int .u64 ((xa / 128 : Nat) : Int)) rfl (by rfl) <| Di C 7 hok rfl rfl rfl rfl rfl (b_xorU lA (by omega)) <| D.fixv (t := 19) (v' := .int .u64 ((xb : Nat) : Int)) rfl (by exact vB) <| Dp 8 hok (fun _ _ _ A h => R.nilCheck C rfl (A.w rfl rfl) (A.x rfl rfl) h) <| De 9 none [false, false] hok (fun σr rest A hk => ?_)
  refine R.store C rfl (A.w rfl rfl) (A.x rfl rfl) (A.x rfl rfl) sizeOf292 rfl rfl rfl (by repeat (first | exact Uh | apply Ut)) (.here .nil) (hk undef _ ⟨QFs.nil, ?_⟩)
  refine D.done C hok (by kernel_rfl) <| Xs C <| Xd C fun hok => Dm C 0 hok rfl rfl rfl <| Dp 1 hok (fun _ _ _ A h => R.nilCheck C rfl (A.w rfl rfl) (A.x rfl rfl) h) <| D1 C 2 hok rfl rfl isAgg292 (by repeat (first | exact Mh | apply Mt)) rfl <| Dm C 3 hok rfl rfl rfl <| Dp 4 hok (fun _ _ _ A h => R.nilCheck C rfl (A.w rfl rfl) (A.x rfl rfl) h) <| D1 C 5 hok rfl rfl isAgg292 (by repeat (first | exact Mh | apply Mt)) rfl <| Dp 6 hok (fun _ _ _ A h => R.shift C rfl (A.w rfl rfl) (A.x rfl rfl) (A.x rfl rfl) (b_shlU (n := 17) (by decide)) h) <| Di C 7 hok rfl rfl rfl rfl rfl (b_xorU lB (Nat.mod_lt _ (by decide))) <| D.fixv (t := 28) (v' := .int .u64 ((xe : Nat) : Int)) rfl (by exact vE) <| Dp 8 hok (fun _ _ _ A h => R.nilCheck C rfl (A.w rfl rfl) (A.x rfl rfl) h) <| De 9 none [false, false] hok (fun σr rest A hk => ?_)
  refine R.store C rfl (A.w rfl rfl) (A.x rfl rfl) (A.x rfl rfl) sizeOf292 rfl rfl rfl (by repeat (first | exact Uh | apply Ut)) (.here .nil) (hk undef _ ⟨QFs.nil, ?_⟩)
  refine D.done C hok (by kernel_rfl) <| Xr C rfl rfl <| Rm C rfl rfl <| R.nilCheck C rfl rfl rfl <| R.loadOne C rfl rfl rfl isAgg292 (by repeat (first | exact Mh | apply Mt)) rfl <| Ad C rfl rfl <| X.ret C rfl rfl func233 rfl (by exact .tmp rfl .nil) ?_
  exact hret _ _ [_] _ (RO.le_refl _) ⟨rfl, rfl, rfl⟩ (.refl _)
theorem breakPatterns_c {p : Nat} {sp : List Value} {d : Array Int} {cap a b : Nat} {ro : RO} (hn : d.size ≤ 1000000000) (hab : a ≤ b) (hb : b ≤ d.size) : CallS J 186 p sp d cap [.int .i64 (a : Int), .int .i64 (b : Int)] ro (.tuple #[]) (breakPatterns d a b) := by
  refine CallS.intro hJ (by kernel_rfl) fun c cs tail hret => ?_
  let J := J
  refine enter_X (n := 65) func186 rfl rfl (Nl rfl) ?_
  have C : Ctx prog main J (bf 186 .normal) := ⟨hJ, by decide⟩
  refine Xr C rfl rfl <| Rm C rfl rfl <| Rm C rfl rfl <| R.int C rfl rfl rfl rfl (b_sub (by omega) (by omega)) <| R.fixv (t := 13) (v' := .int .i64 ((b - a : Nat) : Int)) rfl (by (congr 1; omega)) <| Ad C rfl rfl <| Xr C rfl rfl <| Rm C rfl rfl <| R.int C rfl rfl rfl rfl b_geq <| R.done C <| X.cond C.1 rfl (fun h8 => ?_) (fun h8 => ?_)
  · have h8 := h8
    simp only [decide_eq_true_eq] at h8
    obtain ⟨len, hlen⟩ : ∃ len, len = b - a := ⟨_, rfl⟩
    obtain ⟨idx, hidx⟩ : ∃ idx, idx = a + len / 4 * 2 - 1 := ⟨_, rfl⟩
    obtain ⟨md, hmd⟩ : ∃ md, md = 2 ^ bitsLen len := ⟨_, rfl⟩
    have hmd2 : md ≤ 2 * len := by rw [hmd]; exact Go.Sort.two_pow_bitsLen_le (by omega)
    have hmd1 : 1 ≤ md := by rw [hmd]; exact Nat.two_pow_pos _
    have hdef : breakPatterns d a b = (stAt a len md idx (UInt64.ofNat len, d) 3).2 := by
      rw [hmd, hidx, hlen]
      unfold breakPatterns
      simp only [stAt]
      rw [if_pos (by omega), Nat.one_shiftLeft]
      rfl
    rw [hdef] at hret
    rw [← hlen]
    refine Xr C rfl rfl <| Rm C rfl rfl <| R.convInt C rfl rfl rfl runUnderlying3 runUnderlying292 (IntWalk.u64_in _ (by omega)) <| R.alloc C rfl rfl zeroValue292 rfl fun p7 => R.store C rfl rfl rfl rfl sizeOf292 rfl rfl rfl (by repeat (first | exact Uh | apply Ut)) (.here .nil) <| R.done C <| Xr C rfl rfl <| Rm C rfl rfl <| R.callP C rfl rfl rfl rfl (nextPow_c hJ (by omega) _) <| R.fixv (t := 19) (v' := .int .u64 ((md : Nat) : Int)) rfl (by rw [hmd]) <| Ad C rfl rfl <| Xr C rfl rfl <| Rm C rfl rfl <| Rm C rfl rfl <| R.int C rfl rfl rfl rfl (b_quoP (by omega) (by omega) (by decide)) <| R.int C rfl rfl rfl rfl (b_mul (by omega) (by omega)) <| R.int C rfl rfl rfl rfl (b_add (by omega) (by omega)) <| R.int C rfl rfl rfl rfl (b_sub (by omega) (by omega)) <| R.fixv (t := 25) (v' := .int .i64 ((idx : Nat) : Int)) rfl (by (congr 1; omega)) <| Ad C rfl rfl <| X.block C.1 ?_
    have hs0 : ((UInt64.ofNat len).toNat : Int) = (len : Int) := by rw [UInt64.toNat_ofNat']; omega
    refine X.loopI (ι := Nat) C.1 (fun k => k ≤ 3) (fun k => [(0, .slice (some ⟨p, 0, none⟩) d.size cap), (1, .int .i64 (a : Int)), (6, .int .i64 (len : Int)), (7, .pointer (some ⟨p7, 0, none⟩)), (8, .int .u64 (md : Int)), (9, .int .i64 ((idx + k : Nat) : Int))])
      (fun k => ⟨ro, (p7, .cells [.int .u64 ((stAt a len md idx (UInt64.ofNat len, d) k).1.toNat : Int)].toArray 292 (0, 0)) :: (p, .cells (vals (stAt a len md idx (UInt64.ofNat len, d) k).2 ++ sp).toArray 3 (0, 0)) :: tail⟩) (fun k => 3 - k) 0 (by decide) (by simp only [stAt, hs0]) ⟨rfl, rfl, rfl, rfl, rfl, rfl, trivial⟩ fun k hk hnext => ?_
    have hgo := hnext (k + 1)
    have hsz := stAt_size (a := a) (len := len) (modulus := md) (idx := idx) (s := (UInt64.ofNat len, d)) k
    simp only at hgo hsz
    rw [stAt, breakStep] at hgo
    generalize hst : stAt a len md idx (UInt64.ofNat len, d) k = st at hgo hsz ⊢
    simp only [Go.Sort.xorNext_toNat] at hgo
    have hrlt := Go.Sort.xorNextN_lt st.1.toNat st.1.toNat_lt
    have hcall := xorshift_c hJ (x := st.1.toNat) (q := p7) st.1.toNat_lt ro
    generalize xorNextN st.1.toNat = rr at hgo hrlt hcall
    have hov : rr &&& (md - 1) ≤ md - 1 := Nat.and_le_right
    refine Xs C <| Xr C rfl rfl <| Rm C rfl rfl <| Rm C rfl rfl <| Rm C rfl rfl <| R.int C rfl rfl rfl rfl (b_quoP (by omega) (by omega) (by decide)) <| R.int C rfl rfl rfl rfl (b_mul (by omega) (by omega)) <| R.int C rfl rfl rfl rfl (b_add (by omega) (by omega)) <| R.int C rfl rfl rfl rfl (b_add (by omega) (by omega)) <| R.int C rfl rfl rfl rfl b_leq <| R.done C <| X.cond C.1 rfl (fun hk2 => ?_) (fun hk2 => ?_)
    · have hk2 := hk2
      simp only [decide_eq_true_eq] at hk2
      refine X.skip C.1 <| Xs C <| X.block C.1 <| Xr C rfl rfl <| R.call C rfl rfl rfl rfl rfl hcall fun v1 ro1 pre1 hle1 hp1 => ?_
      obtain ⟨rfl, rfl, rfl⟩ := hp1
      obtain ⟨o0, ho0⟩ : ∃ o0, o0 = rr &&& (md - 1) := ⟨_, rfl⟩
      rw [← ho0] at hgo hov
      refine Rm C rfl rfl <| R.int C rfl rfl rfl rfl (b_subU (by omega) (by omega)) <| R.fixv (t := 38) (v' := .int .u64 ((md - 1 : Nat) : Int)) rfl (by (congr 1; omega)) <| R.int C rfl rfl rfl rfl (b_andN hrlt (by omega)) <| R.fixv (t := 39) (v' := .int .u64 ((o0 : Nat) : Int)) rfl (by rw [ho0]) <| R.convInt C rfl rfl rfl runUnderlying189 runUnderlying3 (wrap64 (by omega) (by omega)) <| Ad C rfl rfl <| Xs C <| Xr C rfl rfl <| Rm C rfl rfl <| Rm C rfl rfl <| R.int C rfl rfl rfl rfl b_geq <| R.done C <| X.cond C.1 rfl (fun hge => ?_) (fun hge => ?_)
      · have hge := hge
        simp only [decide_eq_true_eq] at hge
        rw [if_pos (by omega)] at hgo
        refine X.region C rfl rfl <| Rm C rfl rfl <| Rm C rfl rfl <| R.int C rfl rfl rfl rfl (b_sub (by omega) (by omega)) <| Ad C rfl rfl <| Xd C fun hok => Dm C 0 hok rfl rfl rfl <| Dm C 1 hok rfl rfl rfl <| Dm C 2 hok rfl rfl rfl <| Dm C 3 hok rfl rfl rfl <| Dm C 4 hok rfl rfl rfl <| Di C 5 hok rfl rfl rfl rfl rfl (b_add (by omega) (by omega)) <| Dm C 6 hok rfl rfl rfl <| Dm C 7 hok rfl rfl rfl <| Dm C 8 hok rfl rfl rfl <| Di C 9 hok rfl rfl rfl rfl rfl (b_add (by omega) (by omega)) <| Dx C 10 hok rfl rfl rfl runUnderlying28 sizeOf3 <| D1 C 11 hok rfl rfl isAgg3 (by repeat (first | exact Mh | apply Mt)) (vals_at (k := a + (o0 - len)) (by omega) (by omega)) <| Dm C 12 hok rfl rfl rfl <| Dm C 13 hok rfl rfl rfl <| Dx C 14 hok rfl rfl rfl runUnderlying28 sizeOf3 <| D1 C 15 hok rfl rfl isAgg3 (by repeat (first | exact Mh | apply Mt)) (vals_at (k := idx + k) (by omega) (by omega)) <| Dx C 16 hok rfl rfl rfl runUnderlying28 sizeOf3 <| De 17 none [false, false] hok (fun σr rest A hk => ?_)
        refine R.store C rfl (A.w rfl rfl) (A.x rfl rfl) (A.x rfl rfl) sizeOf3 rfl rfl rfl (by repeat (first | exact Uh | apply Ut)) (vals_put (k := idx + k) (by omega) (by omega)) (hk undef _ ⟨QFs.nil, ?_⟩)
        refine Dx C 18 hok rfl rfl rfl runUnderlying28 sizeOf3 <| De 19 none [] hok (fun σr rest A hk => ?_)
        refine R.store C rfl (A.w rfl rfl) (A.x rfl rfl) (A.x rfl rfl) sizeOf3 rfl rfl rfl (by repeat (first | exact Uh | apply Ut)) (vals_put (k := a + (o0 - len)) (by omega) (by simp; omega)) (hk undef _ ⟨QFs.nil, ?_⟩)
        refine D.done C hok (by kernel_rfl) <| X.inBlock C.1 <| X.region C rfl rfl <| Rm C rfl rfl <| R.int C rfl rfl rfl rfl (b_add (by omega) (by omega)) <| Ad C rfl rfl <| X.weaken ?_ (hgo (by omega) (by omega))
        exact ⟨rfl, rfl, rfl, rfl, rfl, congrArg (fun z => some (Value.int .i64 z)) (by omega), trivial⟩
      · have hge := hge
        simp only [decide_eq_false_iff_not] at hge
        rw [if_neg (by omega)] at hgo
        refine X.skip C.1 <| Xd C fun hok => Dm C 0 hok rfl rfl rfl <| Dm C 1 hok rfl rfl rfl <| Dm C 2 hok rfl rfl rfl <| Dm C 3 hok rfl rfl rfl <| Dm C 4 hok rfl rfl rfl <| Di C 5 hok rfl rfl rfl rfl rfl (b_add (by omega) (by omega)) <| Dm C 6 hok rfl rfl rfl <| Dm C 7 hok rfl rfl rfl <| Dm C 8 hok rfl rfl rfl <| Di C 9 hok rfl rfl rfl rfl rfl (b_add (by omega) (by omega)) <| Dx C 10 hok rfl rfl rfl runUnderlying28 sizeOf3 <| D1 C 11 hok rfl rfl isAgg3 (by repeat (first | exact Mh | apply Mt)) (vals_at (k := a + (o0)) (by omega) (by omega)) <| Dm C 12 hok rfl rfl rfl <| Dm C 13 hok rfl rfl rfl <| Dx C 14 hok rfl rfl rfl runUnderlying28 sizeOf3 <| D1 C 15 hok rfl rfl isAgg3 (by repeat (first | exact Mh | apply Mt)) (vals_at (k := idx + k) (by omega) (by omega)) <| Dx C 16 hok rfl rfl rfl runUnderlying28 sizeOf3 <| De 17 none [false, false] hok (fun σr rest A hk => ?_)
        refine R.store C rfl (A.w rfl rfl) (A.x rfl rfl) (A.x rfl rfl) sizeOf3 rfl rfl rfl (by repeat (first | exact Uh | apply Ut)) (vals_put (k := idx + k) (by omega) (by omega)) (hk undef _ ⟨QFs.nil, ?_⟩)
        refine Dx C 18 hok rfl rfl rfl runUnderlying28 sizeOf3 <| De 19 none [] hok (fun σr rest A hk => ?_)
        refine R.store C rfl (A.w rfl rfl) (A.x rfl rfl) (A.x rfl rfl) sizeOf3 rfl rfl rfl (by repeat (first | exact Uh | apply Ut)) (vals_put (k := a + (o0)) (by omega) (by simp; omega)) (hk undef _ ⟨QFs.nil, ?_⟩)
        refine D.done C hok (by kernel_rfl) <| X.inBlock C.1 <| X.region C rfl rfl <| Rm C rfl rfl <| R.int C rfl rfl rfl rfl (b_add (by omega) (by omega)) <| Ad C rfl rfl <| X.weaken ?_ (hgo (by omega) (by omega))
        exact ⟨rfl, rfl, rfl, rfl, rfl, congrArg (fun z => some (Value.int .i64 z)) (by omega), trivial⟩
    · have hk2 := hk2
      simp only [decide_eq_false_iff_not] at hk2
      obtain rfl : k = 3 := by omega
      refine X.exit C.1 rfl <| X.drop C.1 (own' := _ :: tail) (List.sublist_cons_self _ _) <| X.fall C rfl rfl func186 rfl (by exact .nil) ?_
      exact hret _ _ rfl (by rw [hst])
  · have h8 := h8
    simp only [decide_eq_false_iff_not] at h8
    have hdef : breakPatterns d a b = d := by
      unfold breakPatterns
      simp only
      rw [if_neg (by omega)]
    rw [hdef] at hret
    refine X.skip C.1 <| X.fall C rfl rfl func186 rfl (by exact .nil) ?_
    exact hret _ _ rfl rfl
end Go.Lg.B
namespace Go.Lg.B
open Go Go.Conc Go.Lg Go.Proofs Go.Proofs.Tryz
open Go.Sort (ltInt swp bitsLen SWO pdq pdq_small pdq_heap pdq_done pdq_eq pdq_left pdq_right rd_facts rd_dec rd_not rd_pi_yes rd_pi_no rd_c partitionEqual partition choosePivot Hint)
noncomputable def b158 : Code := Tryz.f158.body.getD .skip
noncomputable def e0 : Code := cB (cB (cB (cR (cR b158))))
noncomputable def e4 : Code := cR (cR (cR (cR e0)))
noncomputable def e6 : Code := cR (cR e4)
noncomputable def e7 : Code := cR e6
noncomputable def lb158 : Code := cB (cB (cR (cR b158)))
def sl158 (p n cap a b l : Nat) (wb wp : Bool) : Slots := [(0, .slice (some ⟨p, 0, none⟩) n cap), (1, .int .i64 (a : Int)), (2, .int .i64 (b : Int)), (3, .int .i64 (l : Int)), (8, .bool wb), (9, .bool wp)]
def Nx158 (J : Goroutine → Mem → Prop) (cs : List Frame) (ro : RO) (tail : List (Nat × Obj)) (p n cap : Nat) (sp : List Value) (m : Nat) (rr : Array Int) : Prop :=
  ∀ (a b l : Nat) (wb wp : Bool) (d : Array Int), a ≤ b → b ≤ n → d.size = n → l ≤ 1000 → Go.Sort.Below ltInt a b d → pdq ltInt d a b l wb wp = rr → b - a < m → X J (bf 158 .normal) cs 134 [.inLoop lb158, .inBlock 0] [] (sl158 p n cap a b l wb wp) ⟨ro, (p, .cells (vals d ++ sp).toArray 3 (0, 0)) :: tail⟩
def Ih158 (J : Goroutine → Mem → Prop) (ro : RO) (p n cap : Nat) (sp : List Value) (m : Nat) : Prop :=
  ∀ (a b l : Nat) (d : Array Int), a ≤ b → b ≤ n → d.size = n → l ≤ 1000 → Go.Sort.Below ltInt a b d → b - a < m →
    CallV prog J (fnv 158) [.slice (some ⟨p, 0, none⟩) n cap, .int .i64 (a : Int), .int .i64 (b : Int), .int .i64 (l : Int)] ro [(p, .cells (vals d ++ sp).toArray 3 (0, 0))] fun v' ro' pre' => v' = .tuple #[] ∧ ro' = ro ∧ pre' = [(p, .cells (vals (pdq ltInt d a b l true true) ++ sp).toArray 3 (0, 0))]
theorem callS_n {J : Goroutine → Mem → Prop} {f : FuncId} {p n : Nat} {sp : List Value} {d d' : Array Int} {cap : Nat} {args : List Value} {ro : RO} {v : Value} (h : CallS J f p sp d cap args ro v d') (hn : d.size = n) :
    CallV prog J (fnv f) (.slice (some ⟨p, 0, none⟩) n cap :: args) ro [(p, .cells (vals d ++ sp).toArray 3 (0, 0))] fun v' ro' pre' => v' = v ∧ ro' = ro ∧ pre' = [(p, .cells (vals d' ++ sp).toArray 3 (0, 0))] := by subst hn; exact h
theorem pdq_sz {d : Array Int} {a b l : Nat} {wb wp : Bool} (hab : a ≤ b) (hb : b ≤ d.size) (hB : Go.Sort.Below ltInt a b d) : Go.Sort.PermIn a b d (pdq ltInt d a b l wb wp) ∧ Go.Sort.SortedIn ltInt a b (pdq ltInt d a b l wb wp) :=
  Go.Sort.pdq_holds Go.Sort.insertionSort_holds Go.Sort.heapSort_holds Go.Sort.partialInsertionSort_holds (Go.Sort.partition_holds _) (Go.Sort.partitionEqual_holds _) Go.Sort.reverseRange_holds Go.Sort.swo_ltInt d a b l wb wp hab hb hB
variable {main : Bool} {J : Goroutine → Mem → Prop} (hJ : Closed prog main J)
include hJ
theorem pdq3 {p n cap a b pv lim m : Nat} {sp : List Value} {d rr : Array Int} {wb wp : Bool} {ro : RO} {cs : List Frame} {tail : List (Nat × Obj)} {σ : Slots} (hn : n ≤ 1000000000) (ha : a < b) (hb : b ≤ n) (hd : d.size = n) (hB : Go.Sort.Below ltInt a b d) (hp1 : a ≤ pv) (hp2 : pv < b) (hlim : lim ≤ 1000) (hm : b - a ≤ m)
    (nx : Nx158 J cs ro tail p n cap sp (b - a) rr) (ih : Ih158 J ro p n cap sp m)
    (h1 : (decide (a > 0) && !ltInt d[a - 1]! d[pv]!) = true → pdq ltInt (partitionEqual ltInt d a b pv).2 (partitionEqual ltInt d a b pv).1 b lim wb wp = rr)
    (h2 : (decide (a > 0) && !ltInt d[a - 1]! d[pv]!) = false → (partition ltInt d a b pv).1 - a < b - (partition ltInt d a b pv).1 → pdq ltInt (pdq ltInt (partition ltInt d a b pv).2.2 a (partition ltInt d a b pv).1 lim true true) ((partition ltInt d a b pv).1 + 1) b lim (decide ((partition ltInt d a b pv).1 - a ≥ (b - a) / 8)) (partition ltInt d a b pv).2.1 = rr)
    (h3 : (decide (a > 0) && !ltInt d[a - 1]! d[pv]!) = false → ¬ (partition ltInt d a b pv).1 - a < b - (partition ltInt d a b pv).1 → pdq ltInt (pdq ltInt (partition ltInt d a b pv).2.2 ((partition ltInt d a b pv).1 + 1) b lim true true) a (partition ltInt d a b pv).1 lim (decide (b - (partition ltInt d a b pv).1 ≥ (b - a) / 8)) (partition ltInt d a b pv).2.1 = rr)
    (hσ : keeps σ ((10, .int .i64 ((b - a : Nat) : Int)) :: (11, .int .i64 (pv : Int)) :: sl158 p n cap a b lim wb wp)) :
    X J (bf 158 .normal) cs 134 [.code e7, .inBlock 1, .inLoop lb158, .inBlock 0] [] σ ⟨ro, (p, .cells (vals d ++ sp).toArray 3 (0, 0)) :: tail⟩ := by
  refine X.weaken hσ ?_
  have C : Ctx prog main J (bf 158 .normal) := ⟨hJ, by decide⟩
  unfold sl158
  refine Xs C <| Xs C <| Xd C fun hok => Dm C 0 hok rfl rfl rfl <| Di C 1 hok rfl rfl rfl rfl rfl b_gtr <| Dm C 2 hok rfl rfl rfl <| D.fix (t := 75) rfl (fun hg => ?_) (fun hg => ?_)
  · have hg := hg
    simp only [decide_eq_true_eq] at hg
    refine Dm C 3 hok rfl rfl rfl <| Dm C 4 hok rfl rfl rfl <| Di C 5 hok rfl rfl rfl rfl rfl (b_sub (by omega) (by omega)) <| Dx C 6 hok rfl rfl rfl runUnderlying28 sizeOf3 <| D1 C 7 hok rfl rfl isAgg3 (by repeat (first | exact Mh | apply Mt)) (vals_at (k := a - 1) (by omega) (by omega)) <| Dm C 8 hok rfl rfl rfl <| Dm C 9 hok rfl rfl rfl <| Dx C 10 hok rfl rfl rfl runUnderlying28 sizeOf3 <| D1 C 11 hok rfl rfl isAgg3 (by repeat (first | exact Mh | apply Mt)) (vals_at (k := pv) (by omega) (by omega)) <| De 12 (some 85) [false, false] hok (fun σr rest A hk => ?_)
    refine R.callP C rfl (A.w rfl rfl) (A.x rfl rfl) (A.s rfl rfl) (less_c hJ _ _ _) (hk _ _ ⟨QFs.nil, ?_⟩)
    refine Dp 13 hok (fun _ _ _ A h => R.not C rfl (A.w rfl rfl) (A.x rfl rfl) h) <| Dp 14 hok (fun _ _ _ A h => R.pickT C rfl (A.w rfl rfl) (A.x rfl rfl) (A.x rfl rfl) h) <| D.done C hok (by kernel_rfl) <| X.cond C.1 rfl (fun hc => ?_) (fun hc => ?_)
    · have hc := hc
      have hT : (decide (a > 0) && !ltInt d[a - 1]! d[pv]!) = true := by rw [hc, Bool.and_true, decide_eq_true_eq]; omega
      have hpc := callS_n (partitionEqual_c hJ (p := p) (sp := sp) (d := d) (cap := cap) (a := a) (b := b) (pv := pv) (ro := ro) (by omega) hp1 hp2 (by omega)) hd
      obtain ⟨mid, d4, hx⟩ : ∃ mid d4, partitionEqual ltInt d a b pv = (mid, d4) := ⟨_, _, rfl⟩
      obtain ⟨g1, g2, g3, g4, _⟩ := Go.Sort.round_eq Go.Sort.swo_ltInt (Go.Sort.partitionEqual_holds _) (by omega) hp1 hp2 (by omega) hB (by simpa using hc) hx
      have h1 := h1 hT
      rw [hx] at hpc h1
      simp only at hpc h1
      refine Xr C rfl rfl <| Rm C rfl rfl <| Rm C rfl rfl <| Rm C rfl rfl <| Rm C rfl rfl <| R.call C rfl rfl rfl rfl rfl hpc fun v1 ro1 pre1 hle1 hq1 => ?_
      obtain ⟨rfl, rfl, rfl⟩ := hq1
      refine Ad C rfl rfl <| Xr C rfl rfl <| Rm C rfl rfl <| Ad C rfl rfl <| X.exit C.1 rfl <| X.weaken ?_ (nx mid b lim wb wp d4 g2 hb (by omega) hlim g4 h1 (by omega))
      exact ⟨rfl, rfl, rfl, rfl, rfl, rfl, trivial⟩
    · have hc := hc
      have hF : (decide (a > 0) && !ltInt d[a - 1]! d[pv]!) = false := by rw [hc, Bool.and_false]
      have hpc := callS_n (partition_c hJ (p := p) (sp := sp) (d := d) (cap := cap) (a := a) (b := b) (pv := pv) (ro := ro) (by omega) hp1 hp2 (by omega)) hd
      obtain ⟨mid, ap, d4, hx⟩ : ∃ mid ap d4, partition ltInt d a b pv = (mid, ap, d4) := ⟨_, _, _, rfl⟩
      obtain ⟨g1, g2, g3, g4, g5, g6, g7⟩ := Go.Sort.round_part Go.Sort.swo_ltInt (Go.Sort.partition_holds _) hp1 hp2 (by omega) hB hx
      rw [hx] at hpc h2 h3
      have h2 := h2 hF
      have h3 := h3 hF
      simp only at hpc h2 h3
      refine X.skip C.1 <| Xr C rfl rfl <| Rm C rfl rfl <| Rm C rfl rfl <| Rm C rfl rfl <| Rm C rfl rfl <| R.call C rfl rfl rfl rfl rfl hpc fun v1 ro1 pre1 hle1 hq1 => ?_
      obtain ⟨rfl, rfl, rfl⟩ := hq1
      refine Rm C rfl rfl <| R.ext C rfl rfl rfl rfl <| R.ext C rfl rfl rfl rfl <| R.asg C rfl rfl rfl <| Ad C rfl rfl <| Xr C rfl rfl <| Rm C rfl rfl <| Ad C rfl rfl <| Xr C rfl rfl <| Rm C rfl rfl <| Rm C rfl rfl <| R.int C rfl rfl rfl rfl (b_sub (by omega) (by omega)) <| Rm C rfl rfl <| Rm C rfl rfl <| R.int C rfl rfl rfl rfl (b_sub (by omega) (by omega)) <| R.asg C rfl rfl rfl <| Ad C rfl rfl <| Xr C rfl rfl <| Rm C rfl rfl <| R.int C rfl rfl rfl rfl (b_quoP (by omega) (by omega) (by decide)) <| Ad C rfl rfl <| Xr C rfl rfl <| Rm C rfl rfl <| Rm C rfl rfl <| R.int C rfl rfl rfl rfl b_lss <| R.done C <| X.cond C.1 rfl (fun hlt => ?_) (fun hlt => ?_)
      · have hlt := hlt
        simp only [decide_eq_true_eq] at hlt
        have hpd := pdq_sz (d := d4) (l := lim) (wb := true) (wp := true) g1 (by omega) g4
        have hgl := (g6 _ hpd.1 hpd.2).1
        have hcall := ih a mid lim d4 g1 (by omega) (by omega) hlim g4 (by omega)
        refine Xr C rfl rfl <| Rm C rfl rfl <| Rm C rfl rfl <| R.int C rfl rfl rfl rfl b_geq <| R.fixv (t := 116) (v' := .bool (decide (mid - a ≥ (b - a) / 8))) rfl (by (congr 1; exact decide_eq_decide.2 (by omega))) <| Ad C rfl rfl <| Xr C rfl rfl <| Rm C rfl rfl <| Rm C rfl rfl <| Rm C rfl rfl <| Rm C rfl rfl <| R.call C rfl rfl rfl rfl rfl hcall fun v1 ro1 pre1 hle1 hq1 => R.done C <| X.region C rfl rfl ?_
        obtain ⟨rfl, rfl, rfl⟩ := hq1
        refine Rm C rfl rfl <| R.int C rfl rfl rfl rfl (b_add (by omega) (by omega)) <| Ad C rfl rfl <| X.inBlock C.1 <| X.weaken ?_ (nx (mid + 1) b lim _ ap _ (by omega) (by omega) (by rw [hpd.1.1]; omega) hlim hgl (h2 (by omega)) (by omega))
        exact ⟨rfl, by simp [look], rfl, rfl, rfl, rfl, trivial⟩
      · have hlt := hlt
        simp only [decide_eq_false_iff_not] at hlt
        have hpd := pdq_sz (d := d4) (a := mid + 1) (b := b) (l := lim) (wb := true) (wp := true) (by omega) (by omega) g5
        have hgr := (g7 _ hpd.1 hpd.2).1
        have hcall := ih (mid + 1) b lim d4 (by omega) (by omega) (by omega) hlim g5 (by omega)
        refine Xr C rfl rfl <| Rm C rfl rfl <| Rm C rfl rfl <| R.int C rfl rfl rfl rfl b_geq <| R.fixv (t := 126) (v' := .bool (decide (b - mid ≥ (b - a) / 8))) rfl (by (congr 1; exact decide_eq_decide.2 (by omega))) <| Ad C rfl rfl <| Xr C rfl rfl <| Rm C rfl rfl <| Rm C rfl rfl <| R.int C rfl rfl rfl rfl (b_add (by omega) (by omega)) <| R.fixv (t := 129) (v' := .int .i64 ((mid + 1 : Nat) : Int)) rfl (by rfl) <| Rm C rfl rfl <| Rm C rfl rfl <| R.call C rfl rfl rfl rfl rfl hcall fun v1 ro1 pre1 hle1 hq1 => R.done C <| X.region C rfl rfl ?_
        obtain ⟨rfl, rfl, rfl⟩ := hq1
        refine Rm C rfl rfl <| Ad C rfl rfl <| X.inBlock C.1 <| X.weaken ?_ (nx a mid lim _ ap _ (by omega) (by omega) (by rw [hpd.1.1]; omega) hlim hgr (h3 (by omega)) (by omega))
        exact ⟨rfl, rfl, rfl, rfl, rfl, rfl, trivial⟩
  · have hg := hg
    simp only [decide_eq_false_iff_not] at hg
    have hF : (decide (a > 0) && !ltInt d[a - 1]! d[pv]!) = false := by rw [decide_eq_false (by omega), Bool.false_and]
    have hpc := callS_n (partition_c hJ (p := p) (sp := sp) (d := d) (cap := cap) (a := a) (b := b) (pv := pv) (ro := ro) (by omega) hp1 hp2 (by omega)) hd
    obtain ⟨mid, ap, d4, hx⟩ : ∃ mid ap d4, partition ltInt d a b pv = (mid, ap, d4) := ⟨_, _, _, rfl⟩
    obtain ⟨g1, g2, g3, g4, g5, g6, g7⟩ := Go.Sort.round_part Go.Sort.swo_ltInt (Go.Sort.partition_holds _) hp1 hp2 (by omega) hB hx
    rw [hx] at hpc h2 h3
    have h2 := h2 hF
    have h3 := h3 hF
    simp only at hpc h2 h3
    refine Du C 3 hok rfl <| Du C 4 hok rfl <| Du C 5 hok rfl <| Du C 6 hok rfl <| Du C 7 hok rfl <| Du C 8 hok rfl <| Du C 9 hok rfl <| Du C 10 hok rfl <| Du C 11 hok rfl <| Du C 12 hok rfl <| Du C 13 hok rfl <| Dp 14 hok (fun _ _ _ A h => R.pickF C rfl (A.w rfl rfl) (A.x rfl rfl) (A.x rfl rfl) h) <| D.done C hok (by kernel_rfl) <| X.cond C.1 rfl (fun h => nomatch h) (fun _ => ?_)
    refine X.skip C.1 <| Xr C rfl rfl <| Rm C rfl rfl <| Rm C rfl rfl <| Rm C rfl rfl <| Rm C rfl rfl <| R.call C rfl rfl rfl rfl rfl hpc fun v1 ro1 pre1 hle1 hq1 => ?_
    obtain ⟨rfl, rfl, rfl⟩ := hq1
    refine Rm C rfl rfl <| R.ext C rfl rfl rfl rfl <| R.ext C rfl rfl rfl rfl <| R.asg C rfl rfl rfl <| Ad C rfl rfl <| Xr C rfl rfl <| Rm C rfl rfl <| Ad C rfl rfl <| Xr C rfl rfl <| Rm C rfl rfl <| Rm C rfl rfl <| R.int C rfl rfl rfl rfl (b_sub (by omega) (by omega)) <| Rm C rfl rfl <| Rm C rfl rfl <| R.int C rfl rfl rfl rfl (b_sub (by omega) (by omega)) <| R.asg C rfl rfl rfl <| Ad C rfl rfl <| Xr C rfl rfl <| Rm C rfl rfl <| R.int C rfl rfl rfl rfl (b_quoP (by omega) (by omega) (by decide)) <| Ad C rfl rfl <| Xr C rfl rfl <| Rm C rfl rfl <| Rm C rfl rfl <| R.int C rfl rfl rfl rfl b_lss <| R.done C <| X.cond C.1 rfl (fun hlt => ?_) (fun hlt => ?_)
    · have hlt := hlt
      simp only [decide_eq_true_eq] at hlt
      have hpd := pdq_sz (d := d4) (l := lim) (wb := true) (wp := true) g1 (by omega) g4
      have hgl := (g6 _ hpd.1 hpd.2).1
      have hcall := ih a mid lim d4 g1 (by omega) (by omega) hlim g4 (by omega)
      refine Xr C rfl rfl <| Rm C rfl rfl <| Rm C rfl rfl <| R.int C rfl rfl rfl rfl b_geq <| R.fixv (t := 116) (v' := .bool (decide (mid - a ≥ (b - a) / 8))) rfl (by (congr 1; exact decide_eq_decide.2 (by omega))) <| Ad C rfl rfl <| Xr C rfl rfl <| Rm C rfl rfl <| Rm C rfl rfl <| Rm C rfl rfl <| Rm C rfl rfl <| R.call C rfl rfl rfl rfl rfl hcall fun v1 ro1 pre1 hle1 hq1 => R.done C <| X.region C rfl rfl ?_
      obtain ⟨rfl, rfl, rfl⟩ := hq1
      refine Rm C rfl rfl <| R.int C rfl rfl rfl rfl (b_add (by omega) (by omega)) <| Ad C rfl rfl <| X.inBlock C.1 <| X.weaken ?_ (nx (mid + 1) b lim _ ap _ (by omega) (by omega) (by rw [hpd.1.1]; omega) hlim hgl (h2 (by omega)) (by omega))
      exact ⟨rfl, by simp [look], rfl, rfl, rfl, rfl, trivial⟩
    · have hlt := hlt
      simp only [decide_eq_false_iff_not] at hlt
      have hpd := pdq_sz (d := d4) (a := mid + 1) (b := b) (l := lim) (wb := true) (wp := true) (by omega) (by omega) g5
      have hgr := (g7 _ hpd.1 hpd.2).1
      have hcall := ih (mid + 1) b lim d4 (by omega) (by omega) (by omega) hlim g5 (by omega)
      refine Xr C rfl rfl <| Rm C rfl rfl <| Rm C rfl rfl <| R.int C rfl rfl rfl rfl b_geq <| R.fixv (t := 126) (v' := .bool (decide (b - mid ≥ (b - a) / 8))) rfl (by (congr 1; exact decide_eq_decide.2 (by omega))) <| Ad C rfl rfl <| Xr C rfl rfl <| Rm C rfl rfl <| Rm C rfl rfl <| R.int C rfl rfl rfl rfl (b_add (by omega) (by omega)) <| R.fixv (t := 129) (v' := .int .i64 ((mid + 1 : Nat) : Int)) rfl (by rfl) <| Rm C rfl rfl <| Rm C rfl rfl <| R.call C rfl rfl rfl rfl rfl hcall fun v1 ro1 pre1 hle1 hq1 => R.done C <| X.region C rfl rfl ?_
      obtain ⟨rfl, rfl, rfl⟩ := hq1
      refine Rm C rfl rfl <| Ad C rfl rfl <| X.inBlock C.1 <| X.weaken ?_ (nx a mid lim _ ap _ (by omega) (by omega) (by rw [hpd.1.1]; omega) hlim hgr (h3 (by omega)) (by omega))
      exact ⟨rfl, rfl, rfl, rfl, rfl, rfl, trivial⟩
theorem pdqT {p n cap a b lim m : Nat} {sp : List Value} {d rr : Array Int} {wb wp : Bool} {ro : RO} {c : Frame} {cs : List Frame} {tail : List (Nat × Obj)} {σ : Slots} (hn : n ≤ 1000000000) (h12 : ¬ b - a ≤ 12) (h0 : ¬ lim = 0) (hb : b ≤ n) (hd : d.size = n) (hB : Go.Sort.Below ltInt a b d) (hlim : lim ≤ 1000) (hm : b - a ≤ m)
    (nx : Nx158 J (c :: cs) ro tail p n cap sp (b - a) rr) (ih : Ih158 J ro p n cap sp m) (hR : pdq ltInt d a b lim wb wp = rr) (hpi : (Go.Sort.rd ltInt d a b lim wb wp).pi.2 = false)
    (hσ : keeps σ ((10, .int .i64 ((b - a : Nat) : Int)) :: (11, .int .i64 ((Go.Sort.rd ltInt d a b lim wb wp).pivot : Int)) :: sl158 p n cap a b (Go.Sort.rd ltInt d a b lim wb wp).lim wb wp)) :
    X J (bf 158 .normal) (c :: cs) 134 [.code e7, .inBlock 1, .inLoop lb158, .inBlock 0] [] σ ⟨ro, (p, .cells (vals (Go.Sort.rd ltInt d a b lim wb wp).pi.1 ++ sp).toArray 3 (0, 0)) :: tail⟩ := by
  obtain ⟨s1, B1, c1, s2, B2, pv, s3, B3⟩ := rd_facts (wb := wb) (wp := wp) (limit := lim) Go.Sort.swo_ltInt Go.Sort.partialInsertionSort_holds Go.Sort.reverseRange_holds (show a < b by omega) (show b ≤ d.size by omega) hB
  have hlimle := Go.Sort.rd_lim_le (lt := ltInt) (d := d) (a := a) (b := b) (limit := lim) (wb := wb) (wp := wp)
  have hpt := Go.Sort.round_part Go.Sort.swo_ltInt (Go.Sort.partition_holds _) pv.1 pv.2 (by rw [s3]; omega) B3 (show Go.Sort.partition ltInt (Go.Sort.rd ltInt d a b lim wb wp).pi.1 a b (Go.Sort.rd ltInt d a b lim wb wp).pivot = (_, _, _) from rfl)
  refine pdq3 hJ hn (by omega) hb (by rw [s3]; exact hd) B3 pv.1 pv.2 (by omega) hm nx ih (fun hT => ?_) (fun hF hlt => ?_) (fun hF hlt => ?_) hσ
  · have hT' := hT
    simp only [Bool.and_eq_true, decide_eq_true_eq, Bool.not_eq_true'] at hT'
    have he := Go.Sort.round_eq Go.Sort.swo_ltInt (Go.Sort.partitionEqual_holds _) hT'.1 pv.1 pv.2 (by rw [s3]; omega) B3 hT'.2 (show Go.Sort.partitionEqual ltInt (Go.Sort.rd ltInt d a b lim wb wp).pi.1 a b (Go.Sort.rd ltInt d a b lim wb wp).pivot = (_, _) from rfl)
    exact (pdq_eq h12 h0 hpi hT ⟨he.1, he.2.1⟩).symm.trans hR
  · exact (pdq_left h12 h0 hpi hF ⟨hpt.1, hpt.2.1⟩ hlt).symm.trans hR
  · exact (pdq_right h12 h0 hpi hF ⟨hpt.1, hpt.2.1⟩ hlt).symm.trans hR
omit hJ in
theorem hintZ_one {h : Hint} : (hintZ h == 1) = true ↔ h = .increasing := by cases h <;> simp [hintZ]
omit hJ in
theorem hintZ_two {h : Hint} : (hintZ h == 2) = true ↔ h = .decreasing := by cases h <;> simp [hintZ]
theorem pdq2 {p n cap a b lim m : Nat} {sp : List Value} {d rr : Array Int} {wb wp : Bool} {ro : RO} {c : Frame} {cs : List Frame} {tail : List (Nat × Obj)} {σ : Slots} (hn : n ≤ 1000000000) (h12 : ¬ b - a ≤ 12) (h0 : ¬ lim = 0) (hb : b ≤ n) (hd : d.size = n) (hB : Go.Sort.Below ltInt a b d) (hlim : lim ≤ 1000) (hm : b - a ≤ m)
    (nx : Nx158 J (c :: cs) ro tail p n cap sp (b - a) rr) (ih : Ih158 J ro p n cap sp m) (hR : pdq ltInt d a b lim wb wp = rr) (hret : BackS J c cs ro tail p sp (.tuple #[]) rr)
    (hσ : keeps σ ((10, .int .i64 ((b - a : Nat) : Int)) :: (11, .int .i64 ((Go.Sort.rd ltInt d a b lim wb wp).pivot : Int)) :: (12, .int .i64 (hintZ (Go.Sort.rd ltInt d a b lim wb wp).hint)) :: sl158 p n cap a b (Go.Sort.rd ltInt d a b lim wb wp).lim wb wp)) :
    X J (bf 158 .normal) (c :: cs) 134 [.code e6, .inBlock 1, .inLoop lb158, .inBlock 0] [] σ ⟨ro, (p, .cells (vals (Go.Sort.rd ltInt d a b lim wb wp).d2 ++ sp).toArray 3 (0, 0)) :: tail⟩ := by
  obtain ⟨s1, B1, c1, s2, B2, pv, s3, B3⟩ := rd_facts (wb := wb) (wp := wp) (limit := lim) Go.Sort.swo_ltInt Go.Sort.partialInsertionSort_holds Go.Sort.reverseRange_holds (show a < b by omega) (show b ≤ d.size by omega) hB
  refine X.weaken hσ ?_
  have C : Ctx prog main J (bf 158 .normal) := ⟨hJ, by decide⟩
  unfold sl158
  refine Xs C <| Xr C rfl rfl <| Rm C rfl rfl <| Rm C rfl rfl <| R.fix (t := 62) rfl (fun hw => ?_) (fun hw => ?_)
  · have hw := hw
    subst hw
    refine Rm C rfl rfl <| R.pickT C rfl rfl rfl rfl <| Rm C rfl rfl <| R.fix (t := 65) rfl (fun hw2 => ?_) (fun hw2 => ?_)
    · have hw2 := hw2
      subst hw2
      refine Rm C rfl rfl <| R.int C rfl rfl rfl rfl b_eql <| R.pickT C rfl rfl rfl rfl <| R.done C <| X.cond C.1 rfl (fun hh => ?_) (fun hh => ?_)
      · have hh := hh
        have hh' := hintZ_one.1 hh
        have hpi : (Go.Sort.rd ltInt d a b lim true true).pi = Go.Sort.partialInsertionSort ltInt (Go.Sort.rd ltInt d a b lim true true).d2 a b := rd_pi_yes (by simp [hh'])
        have hdone := fun h => (pdq_done h12 h0 h).symm.trans hR
        have htl := fun h σ => pdqT hJ (σ := σ) hn h12 h0 hb hd hB hlim hm nx ih hR h
        have s2' := s2.trans hd
        generalize (Go.Sort.rd ltInt d a b lim true true).d2 = d2 at hpi s2' ⊢
        generalize (Go.Sort.rd ltInt d a b lim true true).pi = pi at hpi hdone htl
        generalize (Go.Sort.rd ltInt d a b lim true true).pivot = pvv at htl ⊢
        generalize (Go.Sort.rd ltInt d a b lim true true).lim = lim2 at htl ⊢
        have hpc := callS_n (partialIns_c hJ (p := p) (sp := sp) (d := d2) (cap := cap) (a := a) (b := b) (ro := ro) (by omega) (by omega) (by omega)) s2'
        rw [← hpi] at hpc
        refine Xr C rfl rfl <| Rm C rfl rfl <| Rm C rfl rfl <| Rm C rfl rfl <| R.call C rfl rfl rfl rfl rfl hpc fun v1 ro1 pre1 hle1 hq1 => R.done C ?_
        obtain ⟨rfl, rfl, rfl⟩ := hq1
        refine X.cond C.1 rfl (fun hdn => ?_) (fun hdn => ?_)
        · have hdn := hdn
          have e := hdone hdn
          refine X.ret C rfl rfl func158 rfl (by exact .nil) ?_
          exact hret _ _ rfl e
        · have hdn := hdn
          refine X.skip C.1 <| htl hdn _ ?_
          exact ⟨rfl, rfl, rfl, rfl, rfl, rfl, rfl, rfl, trivial⟩
      · have hh := hh
        have hh' : ¬ (Go.Sort.rd ltInt d a b lim true true).hint = .increasing := fun e => by rw [hintZ_one.2 e] at hh; cases hh
        refine X.skip C.1 ?_
        have hpi : (Go.Sort.rd ltInt d a b lim true true).pi = ((Go.Sort.rd ltInt d a b lim true true).d2, false) := rd_pi_no (by simp [hh'])
        rw [show (Go.Sort.rd ltInt d a b lim true true).d2 = (Go.Sort.rd ltInt d a b lim true true).pi.1 by rw [hpi]]
        refine pdqT hJ hn h12 h0 hb hd hB hlim hm nx ih hR (by rw [hpi]) ?_
        exact ⟨rfl, rfl, rfl, rfl, rfl, rfl, rfl, rfl, trivial⟩
    · have hw2 := hw2
      subst hw2
      refine R.pass C rfl rfl <| R.pass C rfl rfl <| R.pickF C rfl rfl rfl rfl <| R.done C <| X.cond C.1 rfl (fun h => nomatch h) (fun _ => ?_)
      refine X.skip C.1 ?_
      have hpi : (Go.Sort.rd ltInt d a b lim true false).pi = ((Go.Sort.rd ltInt d a b lim true false).d2, false) := rd_pi_no (by simp )
      rw [show (Go.Sort.rd ltInt d a b lim true false).d2 = (Go.Sort.rd ltInt d a b lim true false).pi.1 by rw [hpi]]
      refine pdqT hJ hn h12 h0 hb hd hB hlim hm nx ih hR (by rw [hpi]) ?_
      exact ⟨rfl, rfl, rfl, rfl, rfl, rfl, rfl, rfl, trivial⟩
  · have hw := hw
    subst hw
    refine R.pass C rfl rfl <| R.pickF C rfl rfl rfl rfl <| Rm C rfl rfl <| R.pass C rfl rfl <| R.pass C rfl rfl <| R.pickF C rfl rfl rfl rfl <| R.done C <| X.cond C.1 rfl (fun h => nomatch h) (fun _ => ?_)
    refine X.skip C.1 ?_
    have hpi : (Go.Sort.rd ltInt d a b lim false wp).pi = ((Go.Sort.rd ltInt d a b lim false wp).d2, false) := rd_pi_no (by simp )
    rw [show (Go.Sort.rd ltInt d a b lim false wp).d2 = (Go.Sort.rd ltInt d a b lim false wp).pi.1 by rw [hpi]]
    refine pdqT hJ hn h12 h0 hb hd hB hlim hm nx ih hR (by rw [hpi]) ?_
    exact ⟨rfl, rfl, rfl, rfl, rfl, rfl, rfl, rfl, trivial⟩
theorem pdq1 {p n cap a b lim m : Nat} {sp : List Value} {d rr : Array Int} {wb wp : Bool} {ro : RO} {c : Frame} {cs : List Frame} {tail : List (Nat × Obj)} {σ : Slots} (hn : n ≤ 1000000000) (h12 : ¬ b - a ≤ 12) (h0 : ¬ lim = 0) (hb : b ≤ n) (hd : d.size = n) (hB : Go.Sort.Below ltInt a b d) (hlim : lim ≤ 1000) (hm : b - a ≤ m)
    (nx : Nx158 J (c :: cs) ro tail p n cap sp (b - a) rr) (ih : Ih158 J ro p n cap sp m) (hR : pdq ltInt d a b lim wb wp = rr) (hret : BackS J c cs ro tail p sp (.tuple #[]) rr)
    (hσ : keeps σ ((10, .int .i64 ((b - a : Nat) : Int)) :: sl158 p n cap a b (Go.Sort.rd ltInt d a b lim wb wp).lim wb wp)) :
    X J (bf 158 .normal) (c :: cs) 134 [.code e4, .inBlock 1, .inLoop lb158, .inBlock 0] [] σ ⟨ro, (p, .cells (vals (Go.Sort.rd ltInt d a b lim wb wp).d1 ++ sp).toArray 3 (0, 0)) :: tail⟩ := by
  obtain ⟨s1, B1, c1, s2, B2, pv, s3, B3⟩ := rd_facts (wb := wb) (wp := wp) (limit := lim) Go.Sort.swo_ltInt Go.Sort.partialInsertionSort_holds Go.Sort.reverseRange_holds (show a < b by omega) (show b ≤ d.size by omega) hB
  refine X.weaken hσ ?_
  have C : Ctx prog main J (bf 158 .normal) := ⟨hJ, by decide⟩
  unfold sl158
  have htl := fun σ => pdq2 hJ (σ := σ) hn h12 h0 hb hd hB hlim hm nx ih hR hret
  have hdec := rd_dec (lt := ltInt) (d := d) (a := a) (b := b) (limit := lim) (wb := wb) (wp := wp)
  have hnot := rd_not (lt := ltInt) (d := d) (a := a) (b := b) (limit := lim) (wb := wb) (wp := wp)
  have hc : (Go.Sort.rd ltInt d a b lim wb wp).c = choosePivot ltInt (Go.Sort.rd ltInt d a b lim wb wp).d1 a b := rd_c
  have s1' := s1.trans hd
  generalize (Go.Sort.rd ltInt d a b lim wb wp).c = cc at hc hdec hnot c1
  generalize (Go.Sort.rd ltInt d a b lim wb wp).d1 = d1 at hc hdec hnot s1' ⊢
  generalize (Go.Sort.rd ltInt d a b lim wb wp).d2 = d2 at hdec hnot htl
  generalize (Go.Sort.rd ltInt d a b lim wb wp).pivot = pvv at hdec hnot htl
  generalize (Go.Sort.rd ltInt d a b lim wb wp).hint = hh at hdec hnot htl
  generalize (Go.Sort.rd ltInt d a b lim wb wp).lim = lim2 at htl ⊢
  have hpc := callS_n (choosePivot_c hJ (p := p) (sp := sp) (d := d1) (cap := cap) (a := a) (b := b) (ro := ro) (by omega) (by omega) (by omega)) s1'
  rw [← hc] at hpc
  have hpr := callS_n (reverseRange_c hJ (p := p) (sp := sp) (d := d1) (cap := cap) (a := a) (b := b) (ro := ro) (by omega) (by omega) (by omega)) s1'
  refine Xr C rfl rfl <| Rm C rfl rfl <| Rm C rfl rfl <| Rm C rfl rfl <| R.call C rfl rfl rfl rfl rfl hpc fun v1 ro1 pre1 hle1 hq1 => ?_
  obtain ⟨rfl, rfl, rfl⟩ := hq1
  refine Rm C rfl rfl <| R.ext C rfl rfl rfl rfl <| R.ext C rfl rfl rfl rfl <| R.asg C rfl rfl rfl <| Ad C rfl rfl <| Xs C <| Xr C rfl rfl <| Rm C rfl rfl <| R.int C rfl rfl rfl rfl b_eql <| R.done C <| X.cond C.1 rfl (fun hdc => ?_) (fun hdc => ?_)
  · have hdc := hdc
    obtain ⟨q1, q2, q3⟩ := hdec (hintZ_two.1 hdc)
    subst q1; subst q2; subst q3
    refine Xr C rfl rfl <| Rm C rfl rfl <| Rm C rfl rfl <| Rm C rfl rfl <| R.call C rfl rfl rfl rfl rfl hpr fun v1 ro1 pre1 hle1 hq1 => R.done C <| Xr C rfl rfl ?_
    obtain ⟨rfl, rfl, rfl⟩ := hq1
    refine Rm C rfl rfl <| R.int C rfl rfl rfl rfl (b_sub (by omega) (by omega)) <| Rm C rfl rfl <| Rm C rfl rfl <| R.int C rfl rfl rfl rfl (b_sub (by omega) (by omega)) <| R.int C rfl rfl rfl rfl (b_sub (by omega) (by omega)) <| Ad C rfl rfl <| X.region C rfl rfl <| Ad C rfl rfl <| htl _ ?_
    exact ⟨rfl, congrArg (fun z => some (Value.int .i64 z)) (by omega), rfl, rfl, rfl, rfl, rfl, rfl, rfl, trivial⟩
  · have hdc := hdc
    obtain ⟨q1, q2, q3⟩ := hnot (fun e => by rw [hintZ_two.2 e] at hdc; cases hdc)
    subst q1; subst q2; subst q3
    refine X.skip C.1 <| htl _ ?_
    exact ⟨rfl, rfl, rfl, rfl, rfl, rfl, rfl, rfl, rfl, trivial⟩
theorem pdq_step {p n cap m : Nat} {sp : List Value} {ro : RO} (hn : n ≤ 1000000000) (ih : Ih158 J ro p n cap sp m) : Ih158 J ro p n cap sp (m + 1) := by
  intro a0 b0 l0 d0 hab0 hb0 hd0 hl0 hB0 hm0
  obtain ⟨rr, hrr⟩ : ∃ rr, rr = pdq ltInt d0 a0 b0 l0 true true := ⟨_, rfl⟩
  rw [← hrr]
  refine callS_n (CallS.intro hJ (p := p) (sp := sp) (d := d0) (cap := cap) (by kernel_rfl) fun c cs tail hret => ?_) hd0
  rw [hd0]
  let J := J
  refine enter_X (n := 134) func158 rfl rfl (Nl rfl) ?_
  have C : Ctx prog main J (bf 158 .normal) := ⟨hJ, by decide⟩
  refine Xr C rfl rfl <| Ad C rfl rfl <| Xr C rfl rfl <| Ad C rfl rfl <| X.block C.1 <| X.loopI (ι := Nat × Nat × Nat × Bool × Bool × Array Int) C.1 (fun s => s.1 ≤ s.2.1 ∧ s.2.1 ≤ n ∧ s.2.2.2.2.2.size = n ∧ s.2.2.1 ≤ 1000 ∧ Go.Sort.Below ltInt s.1 s.2.1 s.2.2.2.2.2 ∧ pdq ltInt s.2.2.2.2.2 s.1 s.2.1 s.2.2.1 s.2.2.2.1 s.2.2.2.2.1 = rr ∧ s.2.1 - s.1 ≤ m) (fun s => sl158 p n cap s.1 s.2.1 s.2.2.1 s.2.2.2.1 s.2.2.2.2.1)
    (fun s => ⟨ro, (p, .cells (vals s.2.2.2.2.2 ++ sp).toArray 3 (0, 0)) :: tail⟩) (fun s => s.2.1 - s.1) (a0, b0, l0, true, true, d0) ⟨hab0, hb0, hd0, hl0, hB0, hrr.symm, by show b0 - a0 ≤ m; omega⟩ rfl ⟨rfl, rfl, rfl, rfl, rfl, rfl, trivial⟩ fun s hs hnext => ?_
  obtain ⟨a, b, lim, wb, wp, d⟩ := s
  obtain ⟨hab, hb, hd, hlim, hB, hR, hm⟩ := hs
  simp only at hab hb hd hlim hB hR hm hnext ⊢
  have nx : Nx158 J (c :: cs) ro tail p n cap sp (b - a) rr := fun a' b' l' wb' wp' d' k1 k2 k3 k4 k5 k6 k7 => hnext (a', b', l', wb', wp', d') ⟨k1, k2, k3, k4, k5, k6, by show b' - a' ≤ m; omega⟩ k7
  have hpi := callS_n (insertionSort_c hJ (p := p) (sp := sp) (d := d) (cap := cap) (a := a) (b := b) (ro := ro) (by omega) hab (by omega)) hd
  have hph := callS_n (heapSort_c hJ (p := p) (sp := sp) (d := d) (cap := cap) (a := a) (b := b) (ro := ro) (by omega) hab (by omega)) hd
  have hpb := callS_n (breakPatterns_c hJ (p := p) (sp := sp) (d := d) (cap := cap) (a := a) (b := b) (ro := ro) (by omega) hab (by omega)) hd
  unfold sl158
  refine X.block C.1 <| Xr C rfl rfl <| Rm C rfl rfl <| Rm C rfl rfl <| R.int C rfl rfl rfl rfl (b_sub (by omega) (by omega)) <| R.fixv (t := 21) (v' := .int .i64 ((b - a : Nat) : Int)) rfl (by (congr 1; omega)) <| Ad C rfl rfl <| Xs C <| Xr C rfl rfl <| Rm C rfl rfl <| R.int C rfl rfl rfl rfl b_leq <| R.done C <| X.cond C.1 rfl (fun h12 => ?_) (fun h12 => ?_)
  · have h12 := h12
    simp only [decide_eq_true_eq] at h12
    rw [pdq_small (by omega)] at hR
    refine Xr C rfl rfl <| Rm C rfl rfl <| Rm C rfl rfl <| Rm C rfl rfl <| R.call C rfl rfl rfl rfl rfl hpi fun v1 ro1 pre1 hle1 hq1 => R.done C ?_
    obtain ⟨rfl, rfl, rfl⟩ := hq1
    refine X.ret C rfl rfl func158 rfl (by exact .nil) ?_
    exact hret _ _ rfl hR
  · have h12 := h12
    simp only [decide_eq_false_iff_not] at h12
    have h12' : ¬ b - a ≤ 12 := by omega
    refine X.skip C.1 <| Xs C <| Xr C rfl rfl <| Rm C rfl rfl <| R.int C rfl rfl rfl rfl b_eql <| R.done C <| X.cond C.1 rfl (fun h0 => ?_) (fun h0 => ?_)
    · have h0 := h0
      have h0' : lim = 0 := by simpa using h0
      rw [pdq_heap h12' h0'] at hR
      refine Xr C rfl rfl <| Rm C rfl rfl <| Rm C rfl rfl <| Rm C rfl rfl <| R.call C rfl rfl rfl rfl rfl hph fun v1 ro1 pre1 hle1 hq1 => R.done C ?_
      obtain ⟨rfl, rfl, rfl⟩ := hq1
      refine X.ret C rfl rfl func158 rfl (by exact .nil) ?_
      exact hret _ _ rfl hR
    · have h0 := h0
      have h0' : ¬ lim = 0 := by simpa using h0
      refine X.skip C.1 <| Xs C <| Xr C rfl rfl <| Rm C rfl rfl <| R.not C rfl rfl rfl <| R.done C <| X.cond C.1 rfl (fun hw => ?_) (fun hw => ?_)
      · have hw := hw
        have hw' : wb = false := by simpa using hw
        subst hw'
        refine Xr C rfl rfl <| Rm C rfl rfl <| Rm C rfl rfl <| Rm C rfl rfl <| R.call C rfl rfl rfl rfl rfl hpb fun v1 ro1 pre1 hle1 hq1 => R.done C <| X.region C rfl rfl ?_
        obtain ⟨rfl, rfl, rfl⟩ := hq1
        refine Rm C rfl rfl <| R.int C rfl rfl rfl rfl (b_sub (by omega) (by omega)) <| Ad C rfl rfl <| pdq1 hJ hn h12' h0' hb hd hB hlim hm nx ih hR hret ?_
        exact ⟨rfl, rfl, rfl, rfl, congrArg (fun z => some (Value.int .i64 z)) (by show (lim : Int) - 1 = ((lim - 1 : Nat) : Int); omega), rfl, rfl, trivial⟩
      · have hw := hw
        have hw' : wb = true := by simpa using hw
        subst hw'
        refine X.skip C.1 <| pdq1 hJ hn h12' h0' hb hd hB hlim hm nx ih hR hret ?_
        exact ⟨rfl, rfl, rfl, rfl, rfl, rfl, rfl, trivial⟩
theorem pdq_all {p n cap : Nat} {sp : List Value} {ro : RO} (hn : n ≤ 1000000000) : ∀ m, Ih158 J ro p n cap sp m
  | 0 => fun _ _ _ _ _ _ _ _ _ h => absurd h (Nat.not_lt_zero _)
  | m + 1 => pdq_step hJ hn (pdq_all hn m)
theorem sort_c {p cap : Nat} {sp : List Value} {l : List Int} {ro : RO} (hn : l.length ≤ 1000000000) : CallV prog J (fnv 106) [.slice (some ⟨p, 0, none⟩) l.length cap] ro [(p, .cells (l.flatMap ic ++ sp).toArray 3 (0, 0))] fun v' ro' pre' => v' = .tuple #[] ∧ ro' = ro ∧ pre' = [(p, .cells ((l.mergeSort fun x y => decide (x ≤ y)).flatMap ic ++ sp).toArray 3 (0, 0))] := by
  have hfl : ∀ l : List Int, l.flatMap ic = vals l.toArray := fun l => by
    unfold vals
    induction l with
    | nil => rfl
    | cons x l ih => simpa [ic] using ih
  have hpw : ∀ k, 30 ≤ k → l.length < 2 ^ k := fun k hk => Nat.lt_of_le_of_lt hn (Nat.lt_of_lt_of_le (show 1000000000 < 2 ^ 30 by decide) (Nat.pow_le_pow_right (by decide) hk))
  have hkl : ∀ k, 30 ≤ k → bitsLen l.length ≤ k := fun k hk => (Go.Sort.bitsLen_le_iff _ _).2 (hpw k hk)
  have hbl : bitsLen l.length ≤ 1000 := hkl _ (by decide)
  have hpc := pdq_all hJ (p := p) (cap := cap) (sp := sp) (ro := ro) hn (l.length + 1) 0 l.length (bitsLen l.length) l.toArray (Nat.zero_le _) (Nat.le_refl _) (by simp) hbl (.inl rfl) (by omega)
  have hsort : pdq ltInt l.toArray 0 l.length (bitsLen l.length) true true = (l.mergeSort fun x y => decide (x ≤ y)).toArray := by
    have h := Go.Sort.sortInt_holds (Go.Sort.sort_holds (Go.Sort.pdq_holds Go.Sort.insertionSort_holds Go.Sort.heapSort_holds Go.Sort.partialInsertionSort_holds (Go.Sort.partition_holds _) (Go.Sort.partitionEqual_holds _) Go.Sort.reverseRange_holds)) l
    unfold Go.Sort.sort at h
    simp only [List.size_toArray] at h
    rw [← h]
  rw [hsort] at hpc
  rw [hfl, hfl]
  refine CallV.intro (first := []) (cap := []) hJ (by kernel_rfl) fun c cs tail hret => ?_
  let J := J
  refine enter_X (n := 11) func106 rfl rfl (Nl rfl) ?_
  have C : Ctx prog main J (bf 106 .normal) := ⟨hJ, by decide⟩
  refine Xr C rfl rfl <| Rm C rfl rfl <| R.lenSlice C rfl rfl rfl runUnderlying28 <| Ad C rfl rfl <| X.region C rfl rfl <| Rm C rfl rfl <| Rm C rfl rfl <| Rm C rfl rfl <| R.convInt C rfl rfl rfl runUnderlying3 runUnderlying189 (IntWalk.u64_in _ (by omega)) <| R.callP C rfl rfl rfl rfl (len_c hJ (by omega) _) <| R.call C rfl rfl rfl rfl rfl hpc fun v1 ro1 pre1 hle1 hq1 => R.done C ?_
  obtain ⟨rfl, rfl, rfl⟩ := hq1
  refine X.fall C rfl rfl func106 rfl (by exact .nil) ?_
  exact hret _ _ [_] _ (RO.le_refl _) ⟨rfl, rfl, rfl⟩ (.refl _)
end Go.Lg.B
namespace Go.Lg
open Go Go.Conc
section
variable {P : Program} {main : Bool} {J : Goroutine → Mem → Prop} {b : Frame} (C : Ctx P main J b) {cs : List Frame} {n : Nat} {ds : List Deferred} {σ : Slots} {ro : RO} {own : List (Nat × Obj)} {k : List Item} {ops : Array Oper} {i : Nat} {rest : List Nat}
  {dst : Option Nat} {ty : TypeId} {pos : String} {af : Array Edge} {g : Option (Nat × Bool)}
include C
theorem R.clearS {t e : TypeId} {tt : TypeId} {x : Operand} {bb off len cap : Nat} {z : Value} {vs l l' : List Value} {own' : List (Nat × Obj)} (ho : ops[i]? = some ⟨dst, .call ⟨.builtin .clear, #[x], #[t]⟩, ty, pos, af, g⟩) (hg : wantedS ops σ ⟨dst, .call ⟨.builtin .clear, #[x], #[t]⟩, ty, pos, af, g⟩ = some true)
    (hx : ev σ x = some (.slice (some ⟨bb, off, none⟩) (len + 1) cap)) (hu : ∀ w, Sem.run P (Go.underlying t) w = .ok (.slice e) w) (hz : ∀ w, Sem.run P (Go.zeroValue e) w = .ok z w) (hvs : (Builtin.zeroCells z.cells (len + 1)).toList = vs) (h1 : ones vs = true)
    (hup : Upd own bb (.cells l.toArray tt (0, 0)) (.cells l'.toArray tt (0, 0)) own') (hp : Put off vs l l')
    (h : R J b cs n ops rest k ds (putS dst (.tuple #[]) σ) ⟨ro, own'⟩) : R J b cs n ops (i :: rest) k ds σ ⟨ro, own⟩ :=
  R.op C ho hg rfl fun a ha => by
    unfold execOp
    refine Sm.bind ?_
    unfold resolve
    refine Sm.pure ?_
    unfold invoke builtin Builtin.clear_
    simp only [List.map_toArray, List.map_cons, List.map_nil, ha.ev hx, List.getElem?_toArray, List.getElem?_cons_zero]
    refine Sm.bind (Sm.bind (Sm.underlying hu ?_))
    simp only
    refine Sm.bind (Sm.zeroValue hz ?_)
    rw [hvs]
    refine Sm.bind (Sm.storeCells_own (M := ⟨ro, own⟩) vs 0 hup (by simpa using hp) h1 ?_)
    exact Sm.pure (Sm.pure h)
end
end Go.Lg
namespace Go.Lg.B
open Go Go.Conc Go.Lg Go.Proofs Go.Proofs.Tryz
def cstep (acc : List Int) (x : Int) : List Int := if acc.getLast? = some x then acc else acc ++ [x]
def compactL (l : List Int) : List Int := l.foldl cstep []
theorem compact_take {l : List Int} {i : Nat} (h : i < l.length) : compactL (l.take (i + 1)) = cstep (compactL (l.take i)) l[i] := by
  unfold compactL
  rw [List.take_succ_eq_append_getElem h, List.foldl_append]; rfl
theorem compact_last {l : List Int} {i : Nat} (h : i < l.length) : (compactL (l.take (i + 1))).getLast? = some l[i] := by
  rw [compact_take h]
  unfold cstep
  split
  · assumption
  · simp
theorem compact_same {l : List Int} {i : Nat} (h : i + 1 < l.length) (e : l[i + 1] = l[i]) : compactL (l.take (i + 2)) = compactL (l.take (i + 1)) := by
  rw [compact_take h, cstep, if_pos (by rw [compact_last (by omega), e])]
theorem compact_new {l : List Int} {i : Nat} (h : i + 1 < l.length) (e : l[i + 1] ≠ l[i]) : compactL (l.take (i + 2)) = compactL (l.take (i + 1)) ++ [l[i + 1]] := by
  rw [compact_take h, cstep, if_neg (by rw [compact_last (by omega)]; intro h; exact e (Option.some.inj h).symm)]
def mixed (l c : List Int) : List Int := c ++ l.drop c.length
theorem mixed_len {l c : List Int} (h : c.length ≤ l.length) : (mixed l c).length = l.length := by simp [mixed]; omega
theorem mixed_at {l c : List Int} {j : Nat} (h : c.length ≤ j) (hj : j < l.length) : (mixed l c)[j]? = some l[j] := by
  unfold mixed
  rw [List.getElem?_append_right h, List.getElem?_drop, show c.length + (j - c.length) = j by omega, List.getElem?_eq_getElem hj]
theorem ints_at {xs : List Int} {sp : List Value} {z : Int} {off k : Nat} {x : Int} (hz : (off : Int) + z = (k : Int)) (h0 : 0 ≤ z) (hx : xs[k]? = some x) : (xs.flatMap ic ++ sp)[off + z.toNat * 1]? = some (.int .i64 x) := by
  have hk : off + z.toNat * 1 = k := by omega
  have hl : k < xs.length := (List.getElem?_eq_some_iff.1 hx).1
  rw [hk, List.getElem?_append_left (by rw [flat_len]; exact hl)]
  have : ∀ (l : List Int) (k : Nat), (l.flatMap ic)[k]? = (l[k]?).map (Value.int .i64) := by
    intro l
    induction l with
    | nil => intro k; simp
    | cons y l ih => intro k; cases k with
      | zero => simp [ic]
      | succ k => simpa [ic] using ih k
  rw [this, hx]; rfl
theorem mixed_set {l c : List Int} (x : Int) (h : c.length < l.length) : (mixed l c).set c.length x = mixed l (c ++ [x]) := by
  unfold mixed
  rw [List.set_append_right _ _ (Nat.le_refl _), Nat.sub_self]
  have e := List.drop_eq_getElem_cons h
  rw [e, List.set_cons_zero]
  simp
theorem ints_put {xs : List Int} {sp : List Value} {z : Int} {k : Nat} {x : Int} (hz : z = (k : Int)) (hk : k < xs.length) : Put (0 + z.toNat * 1) [.int .i64 x] (xs.flatMap ic ++ sp) ((xs.set k x).flatMap ic ++ sp) := by
  subst hz
  have := put_at (xs.flatMap ic) k (.int .i64 x) sp (by rw [flat_len]; exact hk)
  have e : ∀ (l : List Int) (k : Nat), (l.set k x).flatMap ic = (l.flatMap ic).set k (.int .i64 x) := by
    intro l
    induction l with
    | nil => intro k; simp
    | cons y l ih => intro k; cases k with
      | zero => simp [ic]
      | succ k => simpa [ic] using ih k
  rw [Int.toNat_natCast, Nat.mul_one, Nat.zero_add, e]
  exact this
theorem zero_ints (m : Nat) : (Builtin.zeroCells (Value.int .i64 0).cells m).toList = (List.replicate m (0 : Int)).flatMap ic := by
  unfold Builtin.zeroCells
  have e : (Value.int .i64 0).cells = #[.int .i64 0] := rfl
  rw [e]
  apply List.ext_getElem
  · rw [flat_len]; simp
  · intro i h1 h2
    have hr : ∀ (m i : Nat) (h : i < ((List.replicate m (0 : Int)).flatMap ic).length), ((List.replicate m (0 : Int)).flatMap ic)[i] = .int .i64 0 := by
      intro m
      induction m with
      | zero => intro i h; simp at h
      | succ m ih => intro i h; cases i with
        | zero => simp [List.replicate_succ, ic]
        | succ i => simp only [List.replicate_succ, List.flatMap_cons, ic, List.singleton_append, List.getElem_cons_succ]; exact ih i _
    rw [hr]
    simp [Nat.mod_one]
theorem clear_put {l c : List Int} {sp : List Value} (h : c.length ≤ l.length) : Put c.length ((List.replicate (l.length - c.length) (0 : Int)).flatMap ic) ((mixed l c).flatMap ic ++ sp) (c.flatMap ic ++ ((List.replicate (l.length - c.length) (0 : Int)).flatMap ic ++ sp)) := by
  have := Put.mid (c.flatMap ic) ((List.replicate (l.length - c.length) (0 : Int)).flatMap ic) ((l.drop c.length).flatMap ic ++ sp) (by rw [flat_len, List.length_append, flat_len, List.length_replicate, List.length_drop]; omega)
  rw [flat_len] at this
  have e : (mixed l c).flatMap ic ++ sp = c.flatMap ic ++ ((l.drop c.length).flatMap ic ++ sp) := by simp [mixed, List.flatMap_append]
  rw [e]
  have e2 : ((l.drop c.length).flatMap ic ++ sp).drop ((List.replicate (l.length - c.length) (0 : Int)).flatMap ic).length = sp := by
    rw [flat_len, List.length_replicate, List.drop_append_of_le_length (by rw [flat_len]; simp), List.drop_of_length_le (by rw [flat_len]; simp)]; rfl
  rw [e2] at this
  exact this
variable {main : Bool} {J : Goroutine → Mem → Prop} (hJ : Closed prog main J)
include hJ
theorem compact_c {p cap : Nat} {sp : List Value} {l : List Int} {ro : RO} (hn : l.length ≤ 1000000000) (hcap : l.length ≤ cap) : CallV prog J (fnv 107) [.slice (some ⟨p, 0, none⟩) l.length cap] ro [(p, .cells (l.flatMap ic ++ sp).toArray 3 (0, 0))] fun v' ro' pre' => v' = .slice (some ⟨p, 0, none⟩) (compactL l).length cap ∧ ro' = ro ∧ ∃ r : List Value, pre' = [(p, .cells ((compactL l).flatMap ic ++ r).toArray 3 (0, 0))] := by
  refine CallV.intro (first := []) (cap := []) hJ (by kernel_rfl) fun c cs tail hret => ?_
  let J := J
  have hself : compactL l = l → Go.Lg.BackV J c cs ro tail (fun v' ro' pre' => v' = .slice (some ⟨p, 0, none⟩) l.length cap ∧ ro' = ro ∧ pre' = [(p, .cells (l.flatMap ic ++ sp).toArray 3 (0, 0))]) := fun e v ro' pre' own hl hp hs => by
    obtain ⟨h1, h2, h3⟩ := hp
    exact hret v ro' pre' own hl ⟨by rw [e]; exact h1, h2, sp, by rw [e]; exact h3⟩ hs
  refine enter_X (n := 61) func107 rfl rfl (Nl rfl) ?_
  have C : Ctx prog main J (bf 107 .normal) := ⟨hJ, by decide⟩
  refine Xr C rfl rfl <| Ad C rfl rfl <| Xs C <| Xr C rfl rfl <| Rm C rfl rfl <| R.lenSlice C rfl rfl rfl runUnderlying28 <| R.int C rfl rfl rfl rfl b_lss <| R.done C <| X.cond C.1 rfl (fun h2 => ?_) (fun h2 => ?_)
  · have h2 := h2
    simp only [decide_eq_true_eq] at h2
    have e : compactL l = l := by
      match l, h2 with
      | [], _ => rfl
      | [x], _ => rfl
      | _ :: _ :: _, h => simp at h; omega
    refine Xr C rfl rfl <| Rm C rfl rfl <| Ad C rfl rfl <| X.ret C rfl rfl func107 rfl (by exact .tmp rfl .nil) ?_
    exact hself e _ _ [_] _ (RO.le_refl _) ⟨rfl, rfl, rfl⟩ (.refl _)
  · have h2 := h2
    simp only [decide_eq_false_iff_not] at h2
    refine X.skip C.1 <| Xs C <| Xr C rfl rfl <| Ad C rfl rfl <| X.block C.1 <| X.loopI (ι := Nat) C.1 (fun k => 1 ≤ k ∧ k ≤ l.length ∧ compactL (l.take k) = l.take k) (fun k => [(0, .slice (some ⟨p, 0, none⟩) l.length cap), (3, .int .i64 (k : Int))])
      (fun _ => ⟨ro, (p, .cells (l.flatMap ic ++ sp).toArray 3 (0, 0)) :: tail⟩) (fun k => l.length - k) 1 ⟨Nat.le_refl _, by omega, by
        cases l with
        | nil => simp at h2
        | cons x l => rfl⟩ rfl ⟨rfl, rfl, trivial⟩ fun k hs hnext => ?_
    obtain ⟨hk1, hk2, hk3⟩ := hs
    refine Xs C <| Xr C rfl rfl <| Rm C rfl rfl <| Rm C rfl rfl <| R.lenSlice C rfl rfl rfl runUnderlying28 <| R.int C rfl rfl rfl rfl b_lss <| R.done C <| X.cond C.1 rfl (fun hlt => ?_) (fun hlt => ?_)
    · have hlt := hlt
      simp only [decide_eq_true_eq] at hlt
      have hk' : k < l.length := by omega
      refine X.skip C.1 <| Xs C <| X.block C.1 <| Xs C <| Xd C fun hok => Dm C 0 hok rfl rfl rfl <| Dm C 1 hok rfl rfl rfl <| Dx C 2 hok rfl rfl rfl runUnderlying28 sizeOf3 <| D1 C 3 hok rfl rfl isAgg3 (by repeat (first | exact Mh | apply Mt)) (ints_at (off := 0) (k := k) (x := l[k]) (by omega) (by omega) (List.getElem?_eq_getElem hk')) ?_; refine Dm C 4 hok rfl rfl rfl <| Dm C 5 hok rfl rfl rfl <| Di C 6 hok rfl rfl rfl rfl rfl (b_sub (by omega) (by omega)) <| Dx C 7 hok rfl rfl rfl runUnderlying28 sizeOf3 <| D1 C 8 hok rfl rfl isAgg3 (by repeat (first | exact Mh | apply Mt)) (ints_at (off := 0) (k := k - 1) (x := l[k - 1]) (by omega) (by omega) (List.getElem?_eq_getElem (by omega))) ?_; refine Di C 9 hok rfl rfl rfl rfl rfl b_eql <| D.done C hok (by kernel_rfl) ?_
      obtain ⟨q, rfl⟩ : ∃ q, k = q + 1 := ⟨k - 1, by omega⟩
      refine X.cond C.1 rfl (fun he => ?_) (fun he => ?_)
      · have he := he
        have he' : l[q + 1] = l[q] := by simpa using he
        refine Xr C rfl rfl <| Rm C rfl rfl <| Rm C rfl rfl <| R.sliceFrom C rfl rfl rfl rfl runUnderlying28 sizeOf3 (by omega) (by omega) <| Ad C rfl rfl <| Xs C <| Xr C rfl rfl <| Ad C rfl rfl <| X.block C.1 ?_
        obtain ⟨bs, hbs⟩ : ∃ bs, bs = (if cap = (((q + 1 : Nat) : Int)).toNat then some (⟨p, 0, none⟩ : Addr) else (some (⟨p, 0, none⟩ : Addr)).map (·.add ((((q + 1 : Nat) : Int)).toNat * 1))) := ⟨_, rfl⟩
        have hbs2 : bs = some ⟨p, q + 1, none⟩ := by
          rw [hbs, if_neg (by omega)]
          show some (Addr.add ⟨p, 0, none⟩ _) = _
          rw [add_addr]
          congr 2
          omega
        have hC1 : compactL (l.take (q + 1 + 1)) = l.take (q + 1) := by rw [compact_same hk' he', hk3]
        have hM1 : mixed l (l.take (q + 1)) = l := by
          unfold mixed
          rw [List.length_take, Nat.min_eq_left (by omega)]
          exact List.take_append_drop _ _
        have hL1 : (l.take (q + 1)).length = q + 1 := by rw [List.length_take]; omega
        refine X.loopI (ι := Nat) C.1 (fun j => 1 ≤ j ∧ q + 1 + j ≤ l.length ∧ (compactL (l.take (q + 1 + j))).length < q + 1 + j) (fun j => [(0, .slice (some ⟨p, 0, none⟩) l.length cap), (3, .int .i64 ((compactL (l.take (q + 1 + j))).length : Int)), (4, .slice (some ⟨p, q + 1, none⟩) (l.length - (q + 1)) (cap - (q + 1))), (5, .int .i64 (j : Int))])
          (fun j => ⟨ro, (p, .cells ((mixed l (compactL (l.take (q + 1 + j)))).flatMap ic ++ sp).toArray 3 (0, 0)) :: tail⟩) (fun j => l.length - j) 1 ⟨Nat.le_refl _, by omega, by rw [hC1, hL1]; omega⟩ (by rw [hC1, hM1]) ⟨rfl, by rw [hC1, hL1]; rfl, ?_, rfl, trivial⟩ fun j hs hnext2 => ?_
        · rw [← hbs2, hbs]; rfl
        obtain ⟨hj1, hj2, hj3⟩ := hs
        have hcs : q + 1 + j < l.length → compactL (l.take (q + 1 + (j + 1))) = cstep (compactL (l.take (q + 1 + j))) l[q + 1 + j]! := fun h => by
          rw [getElem!_pos l (q + 1 + j) h]; exact compact_take h
        have hcl : compactL (l.take (q + 1 + j)) ≠ [] → True := fun _ => trivial
        have hgl : (compactL (l.take (q + 1 + j))).getLast? = some l[q + j] := by
          have := compact_last (l := l) (i := q + j) (by omega)
          rw [show q + j + 1 = q + 1 + j by omega] at this
          exact this
        have hgo := hnext2 (j + 1)
        generalize hcc : compactL (l.take (q + 1 + j)) = cc at *
        refine Xs C <| Xr C rfl rfl <| Rm C rfl rfl <| Rm C rfl rfl <| R.lenSlice C rfl rfl rfl runUnderlying28 <| R.int C rfl rfl rfl rfl b_lss <| R.done C <| X.cond C.1 rfl (fun hlt2 => ?_) (fun hlt2 => ?_)
        · have hlt2 := hlt2
          simp only [decide_eq_true_eq] at hlt2
          have hj' : q + 1 + j < l.length := by omega
          have hcs := hcs hj'
          rw [getElem!_pos l _ hj'] at hcs
          refine X.skip C.1 <| Xs C <| X.block C.1 <| Xs C <| Xd C fun hok => Dm C 0 hok rfl rfl rfl <| Dm C 1 hok rfl rfl rfl <| Dx C 2 hok rfl rfl rfl runUnderlying28 sizeOf3 <| D1 C 3 hok rfl rfl isAgg3 (by repeat (first | exact Mh | apply Mt)) (ints_at (k := q + 1 + j) (x := l[q + 1 + j]) (by omega) (by omega) (mixed_at (by omega) hj')) <| Dm C 4 hok rfl rfl rfl <| Dm C 5 hok rfl rfl rfl <| Di C 6 hok rfl rfl rfl rfl rfl (b_sub (by omega) (by omega)) <| Dx C 7 hok rfl rfl rfl runUnderlying28 sizeOf3 <| D1 C 8 hok rfl rfl isAgg3 (by repeat (first | exact Mh | apply Mt)) (ints_at (k := q + j) (x := l[q + j]) (by omega) (by omega) (mixed_at (by omega) (by omega))) <| Di C 9 hok rfl rfl rfl rfl rfl b_neq <| D.done C hok (by kernel_rfl) <| X.cond C.1 rfl (fun hne => ?_) (fun hne => ?_)
          · have hne := hne
            have hne' : l[q + 1 + j] ≠ l[q + j] := by simpa using hne
            rw [cstep, if_neg (by rw [hgl]; intro h; exact hne' (Option.some.inj h).symm)] at hcs
            rw [hcs] at hgo
            refine Xr C rfl rfl <| Rm C rfl rfl <| Rm C rfl rfl <| Rm C rfl rfl <| Rm C rfl rfl <| Rx C rfl rfl rfl runUnderlying28 sizeOf3 <| R.loadOne C rfl rfl rfl isAgg3 (by repeat (first | exact Mh | apply Mt)) (ints_at (k := q + 1 + j) (x := l[q + 1 + j]) (by omega) (by omega) (mixed_at (by omega) hj')) <| Rx C rfl rfl rfl runUnderlying28 sizeOf3 <| R.store C rfl rfl rfl rfl sizeOf3 rfl rfl rfl (by repeat (first | exact Uh | apply Ut)) (ints_put (k := cc.length) (by omega) (by rw [mixed_len (by omega)]; omega)) <| R.done C <| X.region C rfl rfl <| Rm C rfl rfl <| R.int C rfl rfl rfl rfl (b_add (by omega) (by omega)) <| Ad C rfl rfl <| X.inBlock C.1 <| X.region C rfl rfl <| Rm C rfl rfl <| R.int C rfl rfl rfl rfl (b_add (by omega) (by omega)) <| Ad C rfl rfl ?_
            rw [mixed_set _ (by omega)]
            refine X.weaken ?_ (hgo ⟨by omega, by omega, by rw [List.length_append]; simp; omega⟩ (by omega))
            exact ⟨rfl, by simp [look], rfl, by simp [look], trivial⟩
          · have hne := hne
            have hne' : l[q + 1 + j] = l[q + j] := by simpa using hne
            rw [cstep, if_pos (by rw [hgl, hne'])] at hcs
            rw [hcs] at hgo
            refine X.skip C.1 <| X.inBlock C.1 <| X.region C rfl rfl <| Rm C rfl rfl <| R.int C rfl rfl rfl rfl (b_add (by omega) (by omega)) <| Ad C rfl rfl <| X.weaken ?_ (hgo ⟨by omega, by omega, by omega⟩ (by omega))
            exact ⟨rfl, rfl, rfl, by simp [look], trivial⟩
        · have hlt2 := hlt2
          simp only [decide_eq_false_iff_not] at hlt2
          have hjn : q + 1 + j = l.length := by omega
          rw [hjn, List.take_length] at hcc
          have hm : l.length - cc.length - 1 + 1 = l.length - cc.length := by omega
          have hv56 : Value.slice (if cap = ((cc.length : Nat) : Int).toNat then some (⟨p, 0, none⟩ : Addr) else (some (⟨p, 0, none⟩ : Addr)).map (·.add (((cc.length : Nat) : Int).toNat * 1))) (l.length - ((cc.length : Nat) : Int).toNat) (cap - ((cc.length : Nat) : Int).toNat) = .slice (some ⟨p, cc.length, none⟩) (l.length - cc.length - 1 + 1) (cap - cc.length) := by
            rw [if_neg (by omega), hm]
            show Value.slice (some (Addr.add ⟨p, 0, none⟩ _)) _ _ = _
            rw [add_addr]
            congr 2
            congr 1
            omega
          refine X.exit C.1 rfl <| Xr C rfl rfl <| Rm C rfl rfl <| Rm C rfl rfl <| R.sliceFrom C rfl rfl rfl rfl runUnderlying28 sizeOf3 (by omega) (by omega) <| R.fixv (t := 56) (v' := .slice (some ⟨p, cc.length, none⟩) (l.length - cc.length - 1 + 1) (cap - cc.length)) rfl (by exact hv56) <| R.clearS C rfl rfl rfl runUnderlying28 zeroValue3 (by rw [hm]; exact zero_ints _) (ones_ic _) (by repeat (first | exact Uh | apply Ut)) (clear_put (by omega)) <| R.done C <| Xr C rfl rfl <| Rm C rfl rfl <| Rm C rfl rfl <| R.sliceTo C rfl rfl rfl rfl runUnderlying28 sizeOf3 (by omega) (by omega) <| Ad C rfl rfl <| X.ret C rfl rfl func107 rfl (by exact .tmp rfl .nil) ?_
          exact hret _ _ [_] _ (RO.le_refl _) ⟨by rw [hcc, Int.toNat_natCast]; rfl, rfl, _, by rw [hcc]⟩ (.refl _)
      · have he := he
        have he' : l[q + 1] ≠ l[q] := by simpa using he
        refine X.skip C.1 <| X.inBlock C.1 <| X.region C rfl rfl <| Rm C rfl rfl <| R.int C rfl rfl rfl rfl (b_add (by omega) (by omega)) <| Ad C rfl rfl <| X.weaken ?_ (hnext (q + 2) ⟨by omega, by omega, ?_⟩ (by omega))
        · exact ⟨rfl, by simp [look]; omega, trivial⟩
        · rw [compact_new hk' he', hk3, List.take_succ_eq_append_getElem hk']
    · have hlt := hlt
      simp only [decide_eq_false_iff_not] at hlt
      obtain rfl : k = l.length := by omega
      rw [List.take_length] at hk3
      refine X.exit C.1 rfl <| Xr C rfl rfl <| Rm C rfl rfl <| Ad C rfl rfl <| X.ret C rfl rfl func107 rfl (by exact .tmp rfl .nil) ?_
      exact hself hk3 _ _ [_] _ (RO.le_refl _) ⟨rfl, rfl, rfl⟩ (.refl _)
end Go.Lg.B
namespace Go.Lg.B
open Go Go.Conc Go.Lg Go.Proofs Go.Proofs.Tryz
def offOf (b : Bk) (k : Int) : List Int × Int := if openH b (b.compass k) ≠ 0 then ([], openH b (b.compass k)) else (compactL (((cases b).map fun c => c.a.off k).mergeSort fun x y => decide (x ≤ y)), 0)
theorem Lot.getOff (c : Lot) {k : Int} (h0 : 0 ≤ k) (h1 : k < 3) : c.cells[2 + k.toNat * 1]? = some (.int .i64 (c.a.off k)) := by
  have : k = 0 ∨ k = 1 ∨ k = 2 := by omega
  rcases this with rfl | rfl | rfl <;> rfl
variable {main : Bool} {J : Goroutine → Mem → Prop} (hJ : Closed prog main J)
include hJ
theorem off1_c' {b : Bk} {v : Value} {ro : RO} (hv : BkV ro v b) (hs : b.small) {p : Nat} {t : TypeId} {fq : Nat × Nat} (k : Int) (hp : ro p = some (.cells [.int .i64 k].toArray t fq)) : CallP prog J (.func (.func 104) #[] [.pointer (some ⟨p, 0, none⟩)].toArray) [v] ro (.int .i64 (b.compass k)) := by
  have hvv := hv
  obtain ⟨vc, vw, rfl, hc, hw⟩ := hv
  obtain ⟨cb, cc, rfl⟩ := hc.form
  obtain ⟨wb, wc, rfl⟩ := hw.form
  refine CallP.introC hJ (by kernel_rfl) fun c cs tail hret => enter_X (n := 7) func104 rfl rfl (Nl rfl) ?_
  have C : Ctx prog main J (bf 104 .normal) := ⟨hJ, by decide⟩
  refine Xr C rfl rfl <| R.box C rfl rfl rfl rfl fun p2 => Ad C rfl rfl <| Xr C rfl rfl <| R.loadAgg C rfl rfl rfl isAgg105 sizeOf105 (by repeat (first | exact Mh | apply Mt)) Tk5 <| R.loadOneRo C rfl rfl rfl isAgg3 hp rfl <| R.callP C rfl rfl rfl rfl (compass_c hJ hvv hs k) <| Ad C rfl rfl <| Xt C func104 <| Hp hret ?_
  rfl
theorem off_c {b : Bk} {v : Value} {ro : RO} (he : Env ro) (hv : BkV ro v b) (hs : b.short) (k : Int) : CallR prog J (fnv 35) [v, .int .i64 k] ro (fun w ro' => ∃ vl, LsI ro' vl (offOf b k).1 ∧ w = .tuple [vl, .int .i64 (offOf b k).2].toArray) := by
  obtain ⟨vc, vw, rfl, hc, hw⟩ := hv
  obtain ⟨cb, cc, rfl⟩ := hc.form
  obtain ⟨wb, wc, rfl⟩ := hw.form
  refine CallR.intro hJ (by kernel_rfl) fun c cs tail hret => enter_X (n := 40) func35 rfl rfl (Nl rfl) ?_
  have C : Ctx prog main J (bf 35 .normal) := ⟨hJ, by decide⟩
  refine Xr C rfl rfl <| R.box C rfl rfl rfl rfl fun p2 => R.box C rfl rfl rfl rfl fun p3 => R.asg C rfl rfl rfl <| Ad C rfl rfl <| Xr C rfl rfl <| R.persist C.1 fun ro1 hl1 hps => ?_
  have hc1 := hc.mono hl1
  have hw1 := hw.mono hl1
  refine R.loadAgg C rfl rfl rfl isAgg25 sizeOf25 (by repeat (first | exact Mh | apply Mt)) Tk5 <| R.makeFunc C rfl rfl rfl rfl <| R.callR C rfl rfl rfl rfl ((open_c hJ (he.mono hl1) hc1 hw1 hs _ (b.compass k) fun hg => off1_c' hJ ⟨_, _, rfl, hc1, hw1⟩ hg.small k hps)) fun v' ro2 hl2 hp => ?_
  have hps := hl2 _ _ hps
  rcases hp with ⟨h0, rfl⟩ | ⟨h0, vl, hls, rfl⟩
  ·
    refine Rm C rfl rfl <| R.ext C rfl rfl rfl rfl <| R.ext C rfl rfl rfl rfl <| R.alloc C rfl rfl zeroValue126 rfl fun p6 => R.store C rfl rfl rfl rfl sizeOf126 rfl rfl rfl (by repeat (first | exact Uh | apply Ut)) (.here (.here (.here (.here (.here (.here .nil)))))) <| Ad C rfl rfl <| Xs C <| Xr C rfl rfl <| Rm C rfl rfl <| R.int C rfl rfl rfl rfl b_neq <| R.done C <| X.cond C.1 rfl (fun hq => ?_) (fun hq => ?_)
    · have hq := hq
      refine Xr C rfl rfl <| Rm C rfl rfl <| R.asg C rfl rfl rfl <| Ad C rfl rfl <| X.ret C rfl rfl func35 rfl (by exact (.tmp rfl (.tmp rfl .nil))) <| Hr hret (RO.le_trans hl1 hl2) ?_
      exact ⟨_, by rw [offOf, if_pos h0]; exact .nil, by rw [offOf, if_pos h0]; rfl⟩
    · have hq := hq
      simp at hq; contradiction
  ·
    obtain ⟨hb, hk0, hcn⟩ := openH_good h0
    have hcl := cases_le hb
    have hnc := hb.nc
    have hkb : 0 ≤ k ∧ k < 3 := by
      have := there_zero.1 hk0
      simp only [between, Bool.and_eq_true, decide_eq_true_eq] at this
      omega
    have hpos : 0 < (cases b).length := by
      cases h : cases b with
      | nil => exact absurd h hcn
      | cons => simp
    obtain ⟨lb, lc, rfl⟩ := hls.form
    refine Rm C rfl rfl <| R.ext C rfl rfl rfl rfl <| R.ext C rfl rfl rfl rfl <| R.alloc C rfl rfl zeroValue126 rfl fun p6 => R.store C rfl rfl rfl rfl sizeOf126 rfl rfl rfl (by repeat (first | exact Uh | apply Ut)) (.here (.here (.here (.here (.here (.here .nil)))))) <| Ad C rfl rfl <| Xs C <| Xr C rfl rfl <| Rm C rfl rfl <| R.int C rfl rfl rfl rfl b_neq <| R.done C <| X.cond C.1 rfl (fun hq => ?_) (fun hq => ?_)
    · have hq := hq
      simp at hq
    · have hq := hq
      refine X.skip C.1 <| Xr C rfl rfl <| Ad C rfl rfl <| Xs C <| Xr C rfl rfl <| Rf C 5 rfl rfl runUnderlying126 rfl sizeOf124 <| R.loadOne C rfl rfl rfl isAgg124 (by repeat (first | exact Mh | apply Mt)) rfl <| R.lenSlice C rfl rfl rfl runUnderlying124 <| Rm C rfl rfl <| R.done C <| X.block C.1 <| X.drop C.1 (own' := tail) (by repeat (first | exact Sr | apply Sc)) <| X.loopI (ι := Nat × Value × List (Nat × Obj)) C.1 (fun s => s.1 ≤ (cases b).length ∧ Buf 3 1 tail s.2.1 ((((cases b).map fun c => c.a.off k).take s.1).flatMap ic) s.2.2)
        (fun s => [(3, .pointer (some ⟨p3, 0, none⟩)), (8, s.2.1), (21, .slice lb (cases b).length lc), (22, .int .i64 ((cases b).length : Int)), (23, .int .i64 (s.1 : Int))])
        (fun s => ⟨ro2, s.2.2⟩) (fun s => (cases b).length - s.1) (0, .slice none 0 0, tail) ⟨Nat.zero_le _, .nil⟩ rfl ⟨rfl, rfl, rfl, rfl, rfl, trivial⟩ fun s hs' hnext => ?_
      obtain ⟨i, v0, own0⟩ := s
      obtain ⟨hi, hbuf⟩ := hs'
      simp only at hi hbuf hnext ⊢
      refine Xr C rfl rfl <| R.int C rfl rfl rfl rfl b_lss <| R.done C <| Xs C <| X.cond C.1 rfl (fun hlt => ?_) (fun hlt => ?_)
      · have hlt := hlt
        simp only [decide_eq_true_eq] at hlt
        have hi' : i < (cases b).length := by omega
        obtain ⟨pp, off, cap, l, t, fq, hsl, hrop, hsub⟩ := hls.at Lot.len (by omega)
        cases hsl
        have hfc := flat_len (((cases b).map fun c => c.a.off k).take i)
        rw [List.length_take, List.length_map] at hfc
        refine X.skip C.1 <| Xs C <| X.block C.1 <| Xr C rfl rfl <| Rx C rfl rfl rfl runUnderlying124 sizeOf111 <| R.loadAggRo C rfl rfl rfl isAgg111 sizeOf111 hrop (hsub i hi') <| R.alloc C rfl rfl zeroValue111 rfl fun p10 => R.store C rfl rfl rfl rfl sizeOf111 rfl rfl rfl (by repeat (first | exact Uh | apply Ut)) (.here (.here (.here (.here (.here (.here .nil)))))) <| R.done C <| X.region C rfl rfl <| Rm C rfl rfl <| R.loadOneRo C rfl rfl rfl isAgg3 hps rfl <| Rf C 0 rfl rfl runUnderlying111 rfl sizeOf109 <| Rf C 2 rfl rfl runUnderlying109 rfl sizeOf107 <| R.indexAddrA C rfl rfl rfl rfl runUnderlying107 sizeOf3 (by omega) (by omega) <| R.loadOne C rfl rfl rfl isAgg3 (by repeat (first | exact Mh | apply Mt)) ((cases b)[i].getOff hkb.1 hkb.2) <| R.buildSlice C (vs := _) rfl rfl (show pvals _ _ = some (numbered 0 [_]) from rfl) rfl runUnderlying28 sizeOf3 zeroValue3 (by decide) (Cat.one rfl rfl) fun p33 => R.append2 (kk := 1) C [_] rfl rfl rfl rfl runUnderlying28 runUnderlying28 (fun _ => nofun) (show prog.info? 3 = some Tryz.t3 by kernel_rfl) rfl rfl rfl (by decide) (by decide) hbuf rfl rfl (by simp only [List.length_append, List.length_cons, List.length_nil]; omega) fun v' own' hb' => Ad C rfl rfl <| X.inBlock C.1 <| X.region C rfl rfl <| R.int C rfl rfl rfl rfl (b_add (by omega) (by omega)) <| Rm C rfl rfl <| R.done C <| X.drop C.1 (own' := own') (List.sublist_cons_self _ _) <| X.weaken ?_ (hnext (i + 1, v', own') ⟨hi', ?_⟩ (by simp; omega))
        · exact ⟨rfl, rfl, rfl, rfl, by simp [look], trivial⟩
        · have : ((cases b).map fun c => c.a.off k).take (i + 1) = ((cases b).map fun c => c.a.off k).take i ++ [(cases b)[i].a.off k] := by
            rw [List.take_succ_eq_append_getElem (by simpa using hi'), List.getElem_map]
          rw [this, List.flatMap_append]
          exact hb'
      · have hlt := hlt
        simp only [decide_eq_false_iff_not] at hlt
        obtain rfl : i = (cases b).length := by omega
        have hall : ((cases b).map fun c => c.a.off k).take (cases b).length = (cases b).map fun c => c.a.off k := by rw [List.take_of_length_le]; simp
        rw [hall] at hbuf
        have hol : ((cases b).map fun c => c.a.off k).length = (cases b).length := by simp
        have hres : offOf b k = (compactL (((cases b).map fun c => c.a.off k).mergeSort fun x y => decide (x ≤ y)), 0) := by rw [offOf, if_neg (by simp [h0])]
        generalize (cases b).map (fun c => c.a.off k) = L at *
        obtain ⟨p, cap, sp, rfl, rfl, hcap⟩ : ∃ p cap sp, v0 = .slice (some ⟨p, 0, none⟩) L.length cap ∧ own0 = (p, .cells (L.flatMap ic ++ sp).toArray 3 (0, 0)) :: tail ∧ L.length ≤ cap := by
          have hfl := flat_len L
          generalize L.flatMap ic = cl at hbuf hfl
          cases hbuf with
          | nil => simp at hfl; omega
          | blk c1 c2 c3 =>
            rename_i p len cap spare
            obtain rfl : len = L.length := by omega
            exact ⟨p, cap, spare, rfl, rfl, c3⟩
        have hsl : (L.mergeSort fun x y => decide (x ≤ y)).length = L.length := List.length_mergeSort _
        have hsc := sort_c hJ (p := p) (cap := cap) (sp := sp) (l := L) (ro := ro2) (by omega)
        have hcc := compact_c hJ (p := p) (cap := cap) (sp := sp) (l := L.mergeSort fun x y => decide (x ≤ y)) (ro := ro2) (by omega) (by omega)
        rw [hsl] at hcc
        refine X.exit C.1 rfl <| Xr C rfl rfl <| Rm C rfl rfl <| R.call C rfl rfl rfl rfl rfl hsc fun v1 ro4 pre1 hle1 hq1 => R.done C <| Xr C rfl rfl ?_
        obtain ⟨rfl, rfl, rfl⟩ := hq1
        refine Rm C rfl rfl <| R.call C rfl rfl rfl rfl rfl hcc fun v1 ro4 pre1 hle1 hq1 => ?_
        obtain ⟨rfl, rfl, r, rfl⟩ := hq1
        refine R.asg C rfl rfl rfl <| Ad C rfl rfl <| X.persist C.1 fun ro5 hl5 hp5 => X.ret C rfl rfl func35 rfl (by exact (.tmp rfl (.tmp rfl .nil))) <| Hr hret (RO.le_trans hl1 (RO.le_trans hl2 hl5)) ?_
        rw [hres]
        refine ⟨_, ⟨_, _, rfl, .inr ⟨p, 0, _, _, _, rfl, hp5, ?_⟩⟩, rfl⟩
        have := Sub.front ((compactL (L.mergeSort fun x y => decide (x ≤ y))).flatMap ic) r
        rw [flat_len] at this
        rw [Nat.mul_one]
        exact this
end Go.Lg.B
namespace Go.Lg
open Go Go.Conc
theorem Upd.app {own own' : List (Nat × Obj)} {p : Nat} {o o' : Obj} (A : List (Nat × Obj)) (h : Upd own p o o' own') : Upd (A ++ own) p o o' (A ++ own') := by
  induction A with
  | nil => exact h
  | cons x A ih => exact .there ih
theorem ones_flat {α : Type} {enc : α → List Value} (h : ∀ x, ones (enc x) = true) (l : List α) : ones (l.flatMap enc) = true := by
  have app : ∀ a c : List Value, ones a = true → ones c = true → ones (a ++ c) = true := by
    intro a c
    induction a with
    | nil => intro _ h; exact h
    | cons x a ih => intro h1 h2; simp only [List.cons_append, ones, Bool.and_eq_true] at h1 ⊢; exact ⟨h1.1, ih h1.2 h2⟩
  induction l with
  | nil => rfl
  | cons x l ih => rw [List.flatMap_cons]; exact app _ _ (h x) ih
end Go.Lg
namespace Go.Lg.B
open Go Go.Conc Go.Lg Go.Proofs Go.Proofs.Tryz
theorem ones_W (xs : List Wt) : ones (xs.flatMap Wt.cells) = true := ones_flat (fun _ => rfl) xs
theorem ones_C (xs : List Rc) : ones (xs.flatMap Rc.cells) = true := ones_flat (fun _ => rfl) xs
variable {main : Bool} {J : Goroutine → Mem → Prop} (hJ : Closed prog main J)
include hJ
theorem cloneW_c {v : Value} {xs : List Wt} {ro : RO} (hls : Ls Wt.cells 5 ro v xs) (hn : xs.length ≤ 1000000) : CallV prog J (fnv 115) [v] ro [] (fun v' ro' pre' => ro' = ro ∧ Buf 58 5 [] v' (xs.flatMap Wt.cells) pre') := by
  have hls0 := hls
  obtain ⟨base, cap, rfl, hbase⟩ := hls
  refine CallV.intro (first := []) (cap := []) hJ (by kernel_rfl) fun c cs tail hret => ?_
  let J := J
  have hfl := flatMap_len Wt.len xs
  refine enter_X (n := 8) func115 rfl rfl (Nl rfl) ?_
  have C : Ctx prog main J (bf 115 .normal) := ⟨hJ, by decide⟩
  refine Xr C rfl rfl <| Ad C rfl rfl <| Xs C <| Xr C rfl rfl <| Rm C rfl rfl <| R.eqNil C rfl rfl rfl rfl runUnderlying23 <| R.done C <| X.cond C.1 rfl (fun hz => ?_) (fun hz => ?_)
  · have hz := hz
    have hx : xs = [] := by
      rcases hbase with h | ⟨_, _, _, _, _, h, _⟩
      · exact h
      · rw [h] at hz; cases hz
    subst hx
    refine Xr C rfl rfl <| Ad C rfl rfl <| X.ret C rfl rfl func115 rfl (by exact .tmp rfl .nil) ?_
    exact hret _ _ [] _ (RO.le_refl _) ⟨rfl, .nil⟩ (.refl _)
  · have hz := hz
    refine X.skip C.1 <| Xr C rfl rfl <| R.buildSlice C (vs := _) rfl rfl (show pvals _ _ = some (numbered 0 []) from rfl) rfl runUnderlying23 sizeOf58 zeroValue58 (by decide) (.nil) fun p5 => Rm C rfl rfl <| R.append (kk := 5) C rfl rfl rfl rfl runUnderlying23 runUnderlying23 (fun _ => nofun) (show prog.info? 58 = some Tryz.t58 by kernel_rfl) rfl rfl rfl (by decide) (by decide) (Buf.blk (cells := []) (spare := []) (len := 0) (cap := 0) rfl rfl (Nat.le_refl _)) (hls0.rd Wt.len) (ones_W xs) (by simp only [List.length_nil]; omega) fun v' own' hb' => Ad C rfl rfl <| X.ret C rfl rfl func115 rfl (by exact .tmp rfl .nil) ?_
    obtain ⟨own0, rfl, hb0⟩ := Buf.unapp (tail := []) (H := tail) hb'
    exact hret _ _ own0 _ (RO.le_refl _) ⟨rfl, hb0⟩ (.refl _)
theorem cloneC_c {v : Value} {xs : List Rc} {ro : RO} (hls : Ls Rc.cells 2 ro v xs) (hn : xs.length ≤ 1000000) : CallV prog J (fnv 119) [v] ro [] (fun v' ro' pre' => ro' = ro ∧ Buf 46 2 [] v' (xs.flatMap Rc.cells) pre') := by
  have hls0 := hls
  obtain ⟨base, cap, rfl, hbase⟩ := hls
  refine CallV.intro (first := []) (cap := []) hJ (by kernel_rfl) fun c cs tail hret => ?_
  let J := J
  have hfl := flatMap_len Rc.len xs
  refine enter_X (n := 8) func119 rfl rfl (Nl rfl) ?_
  have C : Ctx prog main J (bf 119 .normal) := ⟨hJ, by decide⟩
  refine Xr C rfl rfl <| Ad C rfl rfl <| Xs C <| Xr C rfl rfl <| Rm C rfl rfl <| R.eqNil C rfl rfl rfl rfl runUnderlying22 <| R.done C <| X.cond C.1 rfl (fun hz => ?_) (fun hz => ?_)
  · have hz := hz
    have hx : xs = [] := by
      rcases hbase with h | ⟨_, _, _, _, _, h, _⟩
      · exact h
      · rw [h] at hz; cases hz
    subst hx
    refine Xr C rfl rfl <| Ad C rfl rfl <| X.ret C rfl rfl func119 rfl (by exact .tmp rfl .nil) ?_
    exact hret _ _ [] _ (RO.le_refl _) ⟨rfl, .nil⟩ (.refl _)
  · have hz := hz
    refine X.skip C.1 <| Xr C rfl rfl <| R.buildSlice C (vs := _) rfl rfl (show pvals _ _ = some (numbered 0 []) from rfl) rfl runUnderlying22 sizeOf46 zeroValue46 (by decide) (.nil) fun p5 => Rm C rfl rfl <| R.append (kk := 2) C rfl rfl rfl rfl runUnderlying22 runUnderlying22 (fun _ => nofun) (show prog.info? 46 = some Tryz.t46 by kernel_rfl) rfl rfl rfl (by decide) (by decide) (Buf.blk (cells := []) (spare := []) (len := 0) (cap := 0) rfl rfl (Nat.le_refl _)) (hls0.rd Rc.len) (ones_C xs) (by simp only [List.length_nil]; omega) fun v' own' hb' => Ad C rfl rfl <| X.ret C rfl rfl func119 rfl (by exact .tmp rfl .nil) ?_
    obtain ⟨own0, rfl, hb0⟩ := Buf.unapp (tail := []) (H := tail) hb'
    exact hret _ _ own0 _ (RO.le_refl _) ⟨rfl, hb0⟩ (.refl _)
end Go.Lg.B
namespace Go.Lg
open Go Go.Conc
theorem R.finish {P : Program} {main : Bool} {J : Goroutine → Mem → Prop} {b : Frame} {cs : List Frame} {n : Nat} {ds : List Deferred} {σ : Slots} {ro : RO} {own : List (Nat × Obj)} {k : List Item} {ops : Array Oper} {l : List Nat} {α : Type} {enc : α → List Value} {e : TypeId} {kk : Nat} {v : Value} {xs : List α} {tail : List (Nat × Obj)} (hJ : Closed P main J) (hk : ∀ x, (enc x).length = kk) (hkp : 0 < kk) (hb : Buf e kk tail v (xs.flatMap enc) own)
    (h : ∀ ro' : RO, ro.le ro' → Ls enc kk ro' v xs → R J b cs n ops l k ds σ ⟨ro', tail⟩) : R J b cs n ops l k ds σ ⟨ro, own⟩ := fun hok => X.finish hJ hk hkp hb fun ro' hl hls => h ro' hl hls hok
end Go.Lg
namespace Go.Lg.B
open Go Go.Conc Go.Lg Go.Proofs Go.Proofs.Tryz
def noBk : Value := .agg [.int .i64 0, .int .i64 0, .int .i64 0, .slice none 0 0, .slice none 0 0].toArray
def NewV (ro : RO) (b : Bk) (h : Int) (w : Value) : Prop := (h ≠ 0 ∧ w = .tuple [noBk, .int .i64 h].toArray) ∨ (h = 0 ∧ ∃ v, BkV ro v b ∧ w = .tuple [v, .int .i64 0].toArray)
variable {main : Bool} {J : Goroutine → Mem → Prop} (hJ : Closed prog main J)
include hJ
theorem agreed_c {b : Bk} {v : Value} {ro : RO} (he : Env ro) (hv : BkV ro v b) (hs : b.short) : CallR prog J (fnv 116) [v] ro (fun w ro' => NewV ro' b (openH b 0) w) := by
  have hvv := hv
  obtain ⟨vc, vw, rfl, hc, hw⟩ := hv
  obtain ⟨cb, cc, rfl⟩ := hc.form
  obtain ⟨wb, wc, rfl⟩ := hw.form
  refine CallR.intro hJ (by kernel_rfl) fun c cs tail hret => enter_X (n := 24) func116 rfl rfl (Nl rfl) ?_
  have C : Ctx prog main J (bf 116 .normal) := ⟨hJ, by decide⟩
  refine Xr C rfl rfl <| R.box C rfl rfl rfl rfl fun p1 => R.alloc C rfl rfl zeroValue25 rfl fun p2 => Ad C rfl rfl <| Xs C <| Xr C rfl rfl <| R.loadAgg C rfl rfl rfl isAgg25 sizeOf25 (by repeat (first | exact Mh | apply Mt)) Tk5 <| R.callR C rfl rfl rfl rfl ((open_c hJ he hc hw hs _ 0 fun hg => nothing_c hJ b hvv)) fun v1 ro2 hl2 hp => ?_
  rcases hp with ⟨h0, rfl⟩ | ⟨h0, vl, hls, rfl⟩
  ·
    refine Rm C rfl rfl <| R.ext C rfl rfl rfl rfl <| R.ext C rfl rfl rfl rfl <| R.alloc C rfl rfl zeroValue126 rfl fun p4 => R.store C rfl rfl rfl rfl sizeOf126 rfl rfl rfl (by repeat (first | exact Uh | apply Ut)) (.here (.here (.here (.here (.here (.here .nil)))))) <| Ad C rfl rfl <| Xr C rfl rfl <| Rm C rfl rfl <| R.int C rfl rfl rfl rfl b_neq <| R.done C <| X.cond C.1 rfl (fun hq => ?_) (fun hq => ?_)
    · have hq := hq
      refine Xr C rfl rfl <| R.build C rfl rfl rfl zeroValue25 rfl runUnderlying25 (by kernel_rfl) .nil <| Rm C rfl rfl <| R.store C rfl rfl rfl rfl sizeOf25 rfl rfl rfl (by repeat (first | exact Uh | apply Ut)) (.here (.here (.here (.here (.here .nil))))) <| Ad C rfl rfl <| X.ret C rfl rfl func116 rfl (by exact (.agg rfl isAgg25 sizeOf25 (by repeat (first | exact Mh | apply Mt)) Tk5 (.tmp rfl .nil))) <| Hr hret hl2 ?_
      exact .inl ⟨h0, rfl⟩
    · have hq := hq
      simp at hq; contradiction
  ·
    have hb : b.good := (openH_good h0).1
    have hnc := hb.nc
    have hnw := hb.nw
    obtain ⟨lb, lc, rfl⟩ := hls.form
    refine Rm C rfl rfl <| R.ext C rfl rfl rfl rfl <| R.ext C rfl rfl rfl rfl <| R.alloc C rfl rfl zeroValue126 rfl fun p4 => R.store C rfl rfl rfl rfl sizeOf126 rfl rfl rfl (by repeat (first | exact Uh | apply Ut)) (.here (.here (.here (.here (.here (.here .nil)))))) <| Ad C rfl rfl <| Xr C rfl rfl <| Rm C rfl rfl <| R.int C rfl rfl rfl rfl b_neq <| R.done C <| X.cond C.1 rfl (fun hq => ?_) (fun hq => ?_)
    · have hq := hq
      simp at hq
    · have hq := hq
      refine X.skip C.1 <| Xs C <| Xd C fun hok => Df (off' := 3) C 0 hok rfl rfl rfl runUnderlying25 rfl sizeOf22 rfl <| Dl 1 hok (fun _ _ A h => R.loadOne C rfl (A.w rfl rfl) (A.x rfl rfl) isAgg22 (by repeat (first | exact Mh | apply Mt | apply List.mem_append_right)) rfl h) <| Df (off' := 4) C 3 hok rfl rfl rfl runUnderlying25 rfl sizeOf23 rfl <| Dl 4 hok (fun _ _ A h => R.loadOne C rfl (A.w rfl rfl) (A.x rfl rfl) isAgg23 (by repeat (first | exact Mh | apply Mt | apply List.mem_append_right)) rfl h) <| De 2 (some 17) [true, false] hok (fun σr rest A hk => ?_)
      refine R.call C rfl (A.w rfl rfl) (A.x rfl rfl) (A.s rfl rfl) (pre := []) rfl (cloneC_c hJ (hc.mono hl2) (by omega)) fun vC roC preC hleC hqC => hk _ _ ⟨(QFs.cons (QF.of rfl (fun _ _ A h => R.loadOne C rfl (A.w rfl rfl) (A.x rfl rfl) isAgg23 (by repeat (first | exact Mh | apply Mt | apply List.mem_append_right)) rfl h)) QFs.nil), ?_⟩
      refine Df (off' := 3) C 6 hok rfl rfl rfl runUnderlying25 rfl sizeOf22 rfl <| De 5 (some 20) [false] hok (fun σr rest A hk => ?_)
      obtain ⟨rfl, hbC⟩ := hqC
      obtain ⟨bsC, capC, rfl⟩ := hbC.form (by decide)
      refine R.call C rfl (A.w rfl rfl) (A.x rfl rfl) (A.s rfl rfl) (pre := []) rfl (cloneW_c hJ (hw.mono hl2) (by omega)) fun vW roW preW hleW hqW => hk _ _ ⟨QFs.nil, ?_⟩
      refine De 7 none [] hok (fun σr rest A hk => ?_)
      obtain ⟨rfl, hbW⟩ := hqW
      obtain ⟨bsW, capW, rfl⟩ := hbW.form (by decide)
      refine R.store C rfl (A.w rfl rfl) (A.x rfl rfl) (A.x rfl rfl) sizeOf22 rfl rfl rfl (by repeat (first | exact Uh | apply Ut | apply Upd.app)) (.skip (.skip (.skip (.here .nil)))) (hk undef _ ⟨QFs.nil, ?_⟩)
      refine Df (off' := 4) C 8 hok rfl rfl rfl runUnderlying25 rfl sizeOf23 rfl <| De 9 none [] hok (fun σr rest A hk => ?_)
      refine R.store C rfl (A.w rfl rfl) (A.x rfl rfl) (A.x rfl rfl) sizeOf23 rfl rfl rfl (by repeat (first | exact Uh | apply Ut | apply Upd.app)) (.skip (.skip (.skip (.skip (.here .nil))))) (hk undef _ ⟨QFs.nil, ?_⟩)
      refine D.done C hok (by kernel_rfl) <| Xr C rfl rfl <| R.loadAgg C rfl rfl rfl isAgg25 sizeOf25 (by repeat (first | exact Mh | apply Mt | apply List.mem_append_right)) Tk5 <| R.store C rfl rfl rfl rfl sizeOf25 rfl rfl rfl (by repeat (first | exact Uh | apply Ut | apply Upd.app)) (.here (.here (.here (.here (.here .nil))))) <| Ad C rfl rfl <| X.finish C.1 Wt.len (by decide) (hbW.app _) fun ro3 hl3 hlsW => X.finish C.1 Rc.len (by decide) (hbC.app _) fun ro4 hl4 hlsC => X.ret C rfl rfl func116 rfl (by exact (.agg rfl isAgg25 sizeOf25 (by repeat (first | exact Mh | apply Mt)) Tk5 (.tmp rfl .nil))) <| Hr hret (RO.le_trans hl2 (RO.le_trans hl3 hl4)) ?_
      exact .inr ⟨h0, _, ⟨_, _, rfl, hlsC, hlsW.mono hl4⟩, rfl⟩
omit hJ in
def heard (b : Bk) (w : Wt) : Bk := { b with ws := b.ws ++ [w] }
omit hJ in
def hearH (b : Bk) (w : Wt) : Int := if checkChart b ≠ 0 then checkChart b else openH (heard b w) 0
theorem hear_c {b : Bk} {v : Value} {ro : RO} (he : Env ro) (hv : BkV ro v b) (hs : b.short) (w : Wt) : CallR prog J (fnv 40) [v, w.val] ro (fun x ro' => NewV ro' (heard b w) (hearH b w) x) := by
  have hvv := hv
  obtain ⟨vc, vw, rfl, hc, hw⟩ := hv
  obtain ⟨cb, cc, rfl⟩ := hc.form
  obtain ⟨wb, wc, rfl⟩ := hw.form
  refine CallR.intro hJ (by kernel_rfl) fun c cs tail hret => enter_X (n := 24) func40 rfl rfl (Nl rfl) ?_
  have C : Ctx prog main J (bf 40 .normal) := ⟨hJ, by decide⟩
  refine Xr C rfl rfl <| R.box C rfl rfl rfl rfl fun p2 => R.box C rfl rfl rfl rfl fun p3 => R.alloc C rfl rfl zeroValue25 rfl fun p4 => Ad C rfl rfl <| Xs C <| Xr C rfl rfl <| R.loadAgg C rfl rfl rfl isAgg25 sizeOf25 (by repeat (first | exact Mh | apply Mt)) Tk5 <| R.callP C rfl rfl rfl rfl (checkChart_c hJ (by assumption) (by assumption) (by assumption)) <| Ad C rfl rfl <| Xr C rfl rfl <| Rm C rfl rfl <| R.int C rfl rfl rfl rfl b_neq <| R.done C <| X.cond C.1 rfl (fun hh => ?_) (fun hh => ?_)
  · have hh := hh
    simp at hh
    refine Xr C rfl rfl <| R.build C rfl rfl rfl zeroValue25 rfl runUnderlying25 (by kernel_rfl) .nil <| Rm C rfl rfl <| R.store C rfl rfl rfl rfl sizeOf25 rfl rfl rfl (by repeat (first | exact Uh | apply Ut)) (.here (.here (.here (.here (.here .nil))))) <| Ad C rfl rfl <| X.ret C rfl rfl func40 rfl (by exact (.agg rfl isAgg25 sizeOf25 (by repeat (first | exact Mh | apply Mt)) Tk5 (.tmp rfl .nil))) <| Hr hret (RO.le_refl _) ?_
    exact .inl ⟨by rw [hearH, if_pos hh]; exact hh, by rw [hearH, if_pos hh]; rfl⟩
  · have hh := hh
    simp at hh
    have hb := good_iff.1 hh
    have hnw := hb.nw
    have hnc := hb.nc
    have hfl := flatMap_len Wt.len b.ws
    have hfin : hearH b w = openH (heard b w) 0 := by rw [hearH, if_neg (by simp [hh])]
    have hcat : b.ws.flatMap Wt.cells ++ w.cells = (b.ws ++ [w]).flatMap Wt.cells := by simp
    have hsh : (heard b w).short := ⟨by show b.cs.length ≤ 1000; omega, by show (b.ws ++ [w]).length ≤ 1000; simp; omega⟩
    rw [hfin] at hret
    refine X.skip C.1 <| Xs C <| Xd C fun hok => Df (off' := 4) C 0 hok rfl rfl rfl runUnderlying25 rfl sizeOf23 rfl <| Dl 1 hok (fun _ _ A h => R.loadOne C rfl (A.w rfl rfl) (A.x rfl rfl) isAgg23 (by repeat (first | exact Mh | apply Mt | apply List.mem_append_right)) rfl h) <| Dl 3 hok (fun _ _ A h => R.loadAgg C rfl (A.w rfl rfl) (A.x rfl rfl) isAgg58 sizeOf58 (by repeat (first | exact Mh | apply Mt | apply List.mem_append_right)) Tk5 h) <| D.eP2 (i := 2) (i' := 4) (dst := (some 15)) (dst' := (some 17)) [true, false] [false, true] hok rfl rfl (by kernel_rfl) (by kernel_rfl) (by kernel_rfl) (fun σr rest A hk => ?_) (fun σr rest A hk => ?_)
    ·
      refine R.call C rfl (A.w rfl rfl) (A.x rfl rfl) (A.s rfl rfl) (pre := []) rfl (cloneW_c hJ hw (by omega)) fun vW roW preW hleW hqW => hk _ _ ⟨(QFs.cons (QF.of rfl (fun _ _ A h => R.loadAgg C rfl (A.w rfl rfl) (A.x rfl rfl) isAgg58 sizeOf58 (by repeat (first | exact Mh | apply Mt | apply List.mem_append_right)) Tk5 h)) QFs.nil), ?_⟩
      refine De 4 (some 17) [false] hok (fun σr rest A hk => ?_)
      refine R.buildSlice C (vs := _) rfl (A.w rfl rfl) (show pvals _ _ = some (numbered 0 [_]) from (A.p rfl rfl)) rfl runUnderlying23 sizeOf58 zeroValue58 (by decide) (Cat.one rfl rfl) fun p17 => hk _ _ ⟨QFs.nil, ?_⟩
      refine De 5 (some 18) [] hok (fun σr rest A hk => ?_)
      obtain ⟨rfl, hbW⟩ := hqW
      refine R.append1 (kk := 5) C rfl (A.w rfl rfl) (A.x rfl rfl) (A.x rfl rfl) runUnderlying23 runUnderlying23 (fun _ => nofun) (show prog.info? 58 = some Tryz.t58 by kernel_rfl) rfl rfl rfl (by decide) (by decide) (hbW.app _) rfl rfl (by simp only [List.length_append, List.length_cons, List.length_nil]; omega) fun v' own' hb' => hk _ _ ⟨QFs.nil, ?_⟩
      refine Df (off' := 4) C 6 hok rfl rfl rfl runUnderlying25 rfl sizeOf23 rfl <| De 7 none [] hok (fun σr rest A hk => ?_)
      obtain ⟨own1, rfl, hb1⟩ := hb'.unapp
      replace hb1 : Buf 58 5 [] v' ((b.ws ++ [w]).flatMap Wt.cells) own1 := by rw [← hcat]; exact hb1
      obtain ⟨bs1, cap1, rfl⟩ := hb1.form (by decide)
      refine R.store C rfl (A.w rfl rfl) (A.x rfl rfl) (A.x rfl rfl) sizeOf23 rfl rfl rfl (by repeat (first | exact Uh | apply Ut | apply Upd.app)) (.skip (.skip (.skip (.skip (.here .nil))))) (hk undef _ ⟨QFs.nil, ?_⟩)
      refine D.done C hok (by kernel_rfl) <| Xr C rfl rfl <| R.finish C.1 Wt.len (by decide) (hb1.app _) fun ro3 hl3 hls3 => ?_
      have hv3 : BkV ro3 (.agg [.int .i64 b.w, .int .i64 b.h, .int .i64 b.f, .slice cb b.cs.length cc, .slice bs1 (((b.ws ++ [w]).flatMap Wt.cells).length / 5) cap1].toArray) (heard b w) := ⟨_, _, rfl, hc.mono hl3, hls3⟩
      have he3 := he.mono hl3
      refine R.loadAgg C rfl rfl rfl isAgg25 sizeOf25 (by repeat (first | exact Mh | apply Mt | apply List.mem_append_right)) Tk5 <| R.callR C rfl rfl rfl rfl (agreed_c hJ (by assumption) (by assumption) (by assumption)) fun v1 ro2 hl2 hp => ?_
      rcases hp with ⟨h0, rfl⟩ | ⟨h0, v2, ⟨vc2, vw2, rfl, hc2, hw2⟩, rfl⟩
      ·
        unfold noBk
        refine R.ext C rfl rfl rfl rfl <| R.ext C rfl rfl rfl rfl <| R.store C rfl rfl rfl rfl sizeOf25 rfl rfl rfl (by repeat (first | exact Uh | apply Ut | apply Upd.app)) (.here (.here (.here (.here (.here .nil))))) <| Ad C rfl rfl <| X.ret C rfl rfl func40 rfl (by exact (.agg rfl isAgg25 sizeOf25 (by repeat (first | exact Mh | apply Mt | apply List.mem_append_right)) Tk5 (.tmp rfl .nil))) <| Hr hret (RO.le_trans hl3 hl2) ?_
        exact .inl ⟨h0, rfl⟩
      ·
        obtain ⟨cb2, cc2, rfl⟩ := hc2.form
        obtain ⟨wb2, wc2, rfl⟩ := hw2.form
        refine R.ext C rfl rfl rfl rfl <| R.ext C rfl rfl rfl rfl <| R.store C rfl rfl rfl rfl sizeOf25 rfl rfl rfl (by repeat (first | exact Uh | apply Ut | apply Upd.app)) (.here (.here (.here (.here (.here .nil))))) <| Ad C rfl rfl <| X.ret C rfl rfl func40 rfl (by exact (.agg rfl isAgg25 sizeOf25 (by repeat (first | exact Mh | apply Mt | apply List.mem_append_right)) Tk5 (.tmp rfl .nil))) <| Hr hret (RO.le_trans hl3 hl2) ?_
        exact .inr ⟨h0, _, ⟨_, _, rfl, hc2, hw2⟩, rfl⟩
    ·
      refine R.buildSlice C (vs := _) rfl (A.w rfl rfl) (show pvals _ _ = some (numbered 0 [_]) from (A.p rfl rfl)) rfl runUnderlying23 sizeOf58 zeroValue58 (by decide) (Cat.one rfl rfl) fun p17 => hk _ _ ⟨(QFs.cons (QF.of rfl (fun _ _ A h => R.loadOne C rfl (A.w rfl rfl) (A.x rfl rfl) isAgg23 (by repeat (first | exact Mh | apply Mt | apply List.mem_append_right)) rfl h)) QFs.nil), ?_⟩
      refine De 2 (some 15) [false] hok (fun σr rest A hk => ?_)
      refine R.call C rfl (A.w rfl rfl) (A.x rfl rfl) (A.s rfl rfl) (pre := []) rfl (cloneW_c hJ hw (by omega)) fun vW roW preW hleW hqW => hk _ _ ⟨QFs.nil, ?_⟩
      refine De 5 (some 18) [] hok (fun σr rest A hk => ?_)
      obtain ⟨rfl, hbW⟩ := hqW
      refine R.perm C.1 List.perm_middle <| R.append1 (kk := 5) C rfl (A.w rfl rfl) (A.x rfl rfl) (A.x rfl rfl) runUnderlying23 runUnderlying23 (fun _ => nofun) (show prog.info? 58 = some Tryz.t58 by kernel_rfl) rfl rfl rfl (by decide) (by decide) (hbW.app _) rfl rfl (by simp only [List.length_append, List.length_cons, List.length_nil]; omega) fun v' own' hb' => hk _ _ ⟨QFs.nil, ?_⟩
      refine Df (off' := 4) C 6 hok rfl rfl rfl runUnderlying25 rfl sizeOf23 rfl <| De 7 none [] hok (fun σr rest A hk => ?_)
      obtain ⟨own1, rfl, hb1⟩ := hb'.unapp
      replace hb1 : Buf 58 5 [] v' ((b.ws ++ [w]).flatMap Wt.cells) own1 := by rw [← hcat]; exact hb1
      obtain ⟨bs1, cap1, rfl⟩ := hb1.form (by decide)
      refine R.store C rfl (A.w rfl rfl) (A.x rfl rfl) (A.x rfl rfl) sizeOf23 rfl rfl rfl (by repeat (first | exact Uh | apply Ut | apply Upd.app)) (.skip (.skip (.skip (.skip (.here .nil))))) (hk undef _ ⟨QFs.nil, ?_⟩)
      refine D.done C hok (by kernel_rfl) <| Xr C rfl rfl <| R.finish C.1 Wt.len (by decide) (hb1.app _) fun ro3 hl3 hls3 => ?_
      have hv3 : BkV ro3 (.agg [.int .i64 b.w, .int .i64 b.h, .int .i64 b.f, .slice cb b.cs.length cc, .slice bs1 (((b.ws ++ [w]).flatMap Wt.cells).length / 5) cap1].toArray) (heard b w) := ⟨_, _, rfl, hc.mono hl3, hls3⟩
      have he3 := he.mono hl3
      refine R.loadAgg C rfl rfl rfl isAgg25 sizeOf25 (by repeat (first | exact Mh | apply Mt | apply List.mem_append_right)) Tk5 <| R.callR C rfl rfl rfl rfl (agreed_c hJ (by assumption) (by assumption) (by assumption)) fun v1 ro2 hl2 hp => ?_
      rcases hp with ⟨h0, rfl⟩ | ⟨h0, v2, ⟨vc2, vw2, rfl, hc2, hw2⟩, rfl⟩
      ·
        unfold noBk
        refine R.ext C rfl rfl rfl rfl <| R.ext C rfl rfl rfl rfl <| R.store C rfl rfl rfl rfl sizeOf25 rfl rfl rfl (by repeat (first | exact Uh | apply Ut | apply Upd.app)) (.here (.here (.here (.here (.here .nil))))) <| Ad C rfl rfl <| X.ret C rfl rfl func40 rfl (by exact (.agg rfl isAgg25 sizeOf25 (by repeat (first | exact Mh | apply Mt | apply List.mem_append_right)) Tk5 (.tmp rfl .nil))) <| Hr hret (RO.le_trans hl3 hl2) ?_
        exact .inl ⟨h0, rfl⟩
      ·
        obtain ⟨cb2, cc2, rfl⟩ := hc2.form
        obtain ⟨wb2, wc2, rfl⟩ := hw2.form
        refine R.ext C rfl rfl rfl rfl <| R.ext C rfl rfl rfl rfl <| R.store C rfl rfl rfl rfl sizeOf25 rfl rfl rfl (by repeat (first | exact Uh | apply Ut | apply Upd.app)) (.here (.here (.here (.here (.here .nil))))) <| Ad C rfl rfl <| X.ret C rfl rfl func40 rfl (by exact (.agg rfl isAgg25 sizeOf25 (by repeat (first | exact Mh | apply Mt | apply List.mem_append_right)) Tk5 (.tmp rfl .nil))) <| Hr hret (RO.le_trans hl3 hl2) ?_
        exact .inr ⟨h0, _, ⟨_, _, rfl, hc2, hw2⟩, rfl⟩
end Go.Lg.B
namespace Go.Lg
open Go Go.Conc
theorem Put.app {o : Nat} {vs l l' : List Value} (r : List Value) (h : Put o vs l l') : Put o vs (l ++ r) (l' ++ r) := by
  induction h with
  | nil => exact .nil
  | here _ ih => exact .here ih
  | skip _ ih => exact .skip ih
theorem Put.behind {o : Nat} {vs l l' : List Value} (h : Put o vs l l') : ∀ pre : List Value, Put (pre.length + o) vs (pre ++ l) (pre ++ l')
  | [] => by simpa using h
  | x :: pre => by
    have := Put.skip (x := x) (Put.behind h pre)
    simpa [Nat.add_assoc, Nat.add_comm, Nat.add_left_comm] using this
theorem Put.flat {α : Type} {enc : α → List Value} {k o : Nat} {vs : List Value} (hk : ∀ x, (enc x).length = k) : ∀ (xs : List α) (i : Nat) (h : i < xs.length) (y : α) (sp : List Value), Put o vs (enc xs[i]) (enc y) → Put (i * k + o) vs (xs.flatMap enc ++ sp) ((xs.set i y).flatMap enc ++ sp)
  | x :: xs, 0, _, y, sp, hp => by
    simp only [List.flatMap_cons, List.set_cons_zero, List.append_assoc, Nat.zero_mul, Nat.zero_add]
    exact Put.app _ hp
  | x :: xs, i + 1, h, y, sp, hp => by
    have := Put.behind (Put.flat hk xs i (by simpa using h) y sp hp) (enc x)
    rw [hk] at this
    simp only [List.flatMap_cons, List.set_cons_succ, List.append_assoc]
    rw [show (i + 1) * k + o = k + (i * k + o) by rw [Nat.add_mul]; omega]
    exact this
theorem Buf.at {e : TypeId} {k : Nat} {tail own : List (Nat × Obj)} {v : Value} {cells : List Value} (h : Buf e k tail v cells own) (hp : 0 < cells.length) : ∃ p len cap spare, v = .slice (some ⟨p, 0, none⟩) len cap ∧ cells.length = len * k ∧ own = (p, .cells (cells ++ spare).toArray e (0, 0)) :: tail ∧ ∀ cells' : List Value, cells'.length = cells.length → Buf e k tail v cells' ((p, .cells (cells' ++ spare).toArray e (0, 0)) :: tail) := by
  cases h with
  | nil => simp at hp
  | blk c1 c2 c3 => exact ⟨_, _, _, _, rfl, c1, rfl, fun cells' hc => .blk (by rw [hc]; exact c1) (by rw [List.length_append, hc, ← List.length_append]; exact c2) c3⟩
end Go.Lg
namespace Go.Lg.B
open Go Go.Conc Go.Lg Go.Proofs Go.Proofs.Tryz
def sured (w : Wt) : Wt := { w with sure := true }
def trusted (b : Bk) (k : Int) : Bk := { b with ws := b.ws.set k.toNat (sured (b.wt k.toNat)) }
def trustH (b : Bk) (k : Int) : Int := if checkChart b ≠ 0 then checkChart b else if b.witness k ≠ 0 then b.witness k else if (b.wt k.toNat).sure = true then 5 else openH (trusted b k) 0
variable {main : Bool} {J : Goroutine → Mem → Prop} (hJ : Closed prog main J)
include hJ
theorem trust_c {b : Bk} {v : Value} {ro : RO} (he : Env ro) (hv : BkV ro v b) (hs : b.short) (k : Int) : CallR prog J (fnv 43) [v, .int .i64 k] ro (fun x ro' => NewV ro' (trusted b k) (trustH b k) x) := by
  have hvv := hv
  obtain ⟨vc, vw, rfl, hc, hw⟩ := hv
  obtain ⟨cb, cc, rfl⟩ := hc.form
  obtain ⟨wb, wc, rfl⟩ := hw.form
  refine CallR.intro hJ (by kernel_rfl) fun c cs tail hret => enter_X (n := 42) func43 rfl rfl (Nl rfl) ?_
  have C : Ctx prog main J (bf 43 .normal) := ⟨hJ, by decide⟩
  refine Xr C rfl rfl <| R.box C rfl rfl rfl rfl fun p2 => R.alloc C rfl rfl zeroValue25 rfl fun p4 => Ad C rfl rfl <| Xs C <| Xr C rfl rfl <| R.loadAgg C rfl rfl rfl isAgg25 sizeOf25 (by repeat (first | exact Mh | apply Mt)) Tk5 <| R.callP C rfl rfl rfl rfl (checkChart_c hJ (by assumption) (by assumption) (by assumption)) <| Ad C rfl rfl <| Xr C rfl rfl <| Rm C rfl rfl <| R.int C rfl rfl rfl rfl b_neq <| R.done C <| X.cond C.1 rfl (fun hh => ?_) (fun hh => ?_)
  · have hh := hh
    simp at hh
    refine Xr C rfl rfl <| R.build C rfl rfl rfl zeroValue25 rfl runUnderlying25 (by kernel_rfl) .nil <| Rm C rfl rfl <| R.store C rfl rfl rfl rfl sizeOf25 rfl rfl rfl (by repeat (first | exact Uh | apply Ut)) (.here (.here (.here (.here (.here .nil))))) <| Ad C rfl rfl <| X.ret C rfl rfl func43 rfl (by exact (.agg rfl isAgg25 sizeOf25 (by repeat (first | exact Mh | apply Mt)) Tk5 (.tmp rfl .nil))) <| Hr hret (RO.le_refl _) ?_
    exact .inl ⟨by rw [trustH, if_pos hh]; exact hh, by rw [trustH, if_pos hh]; rfl⟩
  · have hh := hh
    simp at hh
    have hb := good_iff.1 hh
    have hnw := hb.nw
    have hnc := hb.nc
    have hsm := hb.small
    refine X.skip C.1 <| Xs C <| Xr C rfl rfl <| R.loadAgg C rfl rfl rfl isAgg25 sizeOf25 (by repeat (first | exact Mh | apply Mt)) Tk5 <| R.build C rfl rfl rfl zeroValue105 rfl runUnderlying105 (by kernel_rfl) (Fills.part rfl rfl sizeOf25 rfl (.here (.here (.here (.here (.here .nil))))) .nil) <| Rm C rfl rfl <| R.callP C rfl rfl rfl rfl (witness_c hJ hvv hsm k) <| Ad C rfl rfl <| Xr C rfl rfl <| Rm C rfl rfl <| R.int C rfl rfl rfl rfl b_neq <| R.done C <| X.cond C.1 rfl (fun hk => ?_) (fun hk => ?_)
    · have hk := hk
      simp at hk
      refine Xr C rfl rfl <| R.build C rfl rfl rfl zeroValue25 rfl runUnderlying25 (by kernel_rfl) .nil <| Rm C rfl rfl <| R.store C rfl rfl rfl rfl sizeOf25 rfl rfl rfl (by repeat (first | exact Uh | apply Ut)) (.here (.here (.here (.here (.here .nil))))) <| Ad C rfl rfl <| X.ret C rfl rfl func43 rfl (by exact (.agg rfl isAgg25 sizeOf25 (by repeat (first | exact Mh | apply Mt)) Tk5 (.tmp rfl .nil))) <| Hr hret (RO.le_refl _) ?_
      exact .inl ⟨by rw [trustH, if_neg (by simp [hh]), if_pos hk]; exact hk, by rw [trustH, if_neg (by simp [hh]), if_pos hk]; rfl⟩
    · have hk := hk
      simp at hk
      have hkb := there_zero.1 hk
      simp only [between, Bool.and_eq_true, decide_eq_true_eq] at hkb
      have hki : k.toNat < b.ws.length := by omega
      have hwt := Bk.wt_get hki
      obtain ⟨pp, off, cap, l, t, fq, hsl, hrop, hsub⟩ := hw.at Wt.len (by omega)
      cases hsl
      have hx : l[off + k.toNat * 5 + 4]? = some (.bool (b.wt k.toNat).sure) := by
        have := (hsub k.toNat hki).get 4 (by decide)
        rw [hwt] at this
        simpa [Wt.cells] using this
      refine X.skip C.1 <| Xs C <| Xr C rfl rfl <| Rf C 4 rfl rfl runUnderlying25 rfl sizeOf23 <| R.loadOne C rfl rfl rfl isAgg23 (by repeat (first | exact Mh | apply Mt)) rfl <| Rm C rfl rfl <| Rx C rfl rfl rfl runUnderlying23 sizeOf58 <| R.fieldAddr C rfl rfl rfl runUnderlying58 rfl sizeOf4 rfl <| R.loadOneRo C rfl rfl rfl isAgg4 hrop hx <| R.done C <| X.cond C.1 rfl (fun hsu => ?_) (fun hsu => ?_)
      · have hsu := hsu
        refine Xr C rfl rfl <| R.build C rfl rfl rfl zeroValue25 rfl runUnderlying25 (by kernel_rfl) .nil <| R.store C rfl rfl rfl rfl sizeOf25 rfl rfl rfl (by repeat (first | exact Uh | apply Ut)) (.here (.here (.here (.here (.here .nil))))) <| Ad C rfl rfl <| X.ret C rfl rfl func43 rfl (by exact (.agg rfl isAgg25 sizeOf25 (by repeat (first | exact Mh | apply Mt)) Tk5 (.tmp rfl .nil))) <| Hr hret (RO.le_refl _) ?_
        exact .inl ⟨by rw [trustH, if_neg (by simp [hh]), if_neg (by simp [hk]), if_pos hsu]; decide, by rw [trustH, if_neg (by simp [hh]), if_neg (by simp [hk]), if_pos hsu]; rfl⟩
      · have hsu := hsu
        have hfin : trustH b k = openH (trusted b k) 0 := by rw [trustH, if_neg (by simp [hh]), if_neg (by simp [hk]), if_neg (by simp [hsu])]
        rw [hfin] at hret
        have hsh : (trusted b k).short := ⟨by show b.cs.length ≤ 1000; omega, by show (b.ws.set _ _).length ≤ 1000; simp; omega⟩
        have hfl := flatMap_len Wt.len b.ws
        have hfl2 := flatMap_len Wt.len (b.ws.set k.toNat (sured (b.wt k.toNat)))
        rw [List.length_set] at hfl2
        refine X.skip C.1 <| Xr C rfl rfl <| Rf C 4 rfl rfl runUnderlying25 rfl sizeOf23 <| R.loadOne C rfl rfl rfl isAgg23 (by repeat (first | exact Mh | apply Mt | apply List.mem_append_right)) rfl <| R.call C rfl rfl rfl rfl (pre := []) rfl (cloneW_c hJ hw (by omega)) fun vW roW preW hleW hqW => ?_
        obtain ⟨rfl, hbW⟩ := hqW
        obtain ⟨pW, len, capW, spare, rfl, hlen, rfl, hset⟩ := hbW.at (by omega)
        obtain rfl : len = b.ws.length := by omega
        refine Rf C 4 rfl rfl runUnderlying25 rfl sizeOf23 <| R.store C rfl rfl rfl rfl sizeOf23 rfl rfl rfl (by repeat (first | exact Uh | apply Ut | apply Upd.app)) (.skip (.skip (.skip (.skip (.here .nil))))) <| R.done C <| Xr C rfl rfl <| Rf C 4 rfl rfl runUnderlying25 rfl sizeOf23 <| R.loadOne C rfl rfl rfl isAgg23 (by repeat (first | exact Mh | apply Mt | apply List.mem_append_right)) rfl <| Rm C rfl rfl <| Rx C rfl rfl rfl runUnderlying23 sizeOf58 <| R.fieldAddr C rfl rfl rfl runUnderlying58 rfl sizeOf4 rfl <| R.store C rfl rfl rfl rfl sizeOf4 rfl rfl rfl (by repeat (first | exact Uh | apply Ut | apply Upd.app)) (by rw [Nat.zero_add]; exact Put.flat Wt.len b.ws k.toNat hki (sured (b.wt k.toNat)) spare (by rw [hwt]; exact .skip (.skip (.skip (.skip (.here .nil)))))) <| R.done C <| Xr C rfl rfl ?_
        have hb1 := hset ((b.ws.set k.toNat (sured (b.wt k.toNat))).flatMap Wt.cells) (by omega)
        refine R.finish C.1 Wt.len (by decide) (hb1.app _) fun ro3 hl3 hls3 => ?_
        have hv3 : BkV ro3 (.agg [.int .i64 b.w, .int .i64 b.h, .int .i64 b.f, .slice cb b.cs.length cc, .slice (some ⟨pW, 0, none⟩) b.ws.length capW].toArray) (trusted b k) := ⟨_, _, rfl, hc.mono hl3, hls3⟩
        have he3 := he.mono hl3
        refine R.loadAgg C rfl rfl rfl isAgg25 sizeOf25 (by repeat (first | exact Mh | apply Mt | apply List.mem_append_right)) Tk5 <| R.callR C rfl rfl rfl rfl (agreed_c hJ (by assumption) (by assumption) (by assumption)) fun v1 ro2 hl2 hp => ?_
        rcases hp with ⟨h0, rfl⟩ | ⟨h0, v2, ⟨vc2, vw2, rfl, hc2, hw2⟩, rfl⟩
        ·
          unfold noBk
          refine R.ext C rfl rfl rfl rfl <| R.ext C rfl rfl rfl rfl <| R.store C rfl rfl rfl rfl sizeOf25 rfl rfl rfl (by repeat (first | exact Uh | apply Ut | apply Upd.app)) (.here (.here (.here (.here (.here .nil))))) <| Ad C rfl rfl <| X.ret C rfl rfl func43 rfl (by exact (.agg rfl isAgg25 sizeOf25 (by repeat (first | exact Mh | apply Mt | apply List.mem_append_right)) Tk5 (.tmp rfl .nil))) <| Hr hret (RO.le_trans hl3 hl2) ?_
          exact .inl ⟨h0, rfl⟩
        ·
          obtain ⟨cb2, cc2, rfl⟩ := hc2.form
          obtain ⟨wb2, wc2, rfl⟩ := hw2.form
          refine R.ext C rfl rfl rfl rfl <| R.ext C rfl rfl rfl rfl <| R.store C rfl rfl rfl rfl sizeOf25 rfl rfl rfl (by repeat (first | exact Uh | apply Ut | apply Upd.app)) (.here (.here (.here (.here (.here .nil))))) <| Ad C rfl rfl <| X.ret C rfl rfl func43 rfl (by exact (.agg rfl isAgg25 sizeOf25 (by repeat (first | exact Mh | apply Mt | apply List.mem_append_right)) Tk5 (.tmp rfl .nil))) <| Hr hret (RO.le_trans hl3 hl2) ?_
          exact .inr ⟨h0, _, ⟨_, _, rfl, hc2, hw2⟩, rfl⟩
omit hJ in
def cut (c x : Rc) : Rc := ⟨max c.lo x.lo, min c.hi x.hi⟩
omit hJ in
def swung (b : Bk) (k : Int) (x : Rc) : Bk := { b with cs := b.cs.set k.toNat (cut (b.cs.getD k.toNat ⟨0, 0⟩) x) }
omit hJ in
def swingH (b : Bk) (k : Int) (x : Rc) : Int := if checkChart b ≠ 0 then checkChart b else if b.compass k ≠ 0 then b.compass k else if (!isReach x (-3) 3) = true then 1 else if (cut (b.cs.getD k.toNat ⟨0, 0⟩) x).hi < (cut (b.cs.getD k.toNat ⟨0, 0⟩) x).lo then 9 else openH (swung b k x) 0
theorem swing_c {b : Bk} {v : Value} {ro : RO} (he : Env ro) (hv : BkV ro v b) (hs : b.short) (k : Int) (x : Rc) : CallR prog J (fnv 45) [v, .int .i64 k, x.val] ro (fun y ro' => NewV ro' (swung b k x) (swingH b k x) y) := by
  have hvv := hv
  obtain ⟨vc, vw, rfl, hc, hw⟩ := hv
  obtain ⟨cb, cc, rfl⟩ := hc.form
  obtain ⟨wb, wc, rfl⟩ := hw.form
  refine CallR.intro hJ (by kernel_rfl) fun c cs tail hret => enter_X (n := 65) func45 rfl rfl (Nl rfl) ?_
  have C : Ctx prog main J (bf 45 .normal) := ⟨hJ, by decide⟩
  refine Xr C rfl rfl <| R.box C rfl rfl rfl rfl fun p3 => R.box C rfl rfl rfl rfl fun p5 => R.alloc C rfl rfl zeroValue25 rfl fun p6 => Ad C rfl rfl <| Xs C <| Xr C rfl rfl <| R.loadAgg C rfl rfl rfl isAgg25 sizeOf25 (by repeat (first | exact Mh | apply Mt)) Tk5 <| R.callP C rfl rfl rfl rfl (checkChart_c hJ (by assumption) (by assumption) (by assumption)) <| Ad C rfl rfl <| Xr C rfl rfl <| Rm C rfl rfl <| R.int C rfl rfl rfl rfl b_neq <| R.done C <| X.cond C.1 rfl (fun hh => ?_) (fun hh => ?_)
  · have hh := hh
    simp at hh
    refine Xr C rfl rfl <| R.build C rfl rfl rfl zeroValue25 rfl runUnderlying25 (by kernel_rfl) .nil <| Rm C rfl rfl <| R.store C rfl rfl rfl rfl sizeOf25 rfl rfl rfl (by repeat (first | exact Uh | apply Ut)) (.here (.here (.here (.here (.here .nil))))) <| Ad C rfl rfl <| X.ret C rfl rfl func45 rfl (by exact (.agg rfl isAgg25 sizeOf25 (by repeat (first | exact Mh | apply Mt)) Tk5 (.tmp rfl .nil))) <| Hr hret (RO.le_refl _) ?_
    exact .inl ⟨by rw [swingH, if_pos hh]; exact hh, by rw [swingH, if_pos hh]; rfl⟩
  · have hh := hh
    simp at hh
    have hb := good_iff.1 hh
    have hnw := hb.nw
    have hnc := hb.nc
    have hsm := hb.small
    have hE : swingH b k x = if b.compass k ≠ 0 then b.compass k else if (!isReach x (-3) 3) = true then 1 else if (cut (b.cs.getD k.toNat ⟨0, 0⟩) x).hi < (cut (b.cs.getD k.toNat ⟨0, 0⟩) x).lo then 9 else openH (swung b k x) 0 := by rw [swingH, if_neg (by simp [hh])]
    rw [hE] at hret
    refine X.skip C.1 <| Xs C <| Xr C rfl rfl <| R.loadAgg C rfl rfl rfl isAgg25 sizeOf25 (by repeat (first | exact Mh | apply Mt)) Tk5 <| R.build C rfl rfl rfl zeroValue105 rfl runUnderlying105 (by kernel_rfl) (Fills.part rfl rfl sizeOf25 rfl (.here (.here (.here (.here (.here .nil))))) .nil) <| Rm C rfl rfl <| R.callP C rfl rfl rfl rfl (compass_c hJ hvv hsm k) <| Ad C rfl rfl <| Xr C rfl rfl <| Rm C rfl rfl <| R.int C rfl rfl rfl rfl b_neq <| R.done C <| X.cond C.1 rfl (fun hk => ?_) (fun hk => ?_)
    · have hk := hk
      simp at hk
      rw [if_pos hk] at hret
      refine Xr C rfl rfl <| R.build C rfl rfl rfl zeroValue25 rfl runUnderlying25 (by kernel_rfl) .nil <| Rm C rfl rfl <| R.store C rfl rfl rfl rfl sizeOf25 rfl rfl rfl (by repeat (first | exact Uh | apply Ut)) (.here (.here (.here (.here (.here .nil))))) <| Ad C rfl rfl <| X.ret C rfl rfl func45 rfl (by exact (.agg rfl isAgg25 sizeOf25 (by repeat (first | exact Mh | apply Mt)) Tk5 (.tmp rfl .nil))) <| Hr hret (RO.le_refl _) ?_
      exact .inl ⟨hk, rfl⟩
    · have hk := hk
      simp at hk
      rw [if_neg (by simp [hk])] at hret
      have hkb := there_zero.1 hk
      simp only [between, Bool.and_eq_true, decide_eq_true_eq] at hkb
      have hki : k.toNat < b.cs.length := by omega
      refine X.skip C.1 <| Xs C <| Xr C rfl rfl <| R.loadAgg C rfl rfl rfl isAgg46 sizeOf46 (by repeat (first | exact Mh | apply Mt)) Tk2 <| R.callP C rfl rfl rfl rfl (isReach_c hJ _ _ _ _) <| R.not C rfl rfl rfl <| R.done C <| X.cond C.1 rfl (fun hx => ?_) (fun hx => ?_)
      · have hx := hx
        rw [if_pos hx] at hret
        refine Xr C rfl rfl <| R.build C rfl rfl rfl zeroValue25 rfl runUnderlying25 (by kernel_rfl) .nil <| R.store C rfl rfl rfl rfl sizeOf25 rfl rfl rfl (by repeat (first | exact Uh | apply Ut)) (.here (.here (.here (.here (.here .nil))))) <| Ad C rfl rfl <| X.ret C rfl rfl func45 rfl (by exact (.agg rfl isAgg25 sizeOf25 (by repeat (first | exact Mh | apply Mt)) Tk5 (.tmp rfl .nil))) <| Hr hret (RO.le_refl _) ?_
        exact .inl ⟨by decide, rfl⟩
      · have hx := hx
        rw [if_neg (by simp only [hx]; decide)] at hret
        obtain ⟨pp, off, cap, l, t, fq, hsl, hrop, hsub⟩ := hc.at Rc.len (by omega)
        cases hsl
        have hgd : b.cs[k.toNat] = b.cs.getD k.toNat ⟨0, 0⟩ := by simp [hki]
        have hs0 := hsub k.toNat hki
        rw [hgd] at hs0
        generalize hc0 : b.cs.getD k.toNat ⟨0, 0⟩ = c0 at *
        refine X.skip C.1 <| Xr C rfl rfl <| Rf C 3 rfl rfl runUnderlying25 rfl sizeOf22 <| R.loadOne C rfl rfl rfl isAgg22 (by repeat (first | exact Mh | apply Mt)) rfl <| Rm C rfl rfl <| Rx C rfl rfl rfl runUnderlying22 sizeOf46 <| R.loadAggRo C rfl rfl rfl isAgg46 sizeOf46 hrop hs0 <| R.alloc C rfl rfl zeroValue46 rfl fun p10 => R.store C rfl rfl rfl rfl sizeOf46 rfl rfl rfl (by repeat (first | exact Uh | apply Ut)) (.here (.here .nil)) <| R.done C <| Xr C rfl rfl <| Rf C 0 rfl rfl runUnderlying46 rfl sizeOf3 <| R.loadOne C rfl rfl rfl isAgg3 (by repeat (first | exact Mh | apply Mt)) rfl <| Rf C 0 rfl rfl runUnderlying46 rfl sizeOf3 <| R.loadOne C rfl rfl rfl isAgg3 (by repeat (first | exact Mh | apply Mt)) rfl <| R.max2 C rfl rfl rfl rfl <| Rf C 1 rfl rfl runUnderlying46 rfl sizeOf3 <| R.loadOne C rfl rfl rfl isAgg3 (by repeat (first | exact Mh | apply Mt)) rfl <| Rf C 1 rfl rfl runUnderlying46 rfl sizeOf3 <| R.loadOne C rfl rfl rfl isAgg3 (by repeat (first | exact Mh | apply Mt)) rfl <| R.min2 C rfl rfl rfl rfl <| R.build C rfl rfl rfl zeroValue46 rfl runUnderlying46 (by kernel_rfl) (Fills.part rfl rfl sizeOf3 rfl (.here .nil) (Fills.part rfl rfl sizeOf3 rfl (.skip (.here .nil)) .nil)) <| R.alloc C rfl rfl zeroValue46 rfl fun p11 => R.store C rfl rfl rfl rfl sizeOf46 rfl rfl rfl (by repeat (first | exact Uh | apply Ut)) (.here (.here .nil)) <| R.done C <| Xs C <| Xr C rfl rfl <| Rf C 0 rfl rfl runUnderlying46 rfl sizeOf3 <| R.loadOne C rfl rfl rfl isAgg3 (by repeat (first | exact Mh | apply Mt)) rfl <| Rf C 1 rfl rfl runUnderlying46 rfl sizeOf3 <| R.loadOne C rfl rfl rfl isAgg3 (by repeat (first | exact Mh | apply Mt)) rfl <| R.int C rfl rfl rfl rfl b_gtr <| R.done C <| X.cond C.1 rfl (fun hbad => ?_) (fun hbad => ?_)
        · have hbad := hbad
          simp only [decide_eq_true_eq] at hbad
          rw [if_pos (by exact hbad)] at hret
          refine Xr C rfl rfl <| R.build C rfl rfl rfl zeroValue25 rfl runUnderlying25 (by kernel_rfl) .nil <| R.store C rfl rfl rfl rfl sizeOf25 rfl rfl rfl (by repeat (first | exact Uh | apply Ut)) (.here (.here (.here (.here (.here .nil))))) <| Ad C rfl rfl <| X.ret C rfl rfl func45 rfl (by exact (.agg rfl isAgg25 sizeOf25 (by repeat (first | exact Mh | apply Mt)) Tk5 (.tmp rfl .nil))) <| Hr hret (RO.le_refl _) ?_
          exact .inl ⟨by decide, rfl⟩
        · have hbad := hbad
          simp only [decide_eq_false_iff_not] at hbad
          rw [if_neg (by exact hbad)] at hret
          have hcut : (b.cs.set k.toNat (cut c0 x)) = (swung b k x).cs := by rw [← hc0]; rfl
          have hsh : (swung b k x).short := ⟨by show (b.cs.set _ _).length ≤ 1000; simp; omega, by show b.ws.length ≤ 1000; omega⟩
          have hfl := flatMap_len Rc.len b.cs
          have hfl2 := flatMap_len Rc.len (b.cs.set k.toNat (cut c0 x))
          rw [List.length_set] at hfl2
          refine X.skip C.1 <| Xr C rfl rfl <| Rf C 3 rfl rfl runUnderlying25 rfl sizeOf22 <| R.loadOne C rfl rfl rfl isAgg22 (by repeat (first | exact Mh | apply Mt | apply List.mem_append_right)) rfl <| R.call C rfl rfl rfl rfl (pre := []) rfl (cloneC_c hJ hc (by omega)) fun vC roC preC hleC hqC => ?_
          obtain ⟨rfl, hbC⟩ := hqC
          obtain ⟨pC, len, capC, spare, rfl, hlen, rfl, hset⟩ := hbC.at (by omega)
          obtain rfl : len = b.cs.length := by omega
          refine Rf C 3 rfl rfl runUnderlying25 rfl sizeOf22 <| R.store C rfl rfl rfl rfl sizeOf22 rfl rfl rfl (by repeat (first | exact Uh | apply Ut | apply Upd.app)) (.skip (.skip (.skip (.here .nil)))) <| R.done C <| Xr C rfl rfl <| Rf C 3 rfl rfl runUnderlying25 rfl sizeOf22 <| R.loadOne C rfl rfl rfl isAgg22 (by repeat (first | exact Mh | apply Mt | apply List.mem_append_right)) rfl <| Rm C rfl rfl <| R.loadAgg C rfl rfl rfl isAgg46 sizeOf46 (by repeat (first | exact Mh | apply Mt | apply List.mem_append_right)) Tk2 <| Rx C rfl rfl rfl runUnderlying22 sizeOf46 <| R.store C rfl rfl rfl rfl sizeOf46 rfl rfl rfl (by repeat (first | exact Uh | apply Ut | apply Upd.app)) (by rw [Nat.zero_add]; exact Put.flat (o := 0) Rc.len b.cs k.toNat hki (cut c0 x) spare (.here (.here .nil))) <| R.done C <| Xr C rfl rfl ?_
          have hb1 := hset ((b.cs.set k.toNat (cut c0 x)).flatMap Rc.cells) (by omega)
          refine R.finish C.1 Rc.len (by decide) (hb1.app _) fun ro3 hl3 hls3 => ?_
          rw [hcut] at hls3
          have hln : (swung b k x).cs.length = b.cs.length := by rw [← hcut, List.length_set]
          have hv3 : BkV ro3 (.agg [.int .i64 b.w, .int .i64 b.h, .int .i64 b.f, .slice (some ⟨pC, 0, none⟩) b.cs.length capC, .slice wb b.ws.length wc].toArray) (swung b k x) := ⟨_, _, rfl, hls3, hw.mono hl3⟩
          have he3 := he.mono hl3
          refine R.loadAgg C rfl rfl rfl isAgg25 sizeOf25 (by repeat (first | exact Mh | apply Mt | apply List.mem_append_right)) Tk5 <| R.callR C rfl rfl rfl rfl (agreed_c hJ (by assumption) (by assumption) (by assumption)) fun v1 ro2 hl2 hp => ?_
          rcases hp with ⟨h0, rfl⟩ | ⟨h0, v2, ⟨vc2, vw2, rfl, hc2, hw2⟩, rfl⟩
          ·
            unfold noBk
            refine R.ext C rfl rfl rfl rfl <| R.ext C rfl rfl rfl rfl <| R.store C rfl rfl rfl rfl sizeOf25 rfl rfl rfl (by repeat (first | exact Uh | apply Ut | apply Upd.app)) (.here (.here (.here (.here (.here .nil))))) <| Ad C rfl rfl <| X.ret C rfl rfl func45 rfl (by exact (.agg rfl isAgg25 sizeOf25 (by repeat (first | exact Mh | apply Mt | apply List.mem_append_right)) Tk5 (.tmp rfl .nil))) <| Hr hret (RO.le_trans hl3 hl2) ?_
            exact .inl ⟨h0, rfl⟩
          ·
            obtain ⟨cb2, cc2, rfl⟩ := hc2.form
            obtain ⟨wb2, wc2, rfl⟩ := hw2.form
            refine R.ext C rfl rfl rfl rfl <| R.ext C rfl rfl rfl rfl <| R.store C rfl rfl rfl rfl sizeOf25 rfl rfl rfl (by repeat (first | exact Uh | apply Ut | apply Upd.app)) (.here (.here (.here (.here (.here .nil))))) <| Ad C rfl rfl <| X.ret C rfl rfl func45 rfl (by exact (.agg rfl isAgg25 sizeOf25 (by repeat (first | exact Mh | apply Mt | apply List.mem_append_right)) Tk5 (.tmp rfl .nil))) <| Hr hret (RO.le_trans hl3 hl2) ?_
            exact .inr ⟨h0, _, ⟨_, _, rfl, hc2, hw2⟩, rfl⟩
end Go.Lg.B
namespace Go.Lg
open Go Go.Conc
theorem R.neAgg {P : Program} {main : Bool} {J : Goroutine → Mem → Prop} {b : Frame} (C : Ctx P main J b) {cs : List Frame} {n : Nat} {ds : List Deferred} {σ : Slots} {k : List Item} {ops : Array Oper} {i : Nat} {rest : List Nat} {d : Nat} {ty : TypeId} {pos : String} {af : Array Edge} {g : Option (Nat × Bool)}
    {t t' : TypeId} {x y : Operand} {m : Nat} {p q : List Int} {M : Mem} (ho : ops[i]? = some ⟨some d, .binOp .neq t x y t', ty, pos, af, g⟩) (hg : wantedS ops σ ⟨some d, .binOp .neq t x y t', ty, pos, af, g⟩ = some true)
    (hx : ev σ x = some (.agg (ints p).toArray)) (hy : ev σ y = some (.agg (ints q).toArray)) (ht : IntT P 10000 t m true) (hp : p.length = m) (hq : q.length = m) (hd : P.eqGuardType P.depth t = false)
    (h : R J b cs n ops rest k ds ((d, .bool (!decide (p = q))) :: σ) M) : R J b cs n ops (i :: rest) k ds σ M :=
  R.v C ho hg rfl (fun a ha K hk => by
    unfold execOp
    simp only [ha.ev hx, ha.ev hy]
    refine ex_v (Sm.bind ?_)
    unfold eqGuard
    refine Sm.bind (Sm.program (Sm.bind (Sm.program ?_)))
    rw [hd]
    refine Sm.pure ?_
    show Sm P M (binOp .neq t (.agg (ints p).toArray) (.agg (ints q).toArray)) _
    unfold binOp
    simp only
    exact Sm.bind (ht p q hp hq _ _ (Sm.pure hk))) h
end Go.Lg
namespace Go.Lg.B
open Go Go.Conc Go.Lg Go.Proofs Go.Proofs.Tryz
theorem Ls.lit {α : Type} {enc : α → List Value} {k : Nat} {ro : RO} {p cap : Nat} {xs : List α} {t : TypeId} {fq : Nat × Nat} (hk : ∀ x, (enc x).length = k) (h : ro p = some (.cells (xs.flatMap enc).toArray t fq)) : Ls enc k ro (.slice (some ⟨p, 0, none⟩) xs.length cap) xs := by
  refine ⟨_, _, rfl, .inr ⟨p, 0, _, _, _, rfl, h, ?_⟩⟩
  have := Sub.front (xs.flatMap enc) []
  rw [List.append_nil, flatMap_len hk] at this
  exact this
def exB : Bk := ⟨3, 3, 1, [⟨0, 0⟩, ⟨0, 1⟩], [⟨⟨-1, 0⟩, 2, 0, false⟩, ⟨⟨0, 3⟩, 4, 1, false⟩, ⟨⟨2, -1⟩, 0, 0, false⟩]⟩
def earlier (a c : List Int) : Bool := decide (cmpL a c < 0)
def sameInts (a c : List Int) : Bool := !earlier a c && !earlier c a
variable {main : Bool} {J : Goroutine → Mem → Prop} (hJ : Closed prog main J)
include hJ
theorem sq_c (e n : Int) (ro : RO) : CallP prog J (fnv 50) [.int .i64 e, .int .i64 n] ro (Sq.val ⟨e, n⟩) := by
  refine CallP.intro hJ (by kernel_rfl) fun c cs tail hret => enter_X (n := 8) func50 rfl rfl (Nl rfl) ?_
  have C : Ctx prog main J (bf 50 .normal) := ⟨hJ, by decide⟩
  refine Xr C rfl rfl <| R.alloc C rfl rfl zeroValue27 rfl fun p4 => R.done C <| Xr C rfl rfl <| Rm C rfl rfl <| Rm C rfl rfl <| R.build C rfl rfl rfl zeroValue27 rfl runUnderlying27 (by kernel_rfl) (Fills.part rfl rfl sizeOf3 rfl (.here .nil) (Fills.part rfl rfl sizeOf3 rfl (.skip (.here .nil)) .nil)) <| R.store C rfl rfl rfl rfl sizeOf27 rfl rfl rfl (by repeat (first | exact Uh | apply Ut)) (.here (.here .nil)) <| R.done C <| X.ret C rfl rfl func50 rfl (by exact (.agg rfl isAgg27 sizeOf27 (by repeat (first | exact Mh | apply Mt)) Tk2 .nil)) <| Hp hret ?_
  rfl
theorem one_c (n : Int) (ro : RO) : CallP prog J (fnv 56) [.int .i64 n] ro (Rc.val ⟨n, n⟩) := by
  refine CallP.intro hJ (by kernel_rfl) fun c cs tail hret => enter_X (n := 6) func56 rfl rfl (Nl rfl) ?_
  have C : Ctx prog main J (bf 56 .normal) := ⟨hJ, by decide⟩
  refine Xr C rfl rfl <| R.alloc C rfl rfl zeroValue46 rfl fun p2 => R.done C <| Xr C rfl rfl <| Rm C rfl rfl <| Rm C rfl rfl <| R.build C rfl rfl rfl zeroValue46 rfl runUnderlying46 (by kernel_rfl) (Fills.part rfl rfl sizeOf3 rfl (.here .nil) (Fills.part rfl rfl sizeOf3 rfl (.skip (.here .nil)) .nil)) <| R.store C rfl rfl rfl rfl sizeOf46 rfl rfl rfl (by repeat (first | exact Uh | apply Ut)) (.here (.here .nil)) <| R.done C <| X.ret C rfl rfl func56 rfl (by exact (.agg rfl isAgg46 sizeOf46 (by repeat (first | exact Mh | apply Mt)) Tk2 .nil)) <| Hp hret ?_
  rfl
theorem reach_c (a z : Int) (ro : RO) : CallP prog J (fnv 80) [.int .i64 a, .int .i64 z] ro (Rc.val ⟨a, z⟩) := by
  refine CallP.intro hJ (by kernel_rfl) fun c cs tail hret => enter_X (n := 8) func80 rfl rfl (Nl rfl) ?_
  have C : Ctx prog main J (bf 80 .normal) := ⟨hJ, by decide⟩
  refine Xr C rfl rfl <| R.alloc C rfl rfl zeroValue46 rfl fun p4 => R.done C <| Xr C rfl rfl <| Rm C rfl rfl <| Rm C rfl rfl <| R.build C rfl rfl rfl zeroValue46 rfl runUnderlying46 (by kernel_rfl) (Fills.part rfl rfl sizeOf3 rfl (.here .nil) (Fills.part rfl rfl sizeOf3 rfl (.skip (.here .nil)) .nil)) <| R.store C rfl rfl rfl rfl sizeOf46 rfl rfl rfl (by repeat (first | exact Uh | apply Ut)) (.here (.here .nil)) <| R.done C <| X.ret C rfl rfl func80 rfl (by exact (.agg rfl isAgg46 sizeOf46 (by repeat (first | exact Mh | apply Mt)) Tk2 .nil)) <| Hp hret ?_
  rfl
theorem example_c (ro : RO) : CallR prog J (fnv 79) [] ro (fun v ro' => BkV ro' v exB) := by
  refine CallR.intro hJ (by kernel_rfl) fun c cs tail hret => enter_X (n := 12) func79 rfl rfl (Nl rfl) ?_
  have C : Ctx prog main J (bf 79 .normal) := ⟨hJ, by decide⟩
  refine Xr C rfl rfl <| R.alloc C rfl rfl zeroValue25 rfl fun p0 => R.done C <| Xr C rfl rfl <| R.callP C rfl rfl rfl rfl (one_c hJ _ _) <| R.callP C rfl rfl rfl rfl (reach_c hJ _ _ _) <| R.buildSlice C (vs := _) rfl rfl (show pvals _ _ = some (numbered 0 [_, _]) from rfl) rfl runUnderlying22 sizeOf46 zeroValue46 (by decide) ((.cons rfl rfl (.cons rfl rfl .nil))) fun p3 => R.callP C rfl rfl rfl rfl (sq_c hJ _ _ _) <| R.build C rfl rfl rfl zeroValue58 rfl runUnderlying58 (by kernel_rfl) (Fills.part rfl rfl sizeOf27 rfl (.here (.here .nil)) (Fills.part rfl rfl sizeOf3 rfl (.skip (.skip (.here .nil))) .nil)) <| R.callP C rfl rfl rfl rfl (sq_c hJ _ _ _) <| R.build C rfl rfl rfl zeroValue58 rfl runUnderlying58 (by kernel_rfl) (Fills.part rfl rfl sizeOf27 rfl (.here (.here .nil)) (Fills.part rfl rfl sizeOf3 rfl (.skip (.skip (.here .nil))) (Fills.part rfl rfl sizeOf3 rfl (.skip (.skip (.skip (.here .nil)))) .nil))) <| R.callP C rfl rfl rfl rfl (sq_c hJ _ _ _) <| R.build C rfl rfl rfl zeroValue58 rfl runUnderlying58 (by kernel_rfl) (Fills.part rfl rfl sizeOf27 rfl (.here (.here .nil)) .nil) <| R.buildSlice C (vs := _) rfl rfl (show pvals _ _ = some (numbered 0 [_, _, _]) from rfl) rfl runUnderlying23 sizeOf58 zeroValue58 (by decide) ((.cons rfl rfl (.cons rfl rfl (.cons rfl rfl .nil)))) fun p10 => R.build C rfl rfl rfl zeroValue25 rfl runUnderlying25 (by kernel_rfl) (Fills.part rfl rfl sizeOf3 rfl (.here .nil) (Fills.part rfl rfl sizeOf3 rfl (.skip (.here .nil)) (Fills.part rfl rfl sizeOf3 rfl (.skip (.skip (.here .nil))) (Fills.part rfl rfl sizeOf22 rfl (.skip (.skip (.skip (.here .nil)))) (Fills.part rfl rfl sizeOf23 rfl (.skip (.skip (.skip (.skip (.here .nil))))) .nil))))) <| R.store C rfl rfl rfl rfl sizeOf25 rfl rfl rfl (by repeat (first | exact Uh | apply Ut)) (.here (.here (.here (.here (.here .nil))))) <| R.done C <| X.perm C.1 (perm_mid [_] [_] _) <| X.persist C.1 fun ro1 hl1 h1 => X.persist C.1 fun ro2 hl2 h2 => X.ret C rfl rfl func79 rfl (by exact (.agg rfl isAgg25 sizeOf25 (by repeat (first | exact Mh | apply Mt)) Tk5 .nil)) <| Hr hret (RO.le_trans hl1 hl2) ?_
  exact ⟨_, _, rfl, Ls.lit (xs := exB.cs) Rc.len (by first | exact h2 | exact hl2 _ _ h1), Ls.lit (xs := exB.ws) Wt.len (by first | exact h2 | exact hl2 _ _ h1)⟩
theorem earlier_c {va vb : Value} {ro : RO} {a d : List Int} (ha : LsI ro va a) (hc : LsI ro vb d) (h1 : a.length ≤ 1000000) (h2 : d.length ≤ 1000000) : CallP prog J (fnv 114) [va, vb] ro (.bool (earlier a d)) := by
  obtain ⟨ab, ac, rfl⟩ := ha.form
  obtain ⟨bb, bc, rfl⟩ := hc.form
  refine CallP.intro hJ (by kernel_rfl) fun c cs tail hret => enter_X (n := 36) func114 rfl rfl (Nl rfl) ?_
  have C : Ctx prog main J (bf 114 .normal) := ⟨hJ, by decide⟩
  refine Xr C rfl rfl <| Ad C rfl rfl <| Xs C <| Xr C rfl rfl <| Ad C rfl rfl <| X.block C.1 <| X.loopI (ι := Nat) C.1 (fun i => i ≤ a.length ∧ i ≤ d.length ∧ cmpL a d = cmpL (a.drop i) (d.drop i)) (fun i => [(0, .slice ab a.length ac), (1, .slice bb d.length bc), (5, .int .i64 (i : Int))])
    (fun _ => ⟨ro, tail⟩) (fun i => d.length - i) 0 ⟨Nat.zero_le _, Nat.zero_le _, rfl⟩ rfl ⟨rfl, rfl, rfl, trivial⟩ fun i hi hnext => ?_
  obtain ⟨hi, hi2, hcm⟩ := hi
  refine Xs C <| Xr C rfl rfl <| Rm C rfl rfl <| Rm C rfl rfl <| R.lenSlice C rfl rfl rfl runUnderlying28 <| R.int C rfl rfl rfl rfl b_lss <| R.done C <| X.cond C.1 rfl (fun hlt => ?_) (fun hlt => ?_)
  · have hlt := hlt
    simp only [decide_eq_true_eq] at hlt
    have hj' : i < d.length := by omega
    rw [List.drop_eq_getElem_cons hj'] at hcm
    obtain ⟨pp2, off2, cap2, ll2, t2, fq2, hsl2, hrop2, hsub2⟩ := hc.at ic_len (by omega)
    cases hsl2
    have hx2 : ll2[off2 + i * 1]? = some (.int .i64 d[i]) := by have := (hsub2 i hj').get 0 (by decide); simpa [ic] using this
    refine X.skip C.1 <| Xs C <| X.block C.1 <| Xs C <| Xs C <| Xd C fun hok => Dm C 0 hok rfl rfl rfl <| Dm C 1 hok rfl rfl rfl <| Dp 2 hok (fun _ _ _ A h => R.lenSlice C rfl (A.w rfl rfl) (A.x rfl rfl) runUnderlying28 h) <| Di C 3 hok rfl rfl rfl rfl rfl b_geq <| Dm C 4 hok rfl rfl rfl <| D.fix (t := 16) rfl (fun hge => ?_) (fun hge => ?_)
    · have hge := hge
      simp only [decide_eq_true_eq] at hge
      obtain rfl : i = a.length := by omega
      refine Du C 5 hok rfl <| Du C 6 hok rfl <| Du C 7 hok rfl <| Du C 8 hok rfl <| Du C 9 hok rfl <| Du C 10 hok rfl <| Du C 11 hok rfl <| Du C 12 hok rfl <| Du C 13 hok rfl <| Dp 14 hok (fun _ _ _ A h => R.pickT C rfl (A.w rfl rfl) (A.x rfl rfl) (A.x rfl rfl) h) <| D.done C hok (by kernel_rfl) <| X.cond C.1 rfl (fun _ => ?_) (fun h => nomatch h)
      refine Xr C rfl rfl <| Ad C rfl rfl <| Xt C func114 <| Hp hret ?_
      rw [earlier, hcm, List.drop_length]; rfl
    · have hge := hge
      simp only [decide_eq_false_iff_not] at hge
      have hi' : i < a.length := by omega
      rw [List.drop_eq_getElem_cons hi', cmpL] at hcm
      obtain ⟨pp, off, cap, ll, t, fq, hsl, hrop, hsub⟩ := ha.at ic_len (by omega)
      cases hsl
      have hx : ll[off + i * 1]? = some (.int .i64 a[i]) := by have := (hsub i hi').get 0 (by decide); simpa [ic] using this
      refine Dm C 5 hok rfl rfl rfl <| Dm C 6 hok rfl rfl rfl <| Dx C 7 hok rfl rfl rfl runUnderlying28 sizeOf3 <| Dl 8 hok (fun _ _ A h => R.loadOneRo C rfl (A.w rfl rfl) (A.x rfl rfl) isAgg3 hrop hx h) <| Dm C 9 hok rfl rfl rfl <| Dm C 10 hok rfl rfl rfl <| Dx C 11 hok rfl rfl rfl runUnderlying28 sizeOf3 <| Dl 12 hok (fun _ _ A h => R.loadOneRo C rfl (A.w rfl rfl) (A.x rfl rfl) isAgg3 hrop2 hx2 h) <| Di C 13 hok rfl rfl rfl rfl rfl b_lss <| Dp 14 hok (fun _ _ _ A h => R.pickF C rfl (A.w rfl rfl) (A.x rfl rfl) (A.x rfl rfl) h) <| D.done C hok (by kernel_rfl) <| X.cond C.1 rfl (fun hls => ?_) (fun hls => ?_)
      · have hls := hls
        simp only [decide_eq_true_eq] at hls
        refine Xr C rfl rfl <| Ad C rfl rfl <| Xt C func114 <| Hp hret ?_
        have := cmpI_neg.2 hls
        rw [earlier, hcm, if_pos (by omega), decide_eq_true this]; rfl
      · have hls := hls
        simp only [decide_eq_false_iff_not] at hls
        refine X.skip C.1 <| Xs C <| Xd C fun hok => Dm C 0 hok rfl rfl rfl <| Dm C 1 hok rfl rfl rfl <| Dx C 2 hok rfl rfl rfl runUnderlying28 sizeOf3 <| Dl 3 hok (fun _ _ A h => R.loadOneRo C rfl (A.w rfl rfl) (A.x rfl rfl) isAgg3 hrop hx h) <| Dm C 4 hok rfl rfl rfl <| Dm C 5 hok rfl rfl rfl <| Dx C 6 hok rfl rfl rfl runUnderlying28 sizeOf3 <| Dl 7 hok (fun _ _ A h => R.loadOneRo C rfl (A.w rfl rfl) (A.x rfl rfl) isAgg3 hrop2 hx2 h) <| Di C 8 hok rfl rfl rfl rfl rfl b_gtr <| D.done C hok (by kernel_rfl) <| X.cond C.1 rfl (fun hgt => ?_) (fun hgt => ?_)
        · have hgt := hgt
          simp only [decide_eq_true_eq] at hgt
          refine Xr C rfl rfl <| Ad C rfl rfl <| Xt C func114 <| Hp hret ?_
          have h3 : ¬ cmpI a[i] d[i] < 0 := fun h => by have := cmpI_neg.1 h; omega
          have h4 : cmpI a[i] d[i] ≠ 0 := fun h => by have := cmpI_zero.1 h; omega
          rw [earlier, hcm, if_pos h4, decide_eq_false h3]; rfl
        · have hgt := hgt
          simp only [decide_eq_false_iff_not] at hgt
          refine X.skip C.1 <| X.inBlock C.1 <| X.region C rfl rfl <| Rm C rfl rfl <| R.int C rfl rfl rfl rfl (b_add (by omega) (by omega)) <| Ad C rfl rfl ?_
          rw [if_neg (by rw [Decidable.not_not, cmpI_zero]; omega)] at hcm
          refine X.weaken ?_ (hnext (i + 1) ⟨hi', hj', hcm⟩ (by omega))
          exact ⟨rfl, rfl, by simp [look], trivial⟩
  · have hlt := hlt
    simp only [decide_eq_false_iff_not] at hlt
    obtain rfl : i = d.length := by omega
    rw [List.drop_length] at hcm
    refine X.exit C.1 rfl <| Xr C rfl rfl <| Ad C rfl rfl <| Xt C func114 <| Hp hret ?_
    have : ¬ cmpL (a.drop d.length) [] < 0 := by cases a.drop d.length <;> simp [cmpL]
    rw [earlier, hcm, decide_eq_false this]; rfl
theorem sameInts_c {va vb : Value} {ro : RO} {a d : List Int} (ha : LsI ro va a) (hc : LsI ro vb d) (h1 : a.length ≤ 1000000) (h2 : d.length ≤ 1000000) : CallP prog J (fnv 39) [va, vb] ro (.bool (sameInts a d)) := by
  refine CallP.intro hJ (by kernel_rfl) fun c cs tail hret => enter_X (n := 15) func39 rfl rfl (Nl rfl) ?_
  have C : Ctx prog main J (bf 39 .normal) := ⟨hJ, by decide⟩
  refine Xr C rfl rfl <| Ad C rfl rfl <| Xr C rfl rfl <| Rm C rfl rfl <| Rm C rfl rfl <| R.callP C rfl rfl rfl rfl (earlier_c hJ ha hc h1 h2) <| R.not C rfl rfl rfl <| Rm C rfl rfl <| R.fix (t := 9) rfl (fun q1 => ?_) (fun q1 => ?_)
  · have q1 := q1
    refine Rm C rfl rfl <| Rm C rfl rfl <| R.callP C rfl rfl rfl rfl (earlier_c hJ hc ha h2 h1) <| R.not C rfl rfl rfl <| R.pickT C rfl rfl rfl rfl <| Ad C rfl rfl <| Xt C func39 <| Hp hret ?_
    first | (simp_all [sameInts, retVal]; done)
  · have q1 := q1
    refine R.pass C rfl rfl <| R.pass C rfl rfl <| R.pass C rfl rfl <| R.pass C rfl rfl <| R.pickF C rfl rfl rfl rfl <| Ad C rfl rfl <| Xt C func39 <| Hp hret ?_
    first | (simp_all [sameInts, retVal]; done)
theorem sameSquares_c {va vb : Value} {ro : RO} {a d : List Sq} (ha : LsS ro va a) (hc : LsS ro vb d) (h1 : a.length ≤ 1000000) (h2 : d.length ≤ 1000000) : CallP prog J (fnv 30) [va, vb] ro (.bool (decide (a = d))) := by
  obtain ⟨ab, ac, rfl⟩ := ha.form
  obtain ⟨bb, bc, rfl⟩ := hc.form
  refine CallP.intro hJ (by kernel_rfl) fun c cs tail hret => enter_X (n := 26) func30 rfl rfl (Nl rfl) ?_
  have C : Ctx prog main J (bf 30 .normal) := ⟨hJ, by decide⟩
  refine Xr C rfl rfl <| Ad C rfl rfl <| Xs C <| Xr C rfl rfl <| Rm C rfl rfl <| R.lenSlice C rfl rfl rfl runUnderlying41 <| Rm C rfl rfl <| R.lenSlice C rfl rfl rfl runUnderlying41 <| R.int C rfl rfl rfl rfl b_neq <| R.done C <| X.cond C.1 rfl (fun hne => ?_) (fun hne => ?_)
  · have hne := hne
    refine Xr C rfl rfl <| Ad C rfl rfl <| Xt C func30 <| Hp hret ?_
    have : a ≠ d := fun e => by subst e; simp at hne
    simp [this, retVal]
  · have hne := hne
    have hlen : a.length = d.length := by simp at hne; omega
    refine X.skip C.1 <| Xs C <| Xr C rfl rfl <| Ad C rfl rfl <| X.block C.1 <| X.loopI (ι := Nat) C.1 (fun i => i ≤ a.length ∧ a.take i = d.take i) (fun i => [(0, .slice ab a.length ac), (1, .slice bb d.length bc), (5, .int .i64 (i : Int))])
      (fun _ => ⟨ro, tail⟩) (fun i => a.length - i) 0 ⟨Nat.zero_le _, rfl⟩ rfl ⟨rfl, rfl, rfl, trivial⟩ fun i hi hnext => ?_
    obtain ⟨hi, hcm⟩ := hi
    refine Xs C <| Xr C rfl rfl <| Rm C rfl rfl <| Rm C rfl rfl <| R.lenSlice C rfl rfl rfl runUnderlying41 <| R.int C rfl rfl rfl rfl b_lss <| R.done C <| X.cond C.1 rfl (fun hlt => ?_) (fun hlt => ?_)
    · have hlt := hlt
      simp only [decide_eq_true_eq] at hlt
      have hi' : i < a.length := by omega
      have hj' : i < d.length := by omega
      obtain ⟨pp, off, cap, ll, t, fq, hsl, hrop, hsub⟩ := ha.at Sq.len (by omega)
      cases hsl
      obtain ⟨pp2, off2, cap2, ll2, t2, fq2, hsl2, hrop2, hsub2⟩ := hc.at Sq.len (by omega)
      cases hsl2
      have hta : a.take (i + 1) = a.take i ++ [a[i]] := List.take_succ_eq_append_getElem hi'
      have htd : d.take (i + 1) = d.take i ++ [d[i]] := List.take_succ_eq_append_getElem hj'
      have hgn : a[i] ≠ d[i] → a ≠ d := fun h e => h (by subst e; rfl)
      refine X.skip C.1 <| Xs C <| X.block C.1 <| Xs C <| Xd C fun hok => Dm C 0 hok rfl rfl rfl <| Dm C 1 hok rfl rfl rfl <| Dx C 2 hok rfl rfl rfl runUnderlying41 sizeOf27 <| Dl 3 hok (fun _ _ A h => R.loadAggRo C rfl (A.w rfl rfl) (A.x rfl rfl) isAgg27 sizeOf27 hrop (hsub i hi') h) <| Dm C 4 hok rfl rfl rfl <| Dm C 5 hok rfl rfl rfl <| Dx C 6 hok rfl rfl rfl runUnderlying41 sizeOf27 <| Dl 7 hok (fun _ _ A h => R.loadAggRo C rfl (A.w rfl rfl) (A.x rfl rfl) isAgg27 sizeOf27 hrop2 (hsub2 i hj') h) <| Dp 8 hok (fun _ _ _ A h => R.neAgg (p := [(a[i]).e, (a[i]).n]) (q := [(d[i]).e, (d[i]).n]) C rfl (A.w rfl rfl) (A.x rfl rfl) (A.x rfl rfl) eqT27 rfl rfl (by kernel_rfl) h) <| D.done C hok (by kernel_rfl) <| X.cond C.1 rfl (fun hne2 => ?_) (fun hne2 => ?_)
      · have hne2 := hne2
        refine Xr C rfl rfl <| Ad C rfl rfl <| Xt C func30 <| Hp hret ?_
        have : a ≠ d := hgn (fun e => by rw [e] at hne2; simp at hne2)
        simp [this, retVal]
      · have hne2 := hne2
        have hxy : a[i] = d[i] := by
          generalize a[i] = x at hne2 ⊢
          generalize d[i] = y at hne2 ⊢
          obtain ⟨_, _⟩ := x; obtain ⟨_, _⟩ := y; simp at hne2 ⊢; omega
        refine X.skip C.1 <| X.inBlock C.1 <| X.region C rfl rfl <| Rm C rfl rfl <| R.int C rfl rfl rfl rfl (b_add (by omega) (by omega)) <| Ad C rfl rfl <| X.weaken ?_ (hnext (i + 1) ⟨hi', by rw [hta, htd, hcm, hxy]⟩ (by omega))
        exact ⟨rfl, rfl, by simp [look], trivial⟩
    · have hlt := hlt
      simp only [decide_eq_false_iff_not] at hlt
      obtain rfl : i = a.length := by omega
      rw [List.take_length, hlen, List.take_length] at hcm
      refine X.exit C.1 rfl <| Xr C rfl rfl <| Ad C rfl rfl <| Xt C func30 <| Hp hret ?_
      simp [hcm, retVal]
end Go.Lg.B
namespace Go.Lg.B
open Go Go.Conc Go.Lg Go.Proofs Go.Proofs.Tryz
theorem asc_unique : ∀ {a c : List Int}, a.Pairwise (· < ·) → c.Pairwise (· < ·) → (∀ x, x ∈ a ↔ x ∈ c) → a = c
  | [], [], _, _, _ => rfl
  | [], y :: c, _, _, h => absurd ((h y).2 List.mem_cons_self) (by simp)
  | x :: a, [], _, _, h => absurd ((h x).1 List.mem_cons_self) (by simp)
  | x :: a, y :: c, ha, hc, h => by
    rw [List.pairwise_cons] at ha hc
    have hxy : x = y := by
      rcases List.mem_cons.1 ((h x).1 List.mem_cons_self) with e | e
      · exact e
      · rcases List.mem_cons.1 ((h y).2 List.mem_cons_self) with e2 | e2
        · exact e2.symm
        · have := hc.1 x e
          have := ha.1 y e2
          omega
    subst hxy
    rw [asc_unique ha.2 hc.2 fun z => ?_]
    have hz := h z
    simp only [List.mem_cons] at hz
    constructor
    · intro hm
      rcases hz.1 (.inr hm) with e | e
      · have := ha.1 z hm; omega
      · exact e
    · intro hm
      rcases hz.2 (.inr hm) with e | e
      · have := hc.1 z hm; omega
      · exact e
theorem asc_last {acc : List Int} {x : Int} (h : acc.Pairwise (· < ·)) (hx : x ∈ acc) (hm : ∀ y ∈ acc, y ≤ x) : acc.getLast? = some x := by
  induction acc with
  | nil => cases hx
  | cons y acc ih =>
    rw [List.pairwise_cons] at h
    cases acc with
    | nil =>
      simp only [List.mem_singleton] at hx
      subst hx; rfl
    | cons z acc =>
      have hx' : x ∈ z :: acc := by
        rcases List.mem_cons.1 hx with e | e
        · have := h.1 z List.mem_cons_self
          have := hm z (by simp)
          omega
        · exact e
      have := ih h.2 hx' fun w hw => hm w (List.mem_cons_of_mem _ hw)
      rw [List.getLast?_cons_cons]; exact this
theorem fold_asc : ∀ (l acc : List Int), acc.Pairwise (· < ·) → l.Pairwise (· ≤ ·) → (∀ x ∈ acc, ∀ y ∈ l, x ≤ y) → (l.foldl cstep acc).Pairwise (· < ·) ∧ ∀ x, x ∈ l.foldl cstep acc ↔ x ∈ acc ∨ x ∈ l
  | [], acc, h, _, _ => ⟨h, fun x => by simp⟩
  | x :: l, acc, h, hl, hle => by
    rw [List.pairwise_cons] at hl
    have hax : ∀ y ∈ acc, y ≤ x := fun y hy => hle y hy x List.mem_cons_self
    rw [List.foldl_cons]
    by_cases hc : acc.getLast? = some x
    · rw [cstep, if_pos hc]
      have hxa : x ∈ acc := List.mem_of_getLast? hc
      have := fold_asc l acc h hl.2 fun a ha y hy => hle a ha y (List.mem_cons_of_mem _ hy)
      refine ⟨this.1, fun z => ?_⟩
      rw [this.2, List.mem_cons]
      constructor
      · rintro (h | h)
        · exact .inl h
        · exact .inr (.inr h)
      · rintro (h | rfl | h)
        · exact .inl h
        · exact .inl hxa
        · exact .inr h
    · rw [cstep, if_neg hc]
      have hlt : ∀ y ∈ acc, y < x := fun y hy => by
        have := hax y hy
        by_cases e : y = x
        · subst e; exact absurd (asc_last h hy hax) hc
        · omega
      have := fold_asc l (acc ++ [x]) (by
        rw [List.pairwise_append]
        exact ⟨h, by simp, fun a ha b hb => by simp only [List.mem_singleton] at hb; subst hb; exact hlt a ha⟩) hl.2 (fun a ha y hy => by
          rcases List.mem_append.1 ha with e | e
          · exact hle a e y (List.mem_cons_of_mem _ hy)
          · simp only [List.mem_singleton] at e; subst e; exact hl.1 y hy)
      refine ⟨this.1, fun z => ?_⟩
      rw [this.2]
      have e1 : (z ∈ acc ++ [x]) ↔ (z ∈ acc ∨ z = x) := by rw [List.mem_append, List.mem_singleton]
      rw [e1, List.mem_cons]
      constructor
      · rintro ((h | h) | h)
        · exact .inl h
        · exact .inr (.inl h)
        · exact .inr (.inr h)
      · rintro (h | h | h)
        · exact .inl (.inl h)
        · exact .inl (.inr h)
        · exact .inr h
theorem compact_sort {l r : List Int} (hr : r.Pairwise (· < ·)) (h : ∀ x, x ∈ r ↔ x ∈ l) : compactL (l.mergeSort fun x y => decide (x ≤ y)) = r := by
  have hs : (l.mergeSort fun x y => decide (x ≤ y)).Pairwise (· ≤ ·) := by
    have := List.pairwise_mergeSort (le := fun x y : Int => decide (x ≤ y)) (by intro a b c; simp; omega) (by intro a b; simp; omega) l
    exact this.imp (by intro a b; simp)
  have hf := fold_asc _ [] .nil hs (by simp)
  refine asc_unique hf.1 hr fun x => ?_
  show x ∈ List.foldl cstep [] _ ↔ _
  rw [hf.2, h]
  simp [(List.mergeSort_perm l _).mem_iff]
theorem offOf_eq {b : Bk} {k : Int} {r : List Int} (h0 : (openH b (b.compass k) == 0) = true) (hr : r.Pairwise (· < ·)) (h : ((((cases b).map fun c => c.a.off k).all fun x => r.contains x) && (r.all fun x => ((cases b).map fun c => c.a.off k).contains x)) = true) : offOf b k = (r, 0) := by
  simp only [Bool.and_eq_true, List.all_eq_true, List.contains_iff_mem] at h
  rw [offOf, if_neg (by simpa using h0), compact_sort hr fun x => ⟨h.2 x, h.1 x⟩]
theorem ex_off : offOf exB 1 = ([0, 1], 0) := offOf_eq (by kernel_rfl) (by decide) (by kernel_rfl)
theorem ex_off0 : offOf { exB with f := 0 } 1 = ([1], 0) := offOf_eq (by kernel_rfl) (by decide) (by kernel_rfl)
end Go.Lg.B
namespace Go.Lg.B
open Go Go.Conc Go.Lg Go.Proofs Go.Proofs.Tryz
def exO : Bk := heard exB ⟨⟨4, 2⟩, 6, 0, false⟩
def exT : Bk := trusted exB 0
def exS : Bk := swung exB 1 ⟨0, 0⟩
def ex0 : Bk := { exB with f := 0 }
theorem k_true1 : true_ ⟨0, 0⟩ ⟨2, 1⟩ = (1, 0) := by kernel_rfl
theorem k_true2 : true_ ⟨0, 0⟩ ⟨5, -2⟩ = (2, 0) := by kernel_rfl
theorem k_is1 : isCase exB ⟨⟨2, 1⟩, [0, 1], []⟩ = (true, 0) := by kernel_rfl
theorem k_is2 : isCase exB ⟨⟨2, 1⟩, [0, 0], []⟩ = (false, 0) := by kernel_rfl
theorem k_check : checkChart exB = 0 := by kernel_rfl
theorem k_cases : (cases exB).length = 14 := by kernel_rfl
theorem k_open : openH exB 0 = 0 := by kernel_rfl
theorem k_where : wheres exB = [⟨0, 0⟩, ⟨1, 0⟩, ⟨2, 0⟩, ⟨2, 1⟩, ⟨1, 2⟩, ⟨2, 2⟩] := by kernel_rfl
theorem k_box : box exB = (⟨0, 2⟩, ⟨0, 2⟩) := by kernel_rfl
theorem k_at1 : told exB (exB.square ⟨2, 0⟩) (fun c => decide (c.a.s = ⟨2, 0⟩)) = (0, 0) := by kernel_rfl
theorem k_at2 : told exB (exB.square ⟨0, 1⟩) (fun c => decide (c.a.s = ⟨0, 1⟩)) = (2, 0) := by kernel_rfl
theorem k_ask : ask exB = (0, 10, 0) := by kernel_rfl
theorem k_hear : hearH exB ⟨⟨4, 2⟩, 6, 0, false⟩ = 0 := by kernel_rfl
theorem k_ocheck : checkChart exO = 0 := by kernel_rfl
theorem k_ocases : (cases exO).length = 4 := by kernel_rfl
theorem k_few : fewest exO = ([0], 0) := by kernel_rfl
theorem k_clash : clash exO = ([0, 3], 0) := by kernel_rfl
theorem k_trust : trustH exB 0 = 0 := by kernel_rfl
theorem k_tcheck : checkChart exT = 0 := by kernel_rfl
theorem k_tcases : (cases exT).length = 10 := by kernel_rfl
theorem k_swing : swingH exB 1 ⟨0, 0⟩ = 0 := by kernel_rfl
theorem k_scheck : checkChart exS = 0 := by kernel_rfl
theorem k_scases : (cases exS).length = 4 := by kernel_rfl
theorem k_open0 : openH ex0 0 = 0 := by kernel_rfl
theorem k_where0 : wheres ex0 = [⟨2, 0⟩, ⟨2, 1⟩] := by kernel_rfl
theorem k_false : told exB (exB.witness 0) (fun c => c.m.testBit (0 : Int).toNat) = (0, 0) := by kernel_rfl
theorem k_short : exB.short := ⟨by decide, by decide⟩
theorem k_shortO : exO.short := ⟨by decide, by decide⟩
theorem k_shortT : exT.short := ⟨by decide, by decide⟩
theorem k_shortS : exS.short := ⟨by decide, by decide⟩
theorem k_short0 : ex0.short := ⟨by decide, by decide⟩
theorem CallR.to {J : Goroutine → Mem → Prop} {fv : Value} {args : List Value} {ro : RO} {w1 w0 : Value} (h : CallR prog J fv args ro fun w _ => w = w1) (e : w1 = w0) : CallR prog J fv args ro fun w _ => w = w0 := by subst e; exact h
variable {main : Bool} {J : Goroutine → Mem → Prop} (hJ : Closed prog main J)
include hJ
theorem x_is1 {v vk : Value} {ro : RO} (he : Env ro) (hv : BkV ro v exB) (hk : CsV ro vk ⟨⟨2, 1⟩, [0, 1], []⟩) : CallR prog J (fnv 22) [v, vk] ro fun w _ => w = .tuple [.bool true, .int .i64 0].toArray := CallR.to (isCase_c hJ he hv k_short hk ⟨by decide, by decide⟩) (by rw [k_is1])
theorem x_is2 {v vk : Value} {ro : RO} (he : Env ro) (hv : BkV ro v exB) (hk : CsV ro vk ⟨⟨2, 1⟩, [0, 0], []⟩) : CallR prog J (fnv 22) [v, vk] ro fun w _ => w = .tuple [.bool false, .int .i64 0].toArray := CallR.to (isCase_c hJ he hv k_short hk ⟨by decide, by decide⟩) (by rw [k_is2])
theorem x_cases {v : Value} {ro : RO} (he : Env ro) (hv : BkV ro v exB) : CallR prog J (fnv 26) [v] ro fun w _ => w = .tuple [.int .i64 14, .int .i64 0].toArray := CallR.to (cases_c hJ he hv k_short) (by rw [k_check, k_cases]; rfl)
theorem x_casesO {v : Value} {ro : RO} (he : Env ro) (hv : BkV ro v exO) : CallR prog J (fnv 26) [v] ro fun w _ => w = .tuple [.int .i64 4, .int .i64 0].toArray := CallR.to (cases_c hJ he hv k_shortO) (by rw [k_ocheck, k_ocases]; rfl)
theorem x_casesT {v : Value} {ro : RO} (he : Env ro) (hv : BkV ro v exT) : CallR prog J (fnv 26) [v] ro fun w _ => w = .tuple [.int .i64 10, .int .i64 0].toArray := CallR.to (cases_c hJ he hv k_shortT) (by rw [k_tcheck, k_tcases]; rfl)
theorem x_casesS {v : Value} {ro : RO} (he : Env ro) (hv : BkV ro v exS) : CallR prog J (fnv 26) [v] ro fun w _ => w = .tuple [.int .i64 4, .int .i64 0].toArray := CallR.to (cases_c hJ he hv k_shortS) (by rw [k_scheck, k_scases]; rfl)
theorem x_where {v : Value} {ro : RO} (he : Env ro) (hv : BkV ro v exB) : CallR prog J (fnv 28) [v] ro fun w ro' => ∃ vs, LsS ro' vs [⟨0, 0⟩, ⟨1, 0⟩, ⟨2, 0⟩, ⟨2, 1⟩, ⟨1, 2⟩, ⟨2, 2⟩] ∧ w = .tuple [vs, .int .i64 0].toArray := by
  have := where_c hJ he hv k_short
  rwa [k_where, k_open] at this
theorem x_where0 {v : Value} {ro : RO} (he : Env ro) (hv : BkV ro v ex0) : CallR prog J (fnv 28) [v] ro fun w ro' => ∃ vs, LsS ro' vs [⟨2, 0⟩, ⟨2, 1⟩] ∧ w = .tuple [vs, .int .i64 0].toArray := by
  have := where_c hJ he hv k_short0
  rwa [k_where0, k_open0] at this
theorem x_box {v : Value} {ro : RO} (he : Env ro) (hv : BkV ro v exB) : CallR prog J (fnv 31) [v] ro fun w _ => w = .tuple [Rc.val ⟨0, 2⟩, Rc.val ⟨0, 2⟩, .int .i64 0].toArray := CallR.to (box_c hJ he hv k_short) (by rw [k_box, k_open])
theorem x_at1 {v : Value} {ro : RO} (he : Env ro) (hv : BkV ro v exB) : CallR prog J (fnv 33) [v, Sq.val ⟨2, 0⟩] ro fun w _ => w = .tuple [.int .i64 0, .int .i64 0].toArray := CallR.to (at_c hJ he hv k_short ⟨2, 0⟩) (by rw [k_at1])
theorem x_at2 {v : Value} {ro : RO} (he : Env ro) (hv : BkV ro v exB) : CallR prog J (fnv 33) [v, Sq.val ⟨0, 1⟩] ro fun w _ => w = .tuple [.int .i64 2, .int .i64 0].toArray := CallR.to (at_c hJ he hv k_short ⟨0, 1⟩) (by rw [k_at2])
theorem x_off {v : Value} {ro : RO} (he : Env ro) (hv : BkV ro v exB) : CallR prog J (fnv 35) [v, .int .i64 1] ro fun w ro' => ∃ vl, LsI ro' vl [0, 1] ∧ w = .tuple [vl, .int .i64 0].toArray := by
  have := off_c hJ he hv k_short 1
  rwa [ex_off] at this
theorem x_off0 {v : Value} {ro : RO} (he : Env ro) (hv : BkV ro v ex0) : CallR prog J (fnv 35) [v, .int .i64 1] ro fun w ro' => ∃ vl, LsI ro' vl [1] ∧ w = .tuple [vl, .int .i64 0].toArray := by
  have := off_c hJ he hv k_short0 1
  rwa [show offOf ex0 1 = ([1], 0) from ex_off0] at this
theorem x_false {v : Value} {ro : RO} (he : Env ro) (hv : BkV ro v exB) : CallR prog J (fnv 37) [v, .int .i64 0] ro fun w _ => w = .tuple [.int .i64 0, .int .i64 0].toArray := CallR.to (false_c hJ he hv k_short 0) (by rw [k_false])
theorem x_ask {v : Value} {ro : RO} (he : Env ro) (hv : BkV ro v exB) : CallR prog J (fnv 58) [v] ro fun w _ => w = .tuple [.int .i64 0, .int .i64 10, .int .i64 0].toArray := CallR.to (ask_c hJ he hv k_short) (by rw [k_ask])
omit hJ in
theorem new_zero {b : Bk} {h : Int} {ro : RO} {w : Value} (hn : NewV ro b h w) (h0 : h = 0) : ∃ v, BkV ro v b ∧ w = .tuple [v, .int .i64 0].toArray := hn.elim (fun x => absurd h0 x.1) (fun x => x.2)
omit hJ in
theorem CallR.imp {J : Goroutine → Mem → Prop} {fv : Value} {args : List Value} {ro : RO} {A B : Value → RO → Prop} (h : CallR prog J fv args ro A) (e : ∀ v r, A v r → B v r) : CallR prog J fv args ro B := CallR.mono h fun v r _ x => e v r x
theorem x_hear {v : Value} {ro : RO} (he : Env ro) (hv : BkV ro v exB) : CallR prog J (fnv 40) [v, Wt.val ⟨⟨4, 2⟩, 6, 0, false⟩] ro fun w ro' => ∃ v', BkV ro' v' exO ∧ w = .tuple [v', .int .i64 0].toArray := CallR.imp (hear_c hJ he hv k_short _) fun _ _ h => new_zero h k_hear
theorem x_trust {v : Value} {ro : RO} (he : Env ro) (hv : BkV ro v exB) : CallR prog J (fnv 43) [v, .int .i64 0] ro fun w ro' => ∃ v', BkV ro' v' exT ∧ w = .tuple [v', .int .i64 0].toArray := CallR.imp (trust_c hJ he hv k_short 0) fun _ _ h => new_zero h k_trust
theorem x_swing {v : Value} {ro : RO} (he : Env ro) (hv : BkV ro v exB) : CallR prog J (fnv 45) [v, .int .i64 1, Rc.val ⟨0, 0⟩] ro fun w ro' => ∃ v', BkV ro' v' exS ∧ w = .tuple [v', .int .i64 0].toArray := CallR.imp (swing_c hJ he hv k_short 1 ⟨0, 0⟩) fun _ _ h => new_zero h k_swing
omit hJ in
theorem x_few {Q : Machine → Outcome → World → Trace → Prop} {v : Value} {ro : RO} (he : Env ro) (hv : BkV ro v exO) : CallR prog (JM prog Q) (fnv 51) [v] ro fun w ro' => ∃ vl, LsI ro' vl [0] ∧ w = .tuple [vl, .int .i64 0].toArray := by
  have := fewest_c (Q := Q) he hv k_shortO
  rwa [k_few] at this
omit hJ in
theorem x_clash {Q : Machine → Outcome → World → Trace → Prop} {v : Value} {ro : RO} (he : Env ro) (hv : BkV ro v exO) : CallR prog (JM prog Q) (fnv 63) [v] ro fun w ro' => ∃ vl, LsI ro' vl [0, 3] ∧ w = .tuple [vl, .int .i64 0].toArray := by
  have := clash_c (Q := Q) he hv k_shortO
  rwa [k_clash] at this
end Go.Lg.B
