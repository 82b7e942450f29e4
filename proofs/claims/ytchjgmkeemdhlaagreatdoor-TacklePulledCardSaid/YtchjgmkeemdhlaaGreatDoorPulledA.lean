/-
  It is proved that the given function answers true for every input, whatever is scheduled: the statement Pulled of the seat. Conditions: none but those of the given statement itself.
-/
import Derived.Test.YtchjgmkeemdhlaaGreatDoorKE
import Derived.Conc.Holds
set_option maxRecDepth 100000
set_option maxHeartbeats 2000000
set_option linter.all false
set_option linter.unusedVariables false
set_option linter.unusedSimpArgs false
set_option linter.unusedSectionVars false
set_option maxRecDepth 100000
namespace Go.Lg.B
open Go Go.Conc Go.Lg Go.Proofs Go.Proofs.Tryz
theorem behind_mono {n m s : Int} (h : n ≤ m) (hs : 0 ≤ s ∧ s ≤ 4) : behind n s ≤ behind m s := by
 have : s = 0 ∨ s = 1 ∨ s = 2 ∨ s = 3 ∨ s = 4 := by omega
 unfold behind
 rcases this with rfl | rfl | rfl | rfl | rfl <;> omega
inductive LeL : List Int → List Int → Prop
 | nil : LeL [] []
 | cons {x y : Int} {a c : List Int} : x ≤ y → LeL a c → LeL (x :: a) (y :: c)
theorem LeL.getD {a c : List Int} (h : LeL a c) : ∀ i, a.getD i 0 ≤ c.getD i 0 := by
 induction h with
 | nil => intro i; simp
 | cons h _ ih =>
  intro i
  cases i with
  | zero => simpa using h
  | succ i => simpa using ih i
end Go.Lg.B
set_option maxRecDepth 100000
namespace Go.Lg.B
open Go Go.Conc Go.Lg Go.Proofs Go.Proofs.Tryz
theorem loadOf_bd {x : Int} : 1 ≤ loadOf x ∧ loadOf x ≤ 99 := by unfold loadOf; omega
theorem gear_at {b : Bk} {g : Int} (_h0 : 0 ≤ g) (_h1 : g < b.gs.length) (hi : g.toNat < b.gs.length) : b.gs[g.toNat] = b.gear g := by simp [Bk.gear, List.getD_eq_getElem?_getD, hi]
end Go.Lg.B
set_option maxRecDepth 100000
namespace Go.Lg.B
open Go Go.Conc Go.Lg Go.Proofs Go.Proofs.Tryz
theorem behind_one {n s : Int} (hn : 1 ≤ n) (hs : 0 ≤ s ∧ s ≤ 4) : 1 ≤ behind n s ∧ behind n s ≤ n ∧ n ≤ behind n s * (s + 1) ∧ (s = 0 → behind n s = n) := by
 have : s = 0 ∨ s = 1 ∨ s = 2 ∨ s = 3 ∨ s = 4 := by omega
 unfold behind
 rcases this with rfl | rfl | rfl | rfl | rfl <;> omega
theorem behind_gap {n m s : Int} (h : n ≤ m) (hs : 0 ≤ s ∧ s ≤ 4) : behind m s - behind n s ≤ m - n := by
 have : s = 0 ∨ s = 1 ∨ s = 2 ∨ s = 3 ∨ s = 4 := by omega
 unfold behind
 rcases this with rfl | rfl | rfl | rfl | rfl <;> omega
theorem pulls_step (b : Bk) : ∀ (q : List Int) (n : Int) (i : Nat), i < q.length → (n :: pullsGo b n q).getD (i + 1) 0 = behind ((n :: pullsGo b n q).getD i 0) (b.sheaves (q.getD i 0))
 | x :: q, n, 0, _ => by simp [pullsGo]
 | x :: q, n, i + 1, h => by
  have := pulls_step b q (behind n (b.sheaves x)) i (by simpa using h)
  simpa [pullsGo] using this
theorem gear_sh {b : Bk} (hb : b.good) {g : Int} (h0 : 0 ≤ g) (h1 : g < b.gs.length) {i : Nat} (hi : i < (b.gear g).length) : 0 ≤ b.sheaves ((b.gear g).getD i 0) ∧ b.sheaves ((b.gear g).getD i 0) ≤ 4 := by
 have := (hb.gear h0 h1).2.1 _ (List.getElem_mem hi)
 rw [List.getD_eq_getElem?_getD, List.getElem?_eq_getElem hi]
 exact hb.sheaves this.1 this.2
theorem pulled_law {b : Bk} (hb : b.good) {g lo hi : Int} (h0 : 0 ≤ g) (h1 : g < b.gs.length) (hlo : 1 ≤ lo) (hlh : lo ≤ hi) : ∀ i : Nat, i ≤ (b.gear g).length →
  1 ≤ (pulls b g lo).getD i 0 ∧ (pulls b g lo).getD i 0 ≤ lo ∧ (pulls b g lo).getD i 0 ≤ (pulls b g hi).getD i 0 ∧ (pulls b g hi).getD i 0 - (pulls b g lo).getD i 0 ≤ hi - lo
 | 0, _ => by simp [pulls]; omega
 | i + 1, h => by
  have ih := pulled_law hb h0 h1 hlo hlh i (by omega)
  have hs := gear_sh hb h0 h1 (i := i) (by omega)
  have e1 : (pulls b g lo).getD (i + 1) 0 = _ := pulls_step b (b.gear g) lo i (by omega)
  have e2 : (pulls b g hi).getD (i + 1) 0 = _ := pulls_step b (b.gear g) hi i (by omega)
  change (pulls b g lo).getD (i + 1) 0 = behind ((pulls b g lo).getD i 0) _ at e1
  change (pulls b g hi).getD (i + 1) 0 = behind ((pulls b g hi).getD i 0) _ at e2
  rw [e1, e2]
  generalize b.sheaves ((b.gear g).getD i 0) = s at hs
  generalize (pulls b g lo).getD i 0 = n at ih
  generalize (pulls b g hi).getD i 0 = m at ih
  have a1 := behind_one ih.1 hs
  have a2 := behind_mono ih.2.2.1 hs
  have a3 := behind_gap ih.2.2.1 hs
  omega
theorem pulled_law2 {b : Bk} (hb : b.good) {g lo : Int} (h0 : 0 ≤ g) (h1 : g < b.gs.length) (hlo : 1 ≤ lo) {i : Nat} (hi : i < (b.gear g).length) :
  (pulls b g lo).getD (i + 1) 0 ≤ (pulls b g lo).getD i 0 ∧ (pulls b g lo).getD i 0 ≤ (pulls b g lo).getD (i + 1) 0 * (b.sheaves ((b.gear g).getD i 0) + 1) ∧ (b.sheaves ((b.gear g).getD i 0) = 0 → (pulls b g lo).getD (i + 1) 0 = (pulls b g lo).getD i 0) := by
 have ih := pulled_law hb h0 h1 hlo (Int.le_refl lo) i (by omega)
 have hs := gear_sh hb h0 h1 (i := i) (by omega)
 have e1 : (pulls b g lo).getD (i + 1) 0 = behind ((pulls b g lo).getD i 0) (b.sheaves ((b.gear g).getD i 0)) := pulls_step b (b.gear g) lo i (by omega)
 rw [e1]
 have a1 := behind_one ih.1 hs
 exact ⟨a1.2.1, a1.2.2.1, a1.2.2.2⟩
theorem getD_get {l : List Int} {i : Nat} (h : i < l.length) : l.getD i 0 = l[i] := by rw [List.getD_eq_getElem?_getD, List.getElem?_eq_getElem h]; rfl
theorem pulled_root {b : Bk} {vb : Value} {g0 x y : Int} (hg0 : 0 ≤ g0 ∧ g0 ≤ 255) (hx : 0 ≤ x ∧ x ≤ 255) (hy : 0 ≤ y ∧ y ≤ 255) {ro : RO} (he : Env ro) (hv : BkV ro vb b) : Root prog 7 [vb, .int .u8 g0, .int .u8 x, .int .u8 y] ro (fun w _ => w = .bool true) := by
 intro Post hret
 have hJ : Closed prog true (JM prog (Go.Conc.Good prog Post)) := JM.closed
 have hvv := hv
 obtain ⟨vp, vg, vc, vt, rfl, hp, hg, hc, ht⟩ := hv
 obtain ⟨pb, pc, rfl⟩ := hp.form
 obtain ⟨gb, gc, rfl⟩ := hg.form
 obtain ⟨cb, cc, rfl⟩ := hc.form
 obtain ⟨tb, tc, rfl⟩ := ht.form
 let main := true
 let J := JM prog (Go.Conc.Good prog Post)
 refine enter_X (n := 186) func7 U U (Nl U) ?_
 have C : Ctx prog main J (bf 7 .normal) := ⟨hJ, by decide⟩
 refine Xr C U U<|R.box C U U U U fun p4 => Ad C U U<|Xs C<|Xr C U U<|R5 C U U isAgg27 sizeOf27 (by repeat constructor) Tk5<|R.callP C U U U U (fitR_c hJ hvv)<|R.not C U U U<|R.done C<|X.cond C.1 U (fun hfit => ?_) (fun hfit => ?_)
 ·refine Xr C U U<|R.callR C U U U U ((hoisted_c _ he)) fun v9 ro9 hl9 hq9 => Ad C U U<|X.ret0 C (by kernel_rfl) U U func7 U (by exact (.tmp U .nil)) fun w9 hs9 => hret _ _ _ hl9 ?_ w9 hs9
  exact hq9
 ·have hch : checkBook b = 0 := by simpa using hfit
  have hb := good_of hch
  have hsh := short_of (not_great hch)
  have hng := hb.ng
  have hnp := hb.np
  refine X.skip C.1<|Xr C U U<|Rm C U U<|R.convInt C U U U runUnderlying5 runUnderlying3 (wrap64 (by omega) (by omega))<|Rf C 2 U U runUnderlying27 U sizeOf23<|Rl C U U isAgg23 (by repeat constructor) U<|Rn C U U runUnderlying23<|R.int C U U U U (b_remP (by omega) (by omega))<|Ad C U U<|Xs C ?_
  have hgb : 0 ≤ g0 % (b.gs.length : Int) ∧ g0 % (b.gs.length : Int) < b.gs.length := ⟨Int.emod_nonneg _ (by omega), Int.emod_lt_of_pos _ (by omega)⟩
  generalize g0 % (b.gs.length : Int) = g at hgb ⊢
  refine X.region C U U<|Rm C U U<|R.callP C U U U U (loadR_c hJ (by omega) _)<|Rm C U U<|R.callP C U U U U (loadR_c hJ (by omega) _)<|R.min2 C U U U U<|Rm C U U<|R.callP C U U U U (loadR_c hJ (by omega) _)<|Rm C U U<|R.callP C U U U U (loadR_c hJ (by omega) _)<|R.max2 C U U U U<|R.asg C U U U<|Ad C U U<|Xs C ?_
  have hlo : 1 ≤ min (loadOf x) (loadOf y) ∧ min (loadOf x) (loadOf y) ≤ 99 := by have := @loadOf_bd x; have := @loadOf_bd y; omega
  have hhi : 1 ≤ max (loadOf x) (loadOf y) ∧ max (loadOf x) (loadOf y) ≤ 99 := by have := @loadOf_bd x; have := @loadOf_bd y; omega
  have hlh : min (loadOf x) (loadOf y) ≤ max (loadOf x) (loadOf y) := by omega
  generalize min (loadOf x) (loadOf y) = lo at hlo hlh ⊢
  generalize max (loadOf x) (loadOf y) = hi at hhi hlh ⊢
  have tg := there_zero.2 hgb
  have e1 : pullsR b g lo = (pulls b g lo, 0) := by rw [pullsR, if_neg (fun h => h hch), if_neg (fun h => h tg), if_neg (fun h => h (loadH_zero.2 hlo))]
  have e2 : pullsR b g hi = (pulls b g hi, 0) := by rw [pullsR, if_neg (fun h => h hch), if_neg (fun h => h tg), if_neg (fun h => h (loadH_zero.2 hhi))]
  refine X.region C U U<|R5 C U U isAgg27 sizeOf27 (by repeat constructor) Tk5<|Rm C U U<|Rm C U U<|R.callR C U U U U (pullsR_c hJ he hvv hsh g lo) fun v1 ro1 hl1 hq1 => ?_
  obtain ⟨w1, y1, rfl⟩ := hq1
  refine Rm C U U<|R.ext C U U U U<|R.ext C U U U U<|R.asg C U U U<|Ad C U U<|Xr C U U<|R5 C U U isAgg27 sizeOf27 (by repeat constructor) Tk5<|Rm C U U<|Rm C U U<|R.callR C U U U U (pullsR_c hJ (he.mono hl1) (hvv.mono hl1) hsh g hi) fun v2 ro2 hl2 hq2 => ?_
  obtain ⟨w2, y2, rfl⟩ := hq2
  have k2 := RO.le_trans hl1 hl2
  rw [e1] at y1
  rw [e2] at y2
  rw [e1, e2]
  have y1 : LsI ro2 w1 (pulls b g lo) := (show LsI ro1 w1 (pulls b g lo) from y1).mono hl2
  have y2 : LsI ro2 w2 (pulls b g hi) := y2
  have hpl := pulls_len b g lo
  have hql := pulls_len b g hi
  have hlaw := pulled_law hb hgb.1 hgb.2 hlo.1 hlh
  have hlaw2 := fun i => @pulled_law2 b hb g lo hgb.1 hgb.2 hlo.1 i
  have hlawq := pulled_law hb hgb.1 hgb.2 hhi.1 (Int.le_refl hi)
  have hP0 : (pulls b g lo)[0]? = some lo := rfl
  have hQ0 : (pulls b g hi)[0]? = some hi := rfl
  have hgear := hb.gearLen hgb.1 hgb.2
  have hgm := hb.gear hgb.1 hgb.2
  have hg' := hg.mono k2
  have hp' := hp.mono k2
  obtain ⟨gp, go, gcap, gl, gt, gfq, hge, hgro, hgsub⟩ := hg'.at (by omega)
  cases hge
  obtain ⟨qb, qc, hqat, hqcap, hq⟩ := hgsub g.toNat (by omega)
  rw [gear_at hgb.1 hgb.2 (by omega)] at hqat hqcap hq
  obtain ⟨pp, po, pcap, pl, pt, pfq, hpe, hpro, hpsub⟩ := hp'.at Pt.len (by omega)
  cases hpe
  generalize hP : pulls b g lo = P at *
  generalize hQ : pulls b g hi = Q at *
  generalize hG : b.gear g = G at *
  obtain ⟨p1, o1, c1, l1, t1, f1, hs1, hr1, hsub1⟩ := y1.at ic_len (by omega)
  obtain ⟨p2, o2, c2, l2, t2, f2, hs2, hr2, hsub2⟩ := y2.at ic_len (by omega)
  subst hs1
  subst hs2
  have hx1 : l1[o1 + 0]? = some (.int .i64 lo) := by
   have := ic_at hsub1 (show 0 < P.length by omega)
   rw [List.getElem?_eq_getElem (by omega)] at hP0
   simpa [Option.some.inj hP0] using this
  have hx2 : l2[o2 + 0]? = some (.int .i64 hi) := by
   have := ic_at hsub2 (show 0 < Q.length by omega)
   rw [List.getElem?_eq_getElem (by omega)] at hQ0
   simpa [Option.some.inj hQ0] using this
  refine Rm C U U<|R.ext C U U U U<|R.ext C U U U U<|R.asg C U U U<|Ad C U U<|Xs C<|Xr C U U<|Rm C U U<|R.int C U U U U b_neq<|R.fixv (t := 53) (v' := .bool false) U (by rfl)<|Rm C U U<|Rm C U U<|R.int C U U U U b_neq<|R.fixv (t := 56) (v' := .bool false) U (by rfl)<|R.pickF C U U U U<|Rm C U U<|Rm C U U<|Rn C U U runUnderlying28<|Rf C 2 U U runUnderlying27 U sizeOf23<|Rl C U U isAgg23 (by repeat constructor) U<|Rm C U U<|Rx C U U U runUnderlying23 sizeOf28<|R.loadOneRo C U U U isAgg28 hgro hqat<|Rn C U U runUnderlying28<|Ra C U U U<|R.int C U U U U b_neq<|R.fixv (t := 68) (v' := .bool false) U (by (refine congrArg Value.bool ?_; simp; omega)) ?_; refine R.pickF C U U U U<|Rm C U U<|Rm C U U<|Rn C U U runUnderlying28<|Rm C U U<|Rn C U U runUnderlying28<|R.int C U U U U b_neq<|R.fixv (t := 75) (v' := .bool false) U (by (refine congrArg Value.bool ?_; simp; omega)) ?_; refine R.pickF C U U U U<|Rm C U U<|Rm C U U<|Rx C U U U runUnderlying28 sizeOf3<|R.loadOneRo C U U U isAgg3 hr1 hx1<|Rm C U U<|R.int C U U U U b_neq<|R.fixv (t := 82) (v' := .bool false) U (by (refine congrArg Value.bool ?_; simp)) ?_; refine R.pickF C U U U U<|Rm C U U<|Rm C U U<|Rx C U U U runUnderlying28 sizeOf3<|R.loadOneRo C U U U isAgg3 hr2 hx2<|Rm C U U<|R.int C U U U U b_neq<|R.fixv (t := 89) (v' := .bool false) U (by (refine congrArg Value.bool ?_; simp)) ?_; refine R.pickF C U U U U<|R.done C<|X.cond C.1 U (fun h => nomatch h) (fun _ => ?_)
  refine X.skip C.1<|Xs C<|Xr C U U<|Ad C U U<|X.block C.1<|X.loopI (ι := Nat) C.1 (fun i => i ≤ P.length) (fun i => [(16, .int .i64 (i : Int)), (12, .slice (some ⟨p1, o1, none⟩) P.length c1), (14, .slice (some ⟨p2, o2, none⟩) Q.length c2), (10, .int .i64 lo), (11, .int .i64 hi), (9, .int .i64 g), (4, .pointer (some ⟨p4, 0, none⟩))])
   (fun _ => ⟨ro2, (p4, .cells [.int .i64 b.w, .slice (some ⟨pp, po, none⟩) b.ps.length pc, .slice (some ⟨gp, go, none⟩) b.gs.length gc, .slice cb b.cs.length cc, .slice tb b.ts.length tc].toArray 27 (0, 0)) :: []⟩) (fun i => P.length - i) 0 (Nat.zero_le _) rfl ⟨U, U, U, U, U, U, U, trivial⟩ fun i hi2 hnext => ?_
  refine Xs C<|Xr C U U<|Rm C U U<|Rm C U U<|Rn C U U runUnderlying28<|R.int C U U U U b_lss<|R.done C<|X.cond C.1 U (fun hlt => ?_) (fun hlt => ?_)
  ·simp only [dT] at hlt
   have hi' : i < P.length := by omega
   have hj' : i < Q.length := by omega
   have hxi := ic_at hsub1 hi'
   have hyi := ic_at hsub2 hj'
   have hb1 := hlaw i (by omega)
   have hb2 := hlawq i (by omega)
   rw [getD_get hi', getD_get hj'] at hb1
   rw [getD_get hj'] at hb2
   refine X.skip C.1<|Xs C<|X.block C.1<|Xs C<|Xs C<|Xd C fun hok => Dm C 0 hok U U U<|Dm C 1 hok U U U<|Dx C 2 hok U U U runUnderlying28 sizeOf3<|D2 C 3 hok U U isAgg3 hr1 hxi<|Di C 4 hok U U U U U b_lss<|D.fixv (t := 101) (v' := .bool false) U (by (refine congrArg Value.bool ?_; simp; omega)) ?_; refine Dm C 5 hok U U U<|Dm C 6 hok U U U<|Dm C 7 hok U U U<|Dx C 8 hok U U U runUnderlying28 sizeOf3<|D2 C 9 hok U U isAgg3 hr2 hyi<|Dm C 10 hok U U U<|Dm C 11 hok U U U<|Dx C 12 hok U U U runUnderlying28 sizeOf3<|D2 C 13 hok U U isAgg3 hr1 hxi<|Di C 14 hok U U U U U b_lss<|D.fixv (t := 111) (v' := .bool false) U (by (refine congrArg Value.bool ?_; simp; omega)) ?_; refine Dp 15 hok (fun _ _ _ A h => R.pickF C U (A.w U U) (A.x U U) (A.x U U) h)<|Dm C 16 hok U U U<|Dm C 17 hok U U U<|Dm C 18 hok U U U<|Dx C 19 hok U U U runUnderlying28 sizeOf3<|D2 C 20 hok U U isAgg3 hr2 hyi<|Dm C 21 hok U U U<|Dm C 22 hok U U U<|Dx C 23 hok U U U runUnderlying28 sizeOf3<|D2 C 24 hok U U isAgg3 hr1 hxi<|Di C 25 hok U U U U U (b_sub (by omega) (by omega))<|Dm C 26 hok U U U<|Dm C 27 hok U U U<|Di C 28 hok U U U U U (b_sub (by omega) (by omega))<|Di C 29 hok U U U U U b_gtr<|D.fixv (t := 126) (v' := .bool false) U (by (refine congrArg Value.bool ?_; simp; omega)) ?_; refine Dp 30 hok (fun _ _ _ A h => R.pickF C U (A.w U U) (A.x U U) (A.x U U) h)<|D.done C hok (by kernel_rfl)<|X.cond C.1 U (fun h => nomatch h) (fun _ => ?_)
   refine X.skip C.1<|Xs C<|Xr C U U<|Rm C U U<|R.int C U U U U b_eql<|R.done C<|X.cond C.1 U (fun hz => ?_) (fun hz => ?_)
   ·have hz : i = 0 := by simp at hz; omega
    refine X.exit C.1 U<|X.region C U U<|Rm C U U<|Ra C U U U<|Ad C U U<|X.weaken ?_ (hnext (i + 1) hi' (by omega))
    exact ⟨by simp [look], rfl, rfl, rfl, rfl, rfl, rfl, trivial⟩
   ·have hz : i ≠ 0 := by simp at hz; omega
    obtain ⟨k, rfl⟩ : ∃ k, i = k + 1 := ⟨i - 1, by omega⟩
    have hk : k < P.length := by omega
    have hkG : k < G.length := by omega
    have hkn : ((k + 1 : Nat) - 1 : Int).toNat = k := by omega
    have hxk : l1[o1 + ((k + 1 : Nat) - 1 : Int).toNat * 1]? = some (.int .i64 P[k]) := by rw [hkn]; exact ic_at hsub1 hk
    obtain ⟨p3, o3, c3, l3, t3, f3, hs3, hr3, hsub3⟩ := hq.at ic_len (by omega)
    cases hs3
    have hxg : l3[o3 + ((k + 1 : Nat) - 1 : Int).toNat * 1]? = some (.int .i64 G[k]) := by rw [hkn]; exact ic_at hsub3 hkG
    have hgk := hgm.2.1 _ (List.getElem_mem hkG)
    have hgl : G[k].toNat < b.ps.length := by omega
    have hsh2 := pt_sh (hpsub G[k].toNat hgl)
    have hsv : (b.ps[G[k].toNat]).sh = b.sheaves G[k] := by simp [Bk.sheaves, List.getD_eq_getElem?_getD, hgl]
    rw [hsv] at hsh2
    have hsb := hb.sheaves hgk.1 hgk.2
    have hl2 := hlaw2 k hkG
    rw [getD_get hi', getD_get hk, getD_get hkG] at hl2
    have hb3 := hlaw k (by omega)
    rw [getD_get hk] at hb3
    generalize hPk1 : P[k + 1] = pk1 at *
    generalize hPk : P[k] = pk at *
    generalize hGk : G[k] = gk at *
    generalize b.sheaves gk = s at *
    have hm : 0 ≤ pk1 * (s + 1) ∧ pk1 * (s + 1) ≤ 1000 := by
     have : s = 0 ∨ s = 1 ∨ s = 2 ∨ s = 3 ∨ s = 4 := by omega
     rcases this with rfl | rfl | rfl | rfl | rfl <;> omega
    refine X.skip C.1<|Xs C<|Xd C fun hok => Df (off' := 1) C 0 hok U U U runUnderlying27 U sizeOf22 U<|D1 C 1 hok U U isAgg22 (by repeat constructor) U<|Df (off' := 2) C 2 hok U U U runUnderlying27 U sizeOf23 U<|D1 C 3 hok U U isAgg23 (by repeat constructor) U<|Dm C 4 hok U U U<|Dx C 5 hok U U U runUnderlying23 sizeOf28<|D2 C 6 hok U U isAgg28 hgro hqat<|Dm C 7 hok U U U<|Di C 8 hok U U U U U (b_sub (by omega) (by omega))<|Dx C 9 hok U U U runUnderlying28 sizeOf3<|D2 C 10 hok U U isAgg3 hr3 hxg<|Dx C 11 hok U U U runUnderlying22 sizeOf67<|Df C 12 hok U U U runUnderlying67 U sizeOf3 U<|D2 C 13 hok U U isAgg3 hpro hsh2<|Da C 14 hok U U<|D.done C hok (by kernel_rfl)<|Xs C<|Xd C fun hok => Dm C 0 hok U U U<|Dm C 1 hok U U U<|Dx C 2 hok U U U runUnderlying28 sizeOf3<|D2 C 3 hok U U isAgg3 hr1 hxi<|Dm C 4 hok U U U<|Dm C 5 hok U U U<|Di C 6 hok U U U U U (b_sub (by omega) (by omega))<|Dx C 7 hok U U U runUnderlying28 sizeOf3<|D2 C 8 hok U U isAgg3 hr1 hxk<|Di C 9 hok U U U U U b_gtr<|D.fixv (t := 153) (v' := .bool false) U (by (refine congrArg Value.bool ?_; simp; omega)) ?_; refine Dm C 10 hok U U U<|Dm C 11 hok U U U<|Dm C 12 hok U U U<|Dx C 13 hok U U U runUnderlying28 sizeOf3<|D2 C 14 hok U U isAgg3 hr1 hxi<|Dm C 15 hok U U U<|Di C 16 hok U U U U U (b_add (by omega) (by omega))<|Di C 17 hok U U U U U (b_mul (by omega) (by omega))<|Dm C 18 hok U U U<|Dm C 19 hok U U U<|Di C 20 hok U U U U U (b_sub (by omega) (by omega))<|Dx C 21 hok U U U runUnderlying28 sizeOf3<|D2 C 22 hok U U isAgg3 hr1 hxk<|Di C 23 hok U U U U U b_lss<|D.fixv (t := 167) (v' := .bool false) U (by (refine congrArg Value.bool ?_; simp; omega)) ?_; refine Dp 24 hok (fun _ _ _ A h => R.pickF C U (A.w U U) (A.x U U) (A.x U U) h)<|Dm C 25 hok U U U<|Dm C 26 hok U U U<|Di C 27 hok U U U U U b_eql<|Dm C 28 hok U U U<|D.fix (t := 172) U (fun hs0 => ?_) (fun hs0 => ?_)
    ·have hs0 : s = 0 := by simpa using hs0
     refine Dm C 29 hok U U U<|Dm C 30 hok U U U<|Dx C 31 hok U U U runUnderlying28 sizeOf3<|D2 C 32 hok U U isAgg3 hr1 hxi<|Dm C 33 hok U U U<|Dm C 34 hok U U U<|Di C 35 hok U U U U U (b_sub (by omega) (by omega))<|Dx C 36 hok U U U runUnderlying28 sizeOf3<|D2 C 37 hok U U isAgg3 hr1 hxk<|Di C 38 hok U U U U U b_neq<|D.fixv (t := 182) (v' := .bool false) U (by (refine congrArg Value.bool ?_; simp; omega)) ?_; refine Dp 39 hok (fun _ _ _ A h => R.pickT C U (A.w U U) (A.x U U) (A.x U U) h)<|Dp 40 hok (fun _ _ _ A h => R.pickF C U (A.w U U) (A.x U U) (A.x U U) h)<|D.done C hok (by kernel_rfl)<|X.cond C.1 U (fun h => nomatch h) (fun _ => ?_)
     refine X.skip C.1<|X.inBlock C.1<|X.region C U U<|Rm C U U<|Ra C U U U<|Ad C U U<|X.weaken ?_ (hnext (k + 1 + 1) hi' (by omega))
     exact ⟨by simp [look], rfl, rfl, rfl, rfl, rfl, rfl, trivial⟩
    ·refine Du C 29 hok U<|Du C 30 hok U<|Du C 31 hok U<|Du C 32 hok U<|Du C 33 hok U<|Du C 34 hok U<|Du C 35 hok U<|Du C 36 hok U<|Du C 37 hok U<|Du C 38 hok U<|Dp 39 hok (fun _ _ _ A h => R.pickF C U (A.w U U) (A.x U U) (A.x U U) h)<|Dp 40 hok (fun _ _ _ A h => R.pickF C U (A.w U U) (A.x U U) (A.x U U) h)<|D.done C hok (by kernel_rfl)<|X.cond C.1 U (fun h => nomatch h) (fun _ => ?_)
     refine X.skip C.1<|X.inBlock C.1<|X.region C U U<|Rm C U U<|Ra C U U U<|Ad C U U<|X.weaken ?_ (hnext (k + 1 + 1) hi' (by omega))
     exact ⟨by simp [look], rfl, rfl, rfl, rfl, rfl, rfl, trivial⟩
  ·refine X.exit C.1 U<|Xr C U U<|R.callR C U U U U ((hoisted_c _ (he.mono k2))) fun v9 ro9 hl9 hq9 => Ad C U U<|X.ret0 C (by kernel_rfl) U U func7 U (by exact (.tmp U .nil)) fun w9 hs9 => hret _ _ _ (RO.le_trans k2 hl9) ?_ w9 hs9
   exact hq9
end Go.Lg.B
namespace Go.Lg.B
open Go Go.Proofs Go.Proofs.YtchjgmkeemdhlaaGreatDoor Go.Proofs.Tryz
set_option maxRecDepth 100000
theorem pulled_k1 : (Rows.tacklePulledRow.inPlace == prog.inPlace 7) = true := by kernel_rfl
theorem pulled_k2 : (Rows.tacklePulledRow.unfollowed == prog.unfollowed 7) = true := by kernel_rfl
theorem pulled_k3 : (Rows.tacklePulledRow.recurses == prog.recurses 7) = true := by kernel_rfl
theorem pulled_k4 : (Rows.tacklePulledRow.named == prog.varsNamed 7) = true := by kernel_rfl
theorem pulled_name : prog.funcNamed "lagan/laganlaw07.TacklePulled" = some 7 := by kernel_rfl
theorem pulled_goes : true = Rows.tacklePulledRow.goesBy prog := by kernel_rfl
theorem pulled_wf : Rows.tacklePulledRow.wfByText (OpenSpec.ofChange Rows.tacklePulledSpec) = true := by kernel_rfl
theorem pulled_facts : joinedFacts prog 7 Tryz.f7 Rows.tacklePulledSpec Rows.tacklePulledRow = true := by
 unfold joinedFacts
 exact (and_mk (and_mk (and_mk (and_mk (and_mk (and_mk (and_mk (and_mk (and_mk (and_mk (and_mk (and_mk (and_mk (and_mk (and_mk (and_mk (and_mk (and_mk (and_mk (and_mk (and_mk (and_mk (and_mk (and_mk (and_mk (and_mk (and_mk (and_mk (and_mk (and_mk (and_mk (by as_aux_lemma => kernel_rfl)
  k_lo)
  k_mr)
  (by as_aux_lemma => kernel_rfl))
  (by as_aux_lemma => kernel_rfl))
  (by as_aux_lemma => kernel_rfl))
  k_stops)
  (by as_aux_lemma => kernel_rfl))
  k_knobs)
  pulled_k1)
  pulled_k2)
  pulled_k3)
  pulled_k4)
  (by as_aux_lemma => kernel_rfl))
  (by as_aux_lemma => kernel_rfl))
  (by as_aux_lemma => kernel_rfl))
  (by as_aux_lemma => kernel_rfl))
  (by as_aux_lemma => kernel_rfl))
  (by as_aux_lemma => kernel_rfl))
  (by as_aux_lemma => kernel_rfl))
  (by as_aux_lemma => kernel_rfl))
  (by as_aux_lemma => kernel_rfl))
  (beq_iff_eq.2 k_pk.symm))
  (by as_aux_lemma => kernel_rfl))
  k_heard)
  k_may)
  (beq_iff_eq.2 k_lift.symm))
  (beq_iff_eq.2 k_make))
  (by as_aux_lemma => kernel_rfl))
  (by as_aux_lemma => kernel_rfl))
  (by as_aux_lemma => kernel_rfl))
  (by as_aux_lemma => kernel_rfl))
end Go.Lg.B
namespace Go.Proofs.YtchjgmkeemdhlaaGreatDoor
open Go Go.Conc Go.Lg Go.Lg.B Go.ChangeShapes Go.RowKit Go.WideShapes
set_option maxRecDepth 100000
theorem pulled_lifted (os : Os) (started : os.Started) (H : Type) (enc : TypeId × Value → H) :
  ReturnsInLeavingWide {} Tryz.checked os 7 .any (fun w args => (Rows.tacklePulledSpec.pre enc Tryz.prog Tryz.f7 [] false w args ∧ laidMetH Tryz.prog laid1 w) ∧ sizedMet enc Tryz.prog Tryz.f7 (OpenSpec.ofChange Rows.tacklePulledSpec) false w args)
   (Rows.tacklePulledSpec.post enc Tryz.prog Tryz.f7 false true false false) := by
 refine leaving_of_root (C := Tryz.checked) (tb := 4) (X := fun w _ => laidMetH Tryz.prog laid1 w) (fun _ _ _ hh h => h.of_heap hh) own0 started Tryz.func7 laid0 (by
   intro t ht
   rw [Tryz.params7] at ht
   have hm : t ∈ [27, 5, 5, 5] := ht
   have hall : ([27, 5, 5, 5].all fun u => Tryz.prog.readableRec u && decide (u < Tryz.prog.types.size)) = true := by kernel_rfl
   have := List.all_eq_true.1 hall t hm
   rw [Bool.and_eq_true, decide_eq_true_eq] at this
   exact this) rfl (by kernel_rfl) Tryz.underlying4
  (ChangeSpec.witness_shaped (enc := enc) (C := Tryz.checked) (os := os) (X := fun w _ => laidMetH Tryz.prog laid1 w) false (World.doorLaid Tryz.prog 89 os) #[.agg #[.int .i64 0, .slice none 0 0, .slice none 0 0, .slice none 0 0, .slice none 0 0], .int .u8 0, .int .u8 0, .int .u8 0] 8 rfl (door_shaped os _) (by kernel_rfl) (by kernel_rfl) (by kernel_rfl) (door_met os _)) ?_
 intro W base args ds gs before hval hW _ _ hL
 obtain ⟨p, q, hA, hV, rfl, _, _⟩ := hW
 obtain ⟨rfl, rfl⟩ := trodVars_none hV
 have hA : DataW.TrodAll enc Tryz.prog W 0 (fun _ => true) true Tryz.f7.params.toList args.toList ds p := hA
 have hval : ∀ (j : Nat) t v, Tryz.f7.params[j]? = some t → args[j]? = some v → Value.okWide Tryz.prog W .any base t v := hval
 rw [Tryz.params7] at hA hval
 obtain ⟨v1, l1, d1, k1, p1, q1, e1, rfl, rfl, h1, hA⟩ := trodAll_cons hA
 obtain ⟨v2, l2, d2, k2, p2, q2, rfl, rfl, rfl, h2, hA⟩ := trodAll_cons hA
 obtain ⟨v3, l3, d3, k3, p3, q3, rfl, rfl, rfl, h3, hA⟩ := trodAll_cons hA
 obtain ⟨v4, l4, d4, k4, p4, q4, rfl, rfl, rfl, h4, hA⟩ := trodAll_cons hA
 obtain ⟨rfl, rfl, rfl⟩ := trodAll_nil hA
 have ea : args = #[v1, v2, v3, v4] := Array.toList_inj.1 e1
 subst ea
 obtain ⟨b, b1⟩ := argBk (hval 0 27 v1 rfl rfl) h1
 obtain ⟨g, rfl, o1⟩ := argU8 (hval 1 5 v2 rfl rfl) h2
 obtain ⟨x, rfl, o2⟩ := argU8 (hval 2 5 v3 rfl rfl) h3
 obtain ⟨y, rfl, o3⟩ := argU8 (hval 3 5 v4 rfl rfl) h4
 exact ⟨rfl, pulled_root o1 o2 o3 (env_of_laid hL) b1⟩
theorem pulled_row : Rows.TacklePulledSaid :=
 OpenClaim.holds_of_wide_leaving 7 Tryz.f7 rfl rfl rfl rfl rfl rfl rfl ⟨rfl, rfl, rfl, rfl, rfl⟩ rfl rfl rfl rfl rfl pulled_name Tryz.func7 pulled_facts
  (of_decide_eq_true (by kernel_rfl)) (by unfold Func.isWrapper; first | (rw [if_pos (by decide +kernel)]; kernel_rfl) | (rw [if_neg (by decide +kernel)]; exact ⟨rfl, rfl⟩))
  (fun os started H enc _ => pulled_lifted os started H enc)
theorem pulled_holds : Rows.TacklePulledCardSaid :=
 card_goes .later [.funcs] true (true, "6ec45924a9ef3528b91853e2f3d4ce9a8ac3f7423f5bdc8d9ecf7c969235976f") true
  pulled_row pulled_wf tacklePulled_row_tie rfl ⟨rfl, rfl⟩ k_main rfl
  (fun f fn hf hfn => by
   obtain rfl : f = 7 := Option.some.inj (pulled_name.symm.trans hf) |>.symm
   obtain rfl : fn = Tryz.f7 := (Option.some.inj (Tryz.func7.symm.trans hfn)).symm
   exact ⟨k_looks, fun j t ht => by
    rw [Tryz.params7] at ht
    have hm : t ∈ [27, 5, 5, 5] := by simpa using Array.mem_of_getElem? ht
    have hall : ([27, 5, 5, 5].all fun u => !Tryz.prog.wantsStandIn u) = true := by kernel_rfl
    exact (show Tryz.prog.wantsStandIn t = false by simpa using List.all_eq_true.1 hall t hm)⟩)
  pulled_goes
end Go.Proofs.YtchjgmkeemdhlaaGreatDoor
