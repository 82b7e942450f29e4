/-
  It is proved that the given function answers true for every input, whatever is scheduled: the statement Cut of the seat. Conditions: none but those of the given statement itself.
-/
import Derived.Test.YtchjgmkeemdhlaaGreatDoorKE
import Derived.Conc.Holds
set_option maxRecDepth 100000
set_option maxHeartbeats 2000000
set_option linter.all false
namespace Go.Lg.B
open Go Go.Conc Go.Lg Go.Proofs Go.Proofs.Tryz
theorem cmpL_refl : ∀ a : List Int, cmpL a a = 0
 | [] => rfl
 | x :: xs => by
  have : cmpI x x = 0 := cmpI_zero.2 rfl
  simp [cmpL, this, cmpL_refl xs]
theorem loadOf_bd {x : Int} : 1 ≤ loadOf x ∧ loadOf x ≤ 99 := by unfold loadOf; omega
theorem gear_at {b : Bk} {g : Int} (_h0 : 0 ≤ g) (_h1 : g < b.gs.length) (hi : g.toNat < b.gs.length) : b.gs[g.toNat] = b.gear g := by simp [Bk.gear, List.getD_eq_getElem?_getD, hi]
theorem behind_one {n s : Int} (hn : 1 ≤ n) (hs : 0 ≤ s ∧ s ≤ 4) : 1 ≤ behind n s ∧ behind n s ≤ n ∧ n ≤ behind n s * (s + 1) ∧ (s = 0 → behind n s = n) := by
 have : s = 0 ∨ s = 1 ∨ s = 2 ∨ s = 3 ∨ s = 4 := by omega
 unfold behind
 rcases this with rfl | rfl | rfl | rfl | rfl <;> omega
theorem getD_get {l : List Int} {i : Nat} (h : i < l.length) : l.getD i 0 = l[i] := by rw [List.getD_eq_getElem?_getD, List.getElem?_eq_getElem h]; rfl
variable {main : Bool} {J : Goroutine → Mem → Prop} (hJ : Closed prog main J)
include hJ
theorem pullsK_c {b : Bk} {v : Value} {ro : RO} (hv : BkV ro v b) (hb : b.good) {g l : Int} (hg : 0 ≤ g ∧ g < b.gs.length) (hl : 0 ≤ l ∧ l ≤ 99) : CallR prog J (fnv 100) [v, .agg [.int .i64 g, .int .i64 l].toArray] ro (fun w ro' => LsI ro' w (pulls b g l) ∧ capOk w) := by
 obtain ⟨vp, vg, vc, vt, rfl, hp, hgs, hc, ht⟩ := hv
 obtain ⟨pb, pc, rfl⟩ := hp.form
 obtain ⟨pp, po, pcap, pl, ptt, pfq, hpe, hpro, hpsub⟩ := hp.at Pt.len (by have := hb.np; omega)
 cases hpe
 obtain ⟨gp, go, gcap, gl, gt, gfq, rfl, hgro, hgsub⟩ := hgs.at (by omega)
 obtain ⟨qb, qc, hqat, hqcap, hq⟩ := hgsub g.toNat (by omega)
 have hgear : b.gs[g.toNat]'(by omega) = b.gear g := by simp [Bk.gear, List.getD_eq_getElem?_getD, show g.toNat < b.gs.length by omega]
 rw [hgear] at hqat hqcap hq
 have hgn := hb.gear hg.1 hg.2
 have hgl := hb.gearLen hg.1 hg.2
 have hpl : pulls b g l = l :: pullsGo b l (b.gear g) := rfl
 rw [hpl]
 generalize b.gear g = q at hqat hqcap hq hgn hgl
 refine CallR.intro hJ (by kernel_rfl) fun c cs tail hret => enter_X (n := 54) func100 U U (Nl U) ?_
 have C : Ctx prog main J (bf 100 .normal) := ⟨hJ, by decide⟩
 refine Xr C U U<|R.box C U U U U fun p2 => R.box C U U U U fun p3 => Ad C U U<|Xr C U U<|Rf C 1 U U runUnderlying116 U sizeOf3<|Rl C U U isAgg3 (by repeat constructor) U<|R.buildSlice C (vs := _) U U (show pvals _ _ = some (numbered 0 [_]) from rfl) U runUnderlying28 sizeOf3 zeroValue3 (by decide) (Cat.one U U) fun p12 => Ad C U U<|Xs C<|Xr C U U<|Rf C 0 U U runUnderlying113 U sizeOf27<|Rf C 2 U U runUnderlying27 U sizeOf23<|Rl C U U isAgg23 (by repeat constructor) U<|Rf C 0 U U runUnderlying116 U sizeOf3<|Rl C U U isAgg3 (by repeat constructor) U<|Rx C U U U runUnderlying23 sizeOf28<|R.loadOneRo C U U U isAgg28 hgro hqat<|Rn C U U runUnderlying28<|Rm C U U<|R.done C<|X.block C.1<|X.loopI (ι := Nat × Value × List (Nat × Obj)) C.1 (fun s => s.1 ≤ q.length ∧ Buf 3 1 ((p3, .cells [.int .i64 g, .int .i64 l].toArray 116 (0, 0)) :: (p2, .cells [.int .i64 b.w, .slice (some ⟨pp, po, none⟩) b.ps.length pc, .slice (some ⟨gp, go, none⟩) b.gs.length gcap, vc, vt].toArray 113 (0, 0)) :: tail) s.2.1 ((l :: pullsGo b l (q.take s.1)).flatMap ic) s.2.2)
  (fun s => [(5, s.2.1), (19, .slice qb q.length qc), (20, .int .i64 (q.length : Int)), (21, .int .i64 (s.1 : Int)), (2, .pointer (some ⟨p2, 0, none⟩))])
  (fun s => ⟨ro, s.2.2⟩) (fun s => q.length - s.1) (0, _, _) ⟨Nat.zero_le _, ?_⟩ rfl ⟨U, U, U, U, U, trivial⟩ fun s hi hnext => ?_
 ·exact .blk (p := p12) (cells := [.int .i64 l]) (spare := []) (cap := 1) (len := 1) rfl rfl (Nat.le_refl _)
 obtain ⟨i, vo, own⟩ := s
 obtain ⟨hi, hbuf⟩ := hi
 simp only at hi hbuf hnext ⊢
 refine Xr C U U<|R.int C U U U U b_lss<|R.done C<|Xs C<|Xk C U (fun hlt => ?_) (fun hlt => ?_)
 ·have hi' : i < q.length := by omega
  obtain ⟨p, off, cap, ll, t, fq, hsl', hrop, hsub⟩ := hq.at ic_len (by omega)
  cases hsl'
  have hat := ic_at hsub hi'
  have hn := hgn.2.1 _ (List.getElem_mem hi')
  have htk : q.take (i + 1) = q.take i ++ [q[i]] := List.take_succ_eq_append_getElem hi'
  have hacc := pullsGo_snoc b (q.take i) l q[i]
  rw [← htk] at hacc
  generalize q[i] = m at hat hn hacc
  have hs := hb.sheaves hn.1 hn.2
  have hsh : (b.ps[m.toNat]'(by omega)).sh = b.sheaves m := by simp [Bk.sheaves, List.getD_eq_getElem?_getD, show m.toNat < b.ps.length by omega]
  have hpt := pt_sh (hpsub m.toNat (by omega))
  rw [hsh] at hpt
  have hbd : 0 ≤ (l :: pullsGo b l (q.take i)).getLastD 0 ∧ (l :: pullsGo b l (q.take i)).getLastD 0 ≤ 99 := by
   have h1 : (l :: pullsGo b l (q.take i)).getLastD 0 ∈ l :: pullsGo b l (q.take i) := by
    rw [List.getLastD_eq_getLast?, List.getLast?_eq_getLast (by simp)]; exact List.getLast_mem _
   rcases List.mem_cons.1 h1 with h2 | h2
   ·rw [h2]; exact hl
   ·have := pullsGo_bd hb (fun x hx => hgn.2.1 x (List.mem_of_mem_take hx)) hl.1 _ h2; omega
  have hlen : (pullsGo b l (q.take i)).length = i := by rw [pullsGo_len]; simp; omega
  obtain ⟨p9, cap9, spare9, rfl, rfl⟩ := bufAt hbuf (by simp [ic])
  have hfl : ((l :: pullsGo b l (q.take i)).flatMap ic).length = i + 1 := by rw [flat_len, List.length_cons, hlen]
  have hla := last_at (l := l :: pullsGo b l (q.take i)) (by simp) (sp := spare9) (z := (((l :: pullsGo b l (q.take i)).flatMap ic).length : Int) - 1) (by rw [hfl, List.length_cons, hlen])
  generalize hx : (l :: pullsGo b l (q.take i)).getLastD 0 = x at hbd hla hacc
  generalize b.sheaves m = sm at hs hpt hacc
  have hm := mul_bd hbd.1 hbd.2 hs.1 hs.2
  refine X.skip C.1<|Xs C<|X.block C.1<|Xr C U U<|Rx C U U U runUnderlying28 sizeOf3<|R.loadOneRo C U U U isAgg3 hrop hat<|Ad C U U<|Xr C U U<|Rf C 0 U U runUnderlying113 U sizeOf27<|Rf C 1 U U runUnderlying27 U sizeOf22<|Rl C U U isAgg22 (by repeat constructor) U<|Rm C U U<|Rx C U U U runUnderlying22 sizeOf67<|R.fieldAddr C U U U runUnderlying67 U sizeOf3 U<|R.loadOneRo C U U U isAgg3 hpro hpt<|Ad C U U<|Xr C U U<|Rm C U U<|Ra C U U U<|R.int C U U U U (b_mul (by omega) (by omega))<|Ad C U U<|X.region C U U<|Rm C U U<|Rm C U U<|Rm C U U<|Rn C U U runUnderlying28<|R.int C U U U U (b_sub (by omega) (by omega))<|Rx C U U U runUnderlying28 sizeOf3<|R.loadOne C U U U isAgg3 (by repeat constructor) hla<|Rm C U U<|Ra C U U U<|R.int C U U U U (b_mul (by omega) (by omega))<|Rm C U U<|Ra C U U U<|R.int C U U U U (b_sub (by omega) (by omega))<|Rm C U U<|R.int C U U U U (b_quoP (by omega) (by omega) (by omega))<|R.buildSlice C (vs := _) U U (show pvals _ _ = some (numbered 0 [_]) from rfl) U runUnderlying28 sizeOf3 zeroValue3 (by decide) (Cat.one U U) fun p50 => R.append1 (kk := 1) C U U U U runUnderlying28 runUnderlying28 (fun _ => nofun) (show prog.info? 3 = some Tryz.t3 by kernel_rfl) U U U (by decide) (by decide) hbuf U U (by simp only [List.length_append, List.length_cons, List.length_nil]; omega) fun v' own' hb' => Ad C U U ?_; refine X.inBlock C.1<|X.region C U U<|Ra C U U U<|Rm C U U<|R.done C<|X.weaken ?_ (hnext (i + 1, v', own') ⟨hi', ?_⟩ ?_)
  ·exact ⟨rfl, rfl, rfl, by simp [look], rfl, trivial⟩
  ·have e : x * (10 + sm) + 10 * (sm + 1) - 1 = x * (10 + sm) + 10 * (sm + 1) - 1 := rfl
   rw [hacc, ← List.cons_append, List.flatMap_append]
   exact hb'
  ·simp only; omega
 ·obtain rfl : i = q.length := by omega
  rw [List.take_length] at hbuf
  refine X.exit C.1 U<|Xr C U U<|Rm C U U<|Ad C U U ?_
  have hcap := hbuf.capOk
  refine X.finish C.1 ic_len (by decide) hbuf fun ro' hle hls => Xt C func100<|Hr hret hle ?_
  exact ⟨hls, hcap⟩
theorem pullsKR_c {b : Bk} {v : Value} {ro : RO} (he : Env ro) (hv : BkV ro v b) (hs : b.short) (hch : checkBook b = 0) (g n : Int) (hg : 0 ≤ g ∧ g < b.gs.length) (hn : 1 ≤ n ∧ n ≤ 99) : CallR prog J (fnv 24) [v, .int .i64 g, .int .i64 n] ro (fun w ro' => ∃ vl, (LsI ro' vl (pulls b g n) ∧ capOk vl) ∧ w = .tuple [vl, .int .i64 0].toArray) := by
 have hv' := hv
 obtain ⟨vp, vg, vc, vt, rfl, hv⟩ := hv
 obtain ⟨_, _, rfl⟩ := hv.2.1.form
 have hsg := hs.gs.1
 obtain ⟨_, _, rfl⟩ := hv.1.form
 obtain ⟨_, _, rfl⟩ := hv.2.2.1.form
 obtain ⟨_, _, rfl⟩ := hv.2.2.2.form
 refine CallR.intro hJ (by kernel_rfl) fun c cs tail hret => enter_X (n := 35) func24 U U (Nl U) ?_
 have C : Ctx prog main J (bf 24 .normal) := ⟨hJ, by decide⟩
 refine Xr C U U<|R.box C U U U U fun p3 => R.asg C U U U<|Ad C U U<|Xs C<|Xr C U U<|R5 C U U isAgg27 sizeOf27 (by repeat constructor) Tk5<|R.callP C U U U U (checkBook_c hJ (by assumption) (by assumption) (by assumption))<|Ad C U U<|Xr C U U<|Rm C U U<|R.int C U U U U b_neq<|R.fixv (t := 14) (v' := .bool false) U (by (rw [hch]; rfl))<|R.done C<|X.cond C.1 U (fun h => nomatch h) (fun _ => ?_)
 refine X.skip C.1<|Xs C<|Xr C U U<|Rm C U U<|Rf C 2 U U runUnderlying27 U sizeOf23<|Rl C U U isAgg23 (by repeat constructor) U<|Rn C U U runUnderlying23<|R.callP C U U U U (there_c hJ _ _ _ (by omega) (by omega))<|Ad C U U<|Xr C U U<|Rm C U U<|R.int C U U U U b_neq<|R.fixv (t := 22) (v' := .bool false) U (by (rw [there_zero.2 hg]; rfl))<|R.done C<|X.cond C.1 U (fun h => nomatch h) (fun _ => ?_)
 refine X.skip C.1<|Xs C<|Xr C U U<|Rm C U U<|R.callP C U U U U (load_c hJ _ _)<|Ad C U U<|Xr C U U<|Rm C U U<|R.int C U U U U b_neq<|R.fixv (t := 27) (v' := .bool false) U (by (rw [loadH_zero.2 hn]; rfl))<|R.done C<|X.cond C.1 U (fun h => nomatch h) (fun _ => ?_)
 refine X.skip C.1<|Xr C U U<|R5 C U U isAgg27 sizeOf27 (by repeat constructor) Tk5 ?_; refine R.build C U U U zeroValue113 U runUnderlying113 (by kernel_rfl) (Fills.part U U sizeOf27 U Ph5 .nil)<|Rm C U U<|Rm C U U ?_; refine R.build C U U U zeroValue116 U runUnderlying116 (by kernel_rfl) (Fills.part U U sizeOf3 U (.here .nil) (Fills.part U U sizeOf3 U (.skip (.here .nil)) .nil))<|R.callR C U U U U (pullsK_c hJ hv' (good_of hch) hg (by omega)) fun v1 ro1 hl1 hp1 => R.asg C U U U<|Ad C U U<|X.ret C U U func24 U (by exact (.tmp U (.tmp U .nil)))<|Hr hret hl1 ?_
 exact ⟨_, hp1, rfl⟩
end Go.Lg.B
namespace Go.Lg.B
open Go Go.Conc Go.Lg Go.Proofs Go.Proofs.Tryz
def pp (b : Bk) (n : Int) (q : List Int) : List Int := n :: pullsGo b n q
theorem pp_append (b : Bk) : ∀ (a d : List Int) (n : Int), pp b n (a ++ d) = (pp b n a).take a.length ++ pp b ((pp b n a).getD a.length 0) d
 | [], d, n => by simp [pp, pullsGo]
 | x :: a, d, n => by
  have := pp_append b a d (behind n (b.sheaves x))
  simp only [pp, List.cons_append, pullsGo, List.length_cons, List.take_succ_cons, List.getD_cons_succ] at this ⊢
  rw [this]
theorem pp_one {b : Bk} (hb : b.good) : ∀ {q : List Int} {n : Int}, (∀ x ∈ q, 0 ≤ x ∧ x < b.ps.length) → 1 ≤ n ∧ n ≤ 99 → ∀ y ∈ pp b n q, 1 ≤ y ∧ y ≤ 99
 | [], n, _, hn, y, hy => by simp [pp, pullsGo] at hy; subst hy; exact hn
 | x :: q, n, h, hn, y, hy => by
  rcases List.mem_cons.1 hy with rfl | hy
  ·exact hn
  ·have hx := h x (by simp)
   have a1 := behind_one hn.1 (hb.sheaves hx.1 hx.2)
   exact pp_one hb (fun z hz => h z (by simp [hz])) (by omega) y hy
theorem pullsGo_same {b c : Bk} (h : b.ps = c.ps) : ∀ (q : List Int) (n : Int), pullsGo b n q = pullsGo c n q
 | [], _ => rfl
 | x :: q, n => by
  have : b.sheaves x = c.sheaves x := by simp [Bk.sheaves, h]
  rw [pullsGo, pullsGo, this, pullsGo_same h q]
theorem gearGo_of {m : Int} : ∀ {l done : List Int}, (∀ n ∈ l, 0 ≤ n ∧ n < m) → l.Nodup → (∀ n ∈ l, n ∉ done) → gearGo m done l = 0
 | [], _, _, _, _ => rfl
 | x :: l, done, h1, h2, h3 => by
  rw [List.nodup_cons] at h2
  rw [gearGo, if_neg (fun h => h (there_zero.2 (h1 x (by simp)))), if_neg (h3 x (by simp))]
  refine gearGo_of (fun n hn => h1 n (by simp [hn])) h2.2 fun n hn hd => ?_
  rcases List.mem_append.1 hd with hd | hd
  ·exact h3 n (by simp [hn]) hd
  ·rw [List.mem_singleton] at hd; subst hd; exact h2.1 hn
def Bk.bare (b : Bk) : Bk := { b with ts := [] }
def Bk.cut (b : Bk) (q : List Int) (k : Nat) : Bk := { b with gs := [q, q.take k, q.drop k] }
theorem check_cut {b : Bk} (h : checkBook b = 0) (ht : b.ts = []) {q : List Int} (hq : (∀ n ∈ q, 0 ≤ n ∧ n < b.ps.length) ∧ q.Nodup) {k : Nat} (h1 : 1 ≤ k) (h2 : k < q.length) : checkBook (b.cut q k) = 0 := by
 obtain ⟨w, p, _, c, _⟩ := check_parts h
 have go : ∀ l : List Int, l ≠ [] → l.Sublist q → ∀ r, gearsGo b.ps.length (l :: r) = gearsGo b.ps.length r := fun l hl hs r => by
  rw [gearsGo, if_neg (by simpa using hl), if_neg (fun e => e (gearGo_of (fun n hn => hq.1 n (hs.subset hn)) (hs.nodup hq.2) (fun _ _ hd => by cases hd)))]
 have hg : (b.cut q k).gearsH = 0 := by
  have e : (b.cut q k).gearsH = gearsGo b.ps.length [q, q.take k, q.drop k] := rfl
  rw [e, go q (by intro e; rw [e] at h2; simp at h2) (List.Sublist.refl _), go (q.take k) (by intro e; rw [List.take_eq_nil_iff] at e; rcases e with e | e; omega; rw [e] at h2; simp at h2) (List.take_sublist _ _), go (q.drop k) (by intro e; have := congrArg List.length e; simp at this; omega) (List.drop_sublist _ _)]
  rfl
 have hts : (b.cut q k).testsH = 0 := by
  have : (b.cut q k).ts = [] := ht
  rw [Bk.testsH, this]; rfl
 have hw : (b.cut q k).winchH = 0 := w
 have hp : (b.cut q k).partsH = 0 := p
 have hc : (b.cut q k).piecesH = 0 := c
 unfold checkBook
 rw [hw, hp, hg, hc, hts]; rfl
theorem pulls_zero (b : Bk) (q : List Int) (k : Nat) (n : Int) : pulls (b.cut q k) 0 n = pp b n q ∧ pulls (b.cut q k) 1 n = pp b n (q.take k) ∧ pulls (b.cut q k) 2 n = pp b n (q.drop k) := by
 have e : ∀ l, pullsGo (b.cut q k) n l = pullsGo b n l := fun l => pullsGo_same (b := b.cut q k) (c := b) rfl l n
 exact ⟨congrArg (n :: ·) (e _), congrArg (n :: ·) (e _), congrArg (n :: ·) (e _)⟩
theorem sameInts_refl (a : List Int) : sameInts a a = true := by simp [sameInts, earlier, cmpL_refl]
theorem ic_get (l : List Int) (i : Nat) : (l.flatMap ic)[i]? = l[i]?.map (Value.int .i64) := by
 have e : l.flatMap ic = l.map (Value.int .i64) := by
  induction l with
  | nil => rfl
  | cons x l ih => rw [List.flatMap_cons, ih]; rfl
 rw [e, List.getElem?_map]
theorem lsI_drop {ro : RO} {base : Option Addr} {cap k : Nat} {xs : List Int} (h : LsI ro (.slice base xs.length cap) xs) (hk : k < xs.length) (hc : xs.length ≤ cap) : LsI ro (.slice (if cap = k then base else base.map (·.add (k * 1))) (xs.length - k) (cap - k)) (xs.drop k) := by
 obtain ⟨p, off, cap', l, t, fq, hv, hr, hsub⟩ := h.at ic_len (by omega)
 cases hv
 rw [if_neg (by omega)]
 have hadd : (some (⟨p, off, none⟩ : Addr)).map (·.add (k * 1)) = some ⟨p, off + k * 1, none⟩ := by by_cases h : k = 0 <;> simp [Addr.add, h]
 rw [hadd]
 have hl : (xs.drop k).length = xs.length - k := List.length_drop
 refine ⟨_, _, by rw [hl], .inr ⟨p, off + k * 1, l, t, fq, rfl, hr, ?_⟩⟩
 rw [hl]
 refine Sub.of_get ?_ (by rw [flat_len, hl, Nat.mul_one]) fun i hi => ?_
 ·have := (ic_at hsub (i := xs.length - 1) (by omega))
  have := (List.getElem?_eq_some_iff.1 this).1
  omega
 ·have hi' : k + i < xs.length := by omega
  have h1 := ic_at hsub hi'
  rw [Nat.mul_one] at h1
  rw [Nat.mul_one, Nat.add_assoc, h1, ic_get, List.getElem?_drop, List.getElem?_eq_getElem hi']; rfl
theorem cut_root {b : Bk} {vb : Value} {g0 y z : Int} (hg0 : 0 ≤ g0 ∧ g0 ≤ 255) (hy : 0 ≤ y ∧ y ≤ 255) (hz : 0 ≤ z ∧ z ≤ 255) {ro : RO} (he : Env ro) (hv : BkV ro vb b) : Root prog 8 [vb, .int .u8 g0, .int .u8 y, .int .u8 z] ro (fun w _ => w = .bool true) := by
 intro Post hret
 have hJ : Closed prog true (JM prog (Go.Conc.Good prog Post)) := JM.closed
 obtain ⟨vp, vg, vc, vt, rfl, hp, hg, hc, ht⟩ := hv
 obtain ⟨pb, pc, rfl⟩ := hp.form
 obtain ⟨gb, gc, rfl⟩ := hg.form
 obtain ⟨cb, cc, rfl⟩ := hc.form
 obtain ⟨tb, tc, rfl⟩ := ht.form
 have hvv : BkV ro (.agg [.int .i64 b.w, .slice pb b.ps.length pc, .slice gb b.gs.length gc, .slice cb b.cs.length cc, .slice none 0 0].toArray) b.bare := ⟨_, _, _, _, rfl, hp, hg, hc, .nil⟩
 let main := true
 let J := JM prog (Go.Conc.Good prog Post)
 refine enter_X (n := 118) func8 U U (Nl U) ?_
 have C : Ctx prog main J (bf 8 .normal) := ⟨hJ, by decide⟩
 refine Xr C U U<|R.box C U U U U fun p4 => Ad C U U<|Xr C U U<|Rf C 4 U U runUnderlying27 U sizeOf25<|R.store C U U U U sizeOf25 U U U (by repeat constructor) (.skip (.skip (.skip (.skip (.here .nil)))))<|R.done C<|Xs C<|Xr C U U<|R5 C U U isAgg27 sizeOf27 (by repeat constructor) Tk5<|R.callP C U U U U (fitR_c hJ hvv)<|R.not C U U U<|R.done C<|X.cond C.1 U (fun hfit => ?_) (fun hfit => ?_)
 ·refine Xr C U U<|R.callR C U U U U ((hoisted_c _ he)) fun v9 ro9 hl9 hq9 => Ad C U U<|X.ret0 C (by kernel_rfl) U U func8 U (by exact (.tmp U .nil)) fun w9 hs9 => hret _ _ _ hl9 ?_ w9 hs9
  exact hq9
 ·have hch : checkBook b.bare = 0 := by simpa using hfit
  have hb := good_of hch
  have hng : 1 ≤ b.gs.length ∧ b.gs.length ≤ 3 := hb.ng
  have hgb : 0 ≤ g0 % (b.gs.length : Int) ∧ g0 % (b.gs.length : Int) < b.gs.length := ⟨Int.emod_nonneg _ (by omega), Int.emod_lt_of_pos _ (by omega)⟩
  have hgear : (b.gear (g0 % (b.gs.length : Int))).length ≤ 4 := hb.gearLen hgb.1 hgb.2
  have hgm : _ ∧ (∀ n ∈ b.gear (g0 % (b.gs.length : Int)), 0 ≤ n ∧ n < b.ps.length) ∧ (b.gear (g0 % (b.gs.length : Int))).Nodup := hb.gear hgb.1 hgb.2
  obtain ⟨gp, go, gcap, gl, gt, gfq, hge, hgro, hgsub⟩ := hg.at (by omega)
  cases hge
  obtain ⟨qb, qc, hqat, hqcap, hq⟩ := hgsub (g0 % (b.gs.length : Int)).toNat (by omega)
  rw [gear_at hgb.1 hgb.2 (by omega)] at hqat hqcap hq
  refine X.skip C.1<|Xs C<|Xd C fun hok => Df (off' := 2) C 0 hok U U U runUnderlying27 U sizeOf23 U<|D1 C 1 hok U U isAgg23 (by repeat constructor) U<|Dm C 2 hok U U U<|Dp 3 hok (fun _ _ _ A h => R.convInt C U (A.w U U) (A.x U U) runUnderlying5 runUnderlying3 (wrap64 (by omega) (by omega)) h)<|Df (off' := 2) C 4 hok U U U runUnderlying27 U sizeOf23 U<|D1 C 5 hok U U isAgg23 (by repeat constructor) U<|Ds C 6 hok U U runUnderlying23<|Di C 7 hok U U U U U (b_remP (by omega) (by omega))<|Dx C 8 hok U U U runUnderlying23 sizeOf28<|D2 C 9 hok U U isAgg28 hgro hqat<|Dm C 10 hok U U U<|De 11 (some 35) [true, true, true] hok (fun _ _ A hk => ?_)
  refine R.callP C U (A.w U U) (A.x U U) (A.s U U) (loadR_c hJ (by omega) _) (hk _ _ ⟨(QFs.cons (QF.of U (fun _ _ A h => R.loadOneRo C U (A.w U U) (A.x U U) isAgg28 hgro hqat h)) (QFs.cons (QF.of U (fun _ _ A h => R.loadOne C U (A.w U U) (A.x U U) isAgg23 (by repeat constructor) U h)) (QFs.cons (QF.of U (fun _ _ A h => R.loadOne C U (A.w U U) (A.x U U) isAgg23 (by repeat constructor) U h)) QFs.nil))), ?_⟩)
  refine Da C 12 hok U U<|Da C 13 hok U U<|D.done C hok (by kernel_rfl)<|Xs C<|Xs C ?_
  generalize b.gear (g0 % (b.gs.length : Int)) = q at *
  have hlo : 1 ≤ loadOf y ∧ loadOf y ≤ 99 := loadOf_bd
  generalize loadOf y = n at hlo ⊢
  refine X.region C U U<|Rm C U U<|Rn C U U runUnderlying28<|R.int C U U U U b_lss<|R.done C<|X.cond C.1 U (fun hshort => ?_) (fun hshort => ?_)
  ·refine Xr C U U<|R.callR C U U U U ((hoisted_c _ he)) fun v9 ro9 hl9 hq9 => Ad C U U<|X.ret0 C (by kernel_rfl) U U func8 U (by exact (.tmp U .nil)) fun w9 hs9 => hret _ _ _ hl9 ?_ w9 hs9
   exact hq9
  ·have hq2 : 2 ≤ q.length := by simp only [dF] at hshort; omega
   have hmod : 0 ≤ z % ((q.length : Int) - 1) ∧ z % ((q.length : Int) - 1) < (q.length : Int) - 1 := ⟨Int.emod_nonneg _ (by omega), Int.emod_lt_of_pos _ (by omega)⟩
   refine X.skip C.1<|Xr C U U<|Rm C U U<|R.convInt C U U U runUnderlying5 runUnderlying3 (wrap64 (by omega) (by omega))<|Rm C U U<|Rn C U U runUnderlying28<|R.int C U U U U (b_sub (by omega) (by omega))<|R.int C U U U U (b_remP (by omega) (by omega))<|Ra C U U U<|Ad C U U<|Xs C ?_
   obtain ⟨k, hk⟩ : ∃ k : Nat, 1 + z % ((q.length : Int) - 1) = (k : Int) := ⟨(1 + z % ((q.length : Int) - 1)).toNat, by omega⟩
   have hk1 : 1 ≤ k ∧ k < q.length := by omega
   rw [hk]
   refine X.region C U U<|R5 C U U isAgg27 sizeOf27 (by repeat constructor) Tk5<|R.alloc C U U zeroValue27 U fun p12 => R.store C U U U U sizeOf27 U U U (by repeat constructor) Ph5<|R.done C<|Xs C<|Xd C fun hok => Dm C 0 hok U U U<|Dm C 1 hok U U U<|Dm C 2 hok U U U<|Dp 3 hok (fun _ _ _ A h => R.sliceTo C U (A.w U U) (A.x U U) (A.x U U) runUnderlying28 sizeOf3 (by omega) (by omega) h)<|Dm C 4 hok U U U<|Dm C 5 hok U U U<|Dp 6 hok (fun _ _ _ A h => R.sliceFrom C U (A.w U U) (A.x U U) (A.x U U) runUnderlying28 sizeOf3 (by omega) (by omega) h)<|De 7 (some 55) [] hok (fun _ _ A hk => ?_)
   refine R.buildSlice C (vs := _) U (A.w U U) (show pvals _ _ = some (numbered 0 [_, _, _]) from (A.p U U)) U runUnderlying23 sizeOf28 zeroValue28 (by decide) ((.cons U U (.cons U U (.cons U U .nil)))) fun p55 => hk _ _ ⟨QFs.nil, ?_⟩
   refine Df (off' := 2) C 8 hok U U U runUnderlying27 U sizeOf23 U<|De 9 none [] hok (fun _ _ A hk => ?_)
   refine R.store C U (A.w U U) (A.x U U) (A.x U U) sizeOf23 U U U (by repeat constructor) (.skip (.skip (.here .nil))) (hk undef _ ⟨QFs.nil, ?_⟩)
   refine D.done C hok (by kernel_rfl)<|Xs C<|Xs C<|X.persist C.1 fun ro1 hl1 h55 => X.persist C.1 fun ro2 hl2 h12 => ?_
   have k2 := RO.le_trans hl1 hl2
   have hch2 := check_cut hch rfl hgm.2 hk1.1 hk1.2
   have hsh2 := short_of (not_great hch2)
   have hb2 := good_of hch2
   simp only [Int.toNat_natCast] at h55
   have hv2 : BkV ro2 (.agg [.int .i64 b.w, .slice pb b.ps.length pc, .slice (some ⟨p55, 0, none⟩) 3 3, .slice cb b.cs.length cc, .slice none 0 0].toArray) (b.bare.cut q k) := by
    have hls := Ls.lit (enc := fun z : Value × List Int => [z.1]) (k := 1) (xs := [(.slice qb q.length qc, q), (.slice qb k qc, q.take k), (.slice (if qc = k then qb else qb.map (·.add (k * 1))) (q.length - k) (qc - k), q.drop k)]) (cap := 3) (fun _ => rfl) (hl2 _ _ h55)
    refine ⟨_, _, _, _, rfl, hp.mono k2, ⟨_, hls, rfl, fun x hx => ?_⟩, hc.mono k2, .nil⟩
    simp only [List.mem_cons, List.not_mem_nil, or_false] at hx
    rcases hx with rfl | rfl | rfl
    ·exact ⟨hq.mono k2, _, _, _, rfl, hqcap⟩
    ·exact ⟨lsI_take (hq.mono k2) (by omega), _, _, _, rfl, by omega⟩
    ·exact ⟨lsI_drop (hq.mono k2) hk1.2 hqcap, _, _, _, rfl, by omega⟩
   have hpz := pulls_zero b.bare q k
   have hlen1 : ∀ m l, (pp b.bare m l).length = l.length + 1 := fun m l => by simp [pp, pullsGo_len]
   have hlaw := pp_one hb (q := q.take k) (fun x hx => hgm.2.1 x (List.mem_of_mem_take hx)) hlo
   have hap := pp_append b.bare (q.take k) (q.drop k) n
   rw [List.take_append_drop, List.length_take, Nat.min_eq_left (by omega)] at hap
   refine X.region C U U<|R.loadAggRo C U U U isAgg27 sizeOf27 h12 (sub5 U)<|R.callP C U U U U (checkBookR_c hJ hv2 hsh2)<|R.int C U U U U b_neq<|R.fixv (t := 59) (v' := .bool false) U (by (rw [hch2]; rfl))<|R.done C<|X.cond C.1 U (fun h => nomatch h) (fun _ => ?_)
   refine X.skip C.1<|Xr C U U<|R.loadAggRo C U U U isAgg27 sizeOf27 h12 (sub5 U)<|Rm C U U<|R.callR C U U U U (pullsKR_c hJ (he.mono k2) hv2 hsh2 hch2 0 n (show (0 : Int) ≤ 0 ∧ (0 : Int) < 3 by omega) hlo) fun v3 ro3 hl3 hq3 => ?_
   obtain ⟨w3, ⟨y3, hcap3⟩, rfl⟩ := hq3
   rw [(hpz n).1] at y3
   refine Rm C U U<|R.ext C U U U U<|R.ext C U U U U<|R.asg C U U U<|Ad C U U<|Xr C U U<|R.loadAggRo C U U U isAgg27 sizeOf27 (hl3 _ _ h12) (sub5 U)<|Rm C U U<|R.callR C U U U U (pullsKR_c hJ (he.mono (RO.le_trans k2 hl3)) (hv2.mono hl3) hsh2 hch2 1 n (show (0 : Int) ≤ 1 ∧ (1 : Int) < 3 by omega) hlo) fun v4 ro4 hl4 hq4 => ?_
   obtain ⟨w4, ⟨y4, hcap4⟩, rfl⟩ := hq4
   rw [(hpz n).2.1] at y4
   have hl4' := hlen1 n (q.take k)
   rw [List.length_take, Nat.min_eq_left (by omega)] at hl4'
   generalize pp b.bare n (q.take k) = P1 at *
   have y4' := y4
   obtain ⟨p1, o1, c1, l1, t1, f1, hs1, hr1, hsub1⟩ := y4.at ic_len (by omega)
   subst hs1
   have hkP : k < P1.length := by omega
   have hc1 : P1.length ≤ c1 := by obtain ⟨_, _, _, e, h⟩ := hcap4; cases e; exact h
   have hx1 := ic_at hsub1 hkP
   have hlaw := hlaw _ (List.getElem_mem hkP)
   rw [getD_get hkP] at hap
   generalize P1[k] = m at hlaw hap hx1
   have k4 := RO.le_trans k2 (RO.le_trans hl3 hl4)
   refine Rm C U U<|R.ext C U U U U<|R.ext C U U U U<|R.asg C U U U<|Ad C U U<|Xs C<|Xr C U U<|Rm C U U<|R.int C U U U U b_neq<|R.fixv (t := 73) (v' := .bool false) U (by rfl)<|Rm C U U<|Rm C U U<|R.int C U U U U b_neq<|R.fixv (t := 76) (v' := .bool false) U (by rfl)<|R.pickF C U U U U<|Rm C U U<|Rm C U U<|Rn C U U runUnderlying28<|Rm C U U<|Ra C U U U<|R.int C U U U U b_neq<|R.fixv (t := 83) (v' := .bool false) U (by (refine congrArg Value.bool ?_; simp; omega)) ?_; refine R.pickF C U U U U<|Rm C U U<|Rm C U U<|Rm C U U<|Rx C U U U runUnderlying28 sizeOf3<|R.loadOneRo C U U U isAgg3 hr1 hx1<|R.callP C U U U U (betweenR_c hJ _ _ _ _)<|R.not C U U U<|R.fixv (t := 91) (v' := .bool false) U (by (rw [between_iff.2 hlaw]; rfl))<|R.pickF C U U U U<|R.done C<|X.cond C.1 U (fun h => nomatch h) (fun _ => ?_)
   refine X.skip C.1<|Xs C<|Xd C fun hok => Dl 0 hok (fun _ _ A h => R.loadAggRo C U (A.w U U) (A.x U U) isAgg27 sizeOf27 (hl4 _ _ (hl3 _ _ h12)) (sub5 U) h)<|Dm C 1 hok U U U<|Dm C 2 hok U U U<|Dx C 3 hok U U U runUnderlying28 sizeOf3<|D2 C 4 hok U U isAgg3 hr1 hx1<|De 5 (some 99) [false, false] hok (fun _ _ A hk => ?_)
   refine R.callR C U (A.w U U) (A.x U U) (A.s U U) (pullsKR_c hJ (he.mono k4) (hv2.mono (RO.le_trans hl3 hl4)) hsh2 hch2 2 m (show (0 : Int) ≤ 2 ∧ (2 : Int) < 3 by omega) hlaw) fun v5 ro5 hl5 hq5 => hk _ _ ⟨QFs.nil, ?_⟩
   obtain ⟨w5, ⟨y5, hcap5⟩, rfl⟩ := hq5
   rw [(hpz m).2.2] at y5
   have k5 := RO.le_trans k4 hl5
   have hl5' := hlen1 m (q.drop k)
   have hl3' := hlen1 n q
   rw [List.length_drop] at hl5'
   refine Dm C 6 hok U U U<|Dp 7 hok (fun _ _ _ A h => R.ext C U (A.w U U) (A.x U U) U h)<|Dp 8 hok (fun _ _ _ A h => R.ext C U (A.w U U) (A.x U U) U h)<|Da C 9 hok U U<|Da C 10 hok U U<|D.done C hok (by kernel_rfl)<|Xr C U U<|Rm C U U<|R.int C U U U U b_eql<|R.fixv (t := 103) (v' := .bool true) U (by rfl)<|Rm C U U<|Rm C U U<|R.buildSlice C (vs := _) U U (show pvals _ _ = some (numbered 0 []) from rfl) U runUnderlying28 sizeOf3 zeroValue3 (by decide) (.nil) fun p106 => Rm C U U<|Rm C U U<|R.sliceTo C U U U U runUnderlying28 sizeOf3 (by omega) (by omega)<|R.append (kk := 1) C U U U U runUnderlying28 runUnderlying28 (fun _ => nofun) (show prog.info? 3 = some Tryz.t3 by kernel_rfl) U U U (by decide) (by decide) (Buf.blk (cells := []) (spare := []) (len := 0) (cap := 0) U U (Nat.le_refl _)) ((lsI_take (k := k) (y4'.mono hl5) (by omega)).rd ic_len) (ones_ic _) (by rw [flat_len, List.length_take]; simp only [List.length_nil]; omega) fun v' own' hb' => Rm C U U<|R.append (kk := 1) C U U U U runUnderlying28 runUnderlying28 (fun _ => nofun) (show prog.info? 3 = some Tryz.t3 by kernel_rfl) U U U (by decide) (by decide) hb' (y5.rd ic_len) (ones_ic _) (by rw [List.nil_append, flat_len, flat_len, List.length_take]; omega) fun v' own' hb' => ?_
   rw [List.nil_append, ← List.flatMap_append] at hb'
   intro hok
   refine X.finish C.1 ic_len (by decide) hb' fun ro6 hl6 hls => ?_
   revert hok
   refine R.callP C U U U U (sameInts_c hJ (y3.mono (RO.le_trans hl4 (RO.le_trans hl5 hl6))) hls (by omega) (by simp only [List.length_append, List.length_take]; omega))<|R.fixv (t := 113) (v' := .bool true) U (by rw [hap, sameInts_refl]) ?_
   have k6 := RO.le_trans k5 hl6
   refine R.pickT C U U U U<|Rm C U U<|R.callR C U U U U ((hoisted_c _ (he.mono k6))) fun v9 ro9 hl9 hq9 => R.pickT C U U U U<|Ad C U U<|X.ret0 C (by kernel_rfl) U U func8 U (by exact (.tmp U .nil)) fun w9 hs9 => hret _ _ _ (RO.le_trans k6 hl9) ?_ w9 hs9
   exact hq9
end Go.Lg.B
namespace Go.Lg.B
open Go Go.Proofs Go.Proofs.YtchjgmkeemdhlaaGreatDoor Go.Proofs.Tryz
theorem cut_k1 : (Rows.tackleCutRow.inPlace == prog.inPlace 8) = true := by kernel_rfl
theorem cut_k2 : (Rows.tackleCutRow.unfollowed == prog.unfollowed 8) = true := by kernel_rfl
theorem cut_k3 : (Rows.tackleCutRow.recurses == prog.recurses 8) = true := by kernel_rfl
theorem cut_k4 : (Rows.tackleCutRow.named == prog.varsNamed 8) = true := by kernel_rfl
theorem cut_name : prog.funcNamed "lagan/laganlaw07.TackleCut" = some 8 := by kernel_rfl
theorem cut_goes : true = Rows.tackleCutRow.goesBy prog := by kernel_rfl
theorem cut_wf : Rows.tackleCutRow.wfByText (OpenSpec.ofChange Rows.tackleCutSpec) = true := by kernel_rfl
theorem cut_facts : joinedFacts prog 8 Tryz.f8 Rows.tackleCutSpec Rows.tackleCutRow = true := by
 unfold joinedFacts
 exact (and_mk (and_mk (and_mk (and_mk (and_mk (and_mk (and_mk (and_mk (and_mk (and_mk (and_mk (and_mk (and_mk (and_mk (and_mk (and_mk (and_mk (and_mk (and_mk (and_mk (and_mk (and_mk (and_mk (and_mk (and_mk (and_mk (and_mk (and_mk (and_mk (and_mk (and_mk (by as_aux_lemma => kernel_rfl)
  k_lo)
  k_mr)
  (by as_aux_lemma => kernel_rfl))
  (by as_aux_lemma => kernel_rfl))
  (by as_aux_lemma => kernel_rfl))
  k_stops)
  (by as_aux_lemma => kernel_rfl))
  k_knobs)
  cut_k1)
  cut_k2)
  cut_k3)
  cut_k4)
  (by as_aux_lemma => kernel_rfl))
  (by as_aux_lemma => kernel_rfl))
  (by as_aux_lemma => kernel_rfl))
  (by as_aux_lemma => kernel_rfl))
  (by as_aux_lemma => kernel_rfl))
  (by as_aux_lemma => kernel_rfl))
  (by as_aux_lemma => kernel_rfl))
  (by as_aux_lemma => kernel_rfl))
  (by as_aux_lemma => kernel_rfl))
  (beq_iff_eq.2 k_pk.symm))
  (by as_aux_lemma => kernel_rfl))
  k_heard)
  k_may)
  (beq_iff_eq.2 k_lift.symm))
  (beq_iff_eq.2 k_make))
  (by as_aux_lemma => kernel_rfl))
  (by as_aux_lemma => kernel_rfl))
  (by as_aux_lemma => kernel_rfl))
  (by as_aux_lemma => kernel_rfl))
end Go.Lg.B
namespace Go.Proofs.YtchjgmkeemdhlaaGreatDoor
open Go Go.Conc Go.Lg Go.Lg.B Go.ChangeShapes Go.RowKit Go.WideShapes
theorem cut_lifted (os : Os) (started : os.Started) (H : Type) (enc : TypeId × Value → H) :
  ReturnsInLeavingWide {} Tryz.checked os 8 .any (fun w args => (Rows.tackleCutSpec.pre enc Tryz.prog Tryz.f8 [] false w args ∧ laidMetH Tryz.prog laid1 w) ∧ sizedMet enc Tryz.prog Tryz.f8 (OpenSpec.ofChange Rows.tackleCutSpec) false w args)
   (Rows.tackleCutSpec.post enc Tryz.prog Tryz.f8 false true false false) := by
 refine leaving_of_root (C := Tryz.checked) (tb := 4) (X := fun w _ => laidMetH Tryz.prog laid1 w) (fun _ _ _ hh h => h.of_heap hh) own0 started Tryz.func8 laid0 (by
   intro t ht
   rw [Tryz.params8] at ht
   have hm : t ∈ [27, 5, 5, 5] := ht
   have hall : ([27, 5, 5, 5].all fun u => Tryz.prog.readableRec u && decide (u < Tryz.prog.types.size)) = true := by kernel_rfl
   have := List.all_eq_true.1 hall t hm
   rw [Bool.and_eq_true, decide_eq_true_eq] at this
   exact this) rfl (by kernel_rfl) Tryz.underlying4
  (ChangeSpec.witness_shaped (enc := enc) (C := Tryz.checked) (os := os) (X := fun w _ => laidMetH Tryz.prog laid1 w) false (World.doorLaid Tryz.prog 89 os) #[.agg #[.int .i64 0, .slice none 0 0, .slice none 0 0, .slice none 0 0, .slice none 0 0], .int .u8 0, .int .u8 0, .int .u8 0] 8 rfl (door_shaped os _) (by kernel_rfl) (by kernel_rfl) (by kernel_rfl) (door_met os _)) ?_
 intro W base args ds gs before hval hW _ _ hL
 obtain ⟨p, q, hA, hV, rfl, _, _⟩ := hW
 obtain ⟨rfl, rfl⟩ := trodVars_none hV
 have hA : DataW.TrodAll enc Tryz.prog W 0 (fun _ => true) true Tryz.f8.params.toList args.toList ds p := hA
 have hval : ∀ (j : Nat) t v, Tryz.f8.params[j]? = some t → args[j]? = some v → Value.okWide Tryz.prog W .any base t v := hval
 rw [Tryz.params8] at hA hval
 obtain ⟨v1, l1, d1, k1, p1, q1, e1, rfl, rfl, h1, hA⟩ := trodAll_cons hA
 obtain ⟨v2, l2, d2, k2, p2, q2, rfl, rfl, rfl, h2, hA⟩ := trodAll_cons hA
 obtain ⟨v3, l3, d3, k3, p3, q3, rfl, rfl, rfl, h3, hA⟩ := trodAll_cons hA
 obtain ⟨v4, l4, d4, k4, p4, q4, rfl, rfl, rfl, h4, hA⟩ := trodAll_cons hA
 obtain ⟨rfl, rfl, rfl⟩ := trodAll_nil hA
 have ea : args = #[v1, v2, v3, v4] := Array.toList_inj.1 e1
 subst ea
 obtain ⟨b, b1⟩ := argBk (hval 0 27 v1 rfl rfl) h1
 obtain ⟨g, rfl, o1⟩ := argU8 (hval 1 5 v2 rfl rfl) h2
 obtain ⟨x, rfl, o2⟩ := argU8 (hval 2 5 v3 rfl rfl) h3
 obtain ⟨y, rfl, o3⟩ := argU8 (hval 3 5 v4 rfl rfl) h4
 exact ⟨rfl, cut_root o1 o2 o3 (env_of_laid hL) b1⟩
theorem cut_row : Rows.TackleCutSaid :=
 OpenClaim.holds_of_wide_leaving 8 Tryz.f8 rfl rfl rfl rfl rfl rfl rfl ⟨rfl, rfl, rfl, rfl, rfl⟩ rfl rfl rfl rfl rfl cut_name Tryz.func8 cut_facts
  (of_decide_eq_true (by kernel_rfl)) (by unfold Func.isWrapper; first | (rw [if_pos (by decide +kernel)]; kernel_rfl) | (rw [if_neg (by decide +kernel)]; exact ⟨rfl, rfl⟩))
  (fun os started H enc _ => cut_lifted os started H enc)
theorem cut_holds : Rows.TackleCutCardSaid :=
 card_goes .later [.funcs] true (true, "6ec45924a9ef3528b91853e2f3d4ce9a8ac3f7423f5bdc8d9ecf7c969235976f") true
  cut_row cut_wf tackleCut_row_tie rfl ⟨rfl, rfl⟩ k_main rfl
  (fun f fn hf hfn => by
   obtain rfl : f = 8 := Option.some.inj (cut_name.symm.trans hf) |>.symm
   obtain rfl : fn = Tryz.f8 := (Option.some.inj (Tryz.func8.symm.trans hfn)).symm
   exact ⟨k_looks, fun j t ht => by
    rw [Tryz.params8] at ht
    have hm : t ∈ [27, 5, 5, 5] := by simpa using Array.mem_of_getElem? ht
    have hall : ([27, 5, 5, 5].all fun u => !Tryz.prog.wantsStandIn u) = true := by kernel_rfl
    exact (show Tryz.prog.wantsStandIn t = false by simpa using List.all_eq_true.1 hall t hm)⟩)
  cut_goes
end Go.Proofs.YtchjgmkeemdhlaaGreatDoor
